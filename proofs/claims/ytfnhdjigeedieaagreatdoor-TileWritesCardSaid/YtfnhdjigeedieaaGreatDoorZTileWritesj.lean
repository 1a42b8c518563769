/- Part 10 of what TileWrites leans on: Og Vg CodeVh Vh CodeRd Rd CodeOh Oh CodeOi Oi CodeGi Gi Xa CodeXb Xb CodeXd Xd CodeHv Hv Hzb Hta Htd CodeRb. -/
import Derived.Test.YtfnhdjigeedieaaGreatDoorProg
import Derived.KernelRfl
import Derived.Test.YtfnhdjigeedieaaGreatDoorZTileWritesi
set_option linter.defProp false
set_option linter.unusedSimpArgs false
set_option linter.unusedVariables false
set_option maxRecDepth 100000
section
attribute [local go_sem] reduceCtorEq Nat.reduceEqDiff Nat.reduceAdd Nat.reduceSub Nat.reduceMul Nat.reduceLeDiff Int.reduceLT Int.reduceLE Int.reduceEq Int.reduceNeg Int.reduceAdd Int.reduceSub Int.reduceMul true_imp_iff forall_const Nat.mul_one Int.reduceToNat Nat.reducePow Int.reducePow Bool.true_and Bool.false_and Bool.and_false
attribute [local go_sem ↓] reduceIte
namespace Go.A
open Go.Proofs Go.Lib Go.Vint
theorem TC.rav_agg (c:TC):∃ cs,c.rav = .agg cs/\cs.length=15/\leaves cs=true:=by
 obtain ⟨⟨op,n,s,a,b,ks⟩,v⟩:=c
 exact ⟨_,rfl,rfl,rfl⟩
theorem r20count_ok (T:List TC) (hl:T.length<=1000):Pure Tryz.prog 15 [.sl .shr (T.map TC.rav)] (.int .i64 (countT T:Nat)):=by
 intro σ
 have hxl:(T.map TC.rav).length=T.length:=List.length_map _
 have hxg:∀ (i:Nat) (c:TC),T[i]? = some c->(T.map TC.rav)[i]? = some c.rav:=fun i c h=>by rw [List.getElem?_map,h];rfl
 generalize T.map TC.rav=X at *
 refine a15 (by simp) ?_
 simp (disch:=first|assumption|omega) only [go_sem]
 refine wp_loop_on (fun (i:Nat) a1 s2=>i<=T.length/\(a1 3 = .int .i64 (countT (T.take i):Nat)/\a1 6 = .sl .shr X/\a1 7 = .int .i64 T.length/\a1 8 = .int .i64 i)/\Drop s2 σ) (fun i=>T.length-i) 0 ⟨Nat.zero_le _,?_,Drop.refl _⟩ ?_
 ·simp (disch:=first|assumption|omega) only [go_sem,hxl]
  all_goals simp [countT]
 rintro i a1 s2 ⟨hi,hf,hd⟩
 by_cases hlt:i<T.length
 ·have hlt':(i:Int)<T.length:=by omega
  obtain ⟨c,hc⟩:∃ c,T[i]? = some c:=⟨_,List.getElem?_eq_getElem hlt⟩
  have hx:=hxg i c hc
  have hst:=countT_step hc
  have hle:=countT_le (T.take i)
  rw [List.length_take] at hle
  have hE:=r20empty_ok c
  obtain ⟨cs,he,hcl,hlv⟩:=c.rav_agg
  rw [he] at hx hE
  have h15:cs.take 15=cs:=List.take_of_length_le (by omega)
  generalize c.empty=ce at *
  have hn1:((i:Nat):Int).toNat=i:=rfl
  simp (disch:=first|assumption|omega) only [go_sem,hf,hlt',hx,hn1,hcl,h15]
  refine allocC_by fun c5 h5=>?_
  have d5:=fun r=>(Drop.set (r:=r) h5).trans hd
  simp (disch:=first|assumption|omega) only [go_sem,hcl,hlv,h15,ASt.set_set]
  refine hE.use ?_
  cases ce with
  | true=>
    simp (disch:=first|assumption|omega) only [go_sem,hf]
    refine ⟨i+1,by omega,by omega,?_,d5 _⟩
    rw [hst]
    simp (disch:=first|assumption|omega) only [go_sem]
  | false=>
    simp (disch:=first|assumption|omega) only [go_sem,hf]
    refine ⟨i+1,by omega,by omega,?_,d5 _⟩
    rw [hst]
    simp (disch:=first|assumption|omega) only [go_sem]
 ·have hlt':¬ (i:Int)<T.length:=by omega
  have hT:T.take i=T:=List.take_of_length_le (by omega)
  rw [hT] at hf
  simp (disch:=first|assumption|omega) only [go_sem,hf,hlt']
  exact retC_by hd (.refl _) ⟨rfl,rfl⟩
theorem r20layout_ok (T:List TC) (hl:T.length<=1000) (k:Int):Pure Tryz.prog 17 [.sl .shr (T.map TC.rav),.int .i64 k] (.int .i64 (layT T k)):=by
 intro σ
 have hC:=r20count_ok T hl
 have hle:=countT_le T
 unfold layT
 generalize T.map TC.rav=X at *
 by_cases h1:1<=k
 ·by_cases h3:k<=3
  ·rw [if_pos ⟨h1,h3⟩]
   refine a17 (by simp) ?_
   simp (disch:=first|assumption|omega) only [go_sem,h1,h3]
   exact retC_by (.refl _) (.refl _) ⟨rfl,rfl⟩
  ·rw [if_neg (fun hh=>h3 hh.2)]
   refine a17 (by simp) ?_
   simp (disch:=first|assumption|omega) only [go_sem,h1,h3]
   refine hC.use ?_
   by_cases h10:countT T<10
   ·have h10':((countT T:Nat):Int)<10:=by omega
    rw [if_pos h10]
    simp (disch:=first|assumption|omega) only [go_sem,h10']
    exact retC_by (.refl _) (.refl _) ⟨rfl,rfl⟩
   ·have h10':¬ ((countT T:Nat):Int)<10:=by omega
    rw [if_neg h10]
    simp (disch:=first|assumption|omega) only [go_sem,h10']
    exact retC_by (.refl _) (.refl _) ⟨rfl,rfl⟩
 ·rw [if_neg (fun hh=>h1 hh.1)]
  refine a17 (by simp) ?_
  simp (disch:=first|assumption|omega) only [go_sem,h1]
  refine hC.use ?_
  by_cases h10:countT T<10
  ·have h10':((countT T:Nat):Int)<10:=by omega
   rw [if_pos h10]
   simp (disch:=first|assumption|omega) only [go_sem,h10']
   exact retC_by (.refl _) (.refl _) ⟨rfl,rfl⟩
  ·have h10':¬ ((countT T:Nat):Int)<10:=by omega
   rw [if_neg h10]
   simp (disch:=first|assumption|omega) only [go_sem,h10']
   exact retC_by (.refl _) (.refl _) ⟨rfl,rfl⟩
end Go.A
namespace Go.A
open Go.Proofs Go.Vint
section
variable {σ0 σ:ASt} {b c n s:Nat} {k:SK} {rb:Role} {q q':Role}
theorem Grown.plus (hg:Grown σ0 σ k n s) (hc:σ c=none):Grown (σ0.set c (some q)) (σ.set c (some q)) k n s/\σ0 c=none:=by
 rcases hg with ⟨h1,h2,rfl⟩|⟨t,T,h1,h2,rfl⟩
 ·exact ⟨.inl ⟨h1,h2,rfl⟩,hc⟩
 ·obtain ⟨h3,h4,h5⟩:=set_none hc
  exact ⟨.inr ⟨t,T,h1,by rw [ASt.set_ne h4];exact h2,set_swap h4⟩,h5⟩
end
end Go.A
namespace Go.A
open Go.Proofs
/-! 45: tabular/tabularref02.Uint -/
def c45_9:ACode := .seq (.ops [ oq 2 (.mv (.v (.str [])))]) (.seq (.seq (.ops [ oq 3 (.mv (.t 0)),oq 4 (.bin .lss (.t 3) (.v (.int .u64 128)))]) (.cond (.t 4) (.seq (.ops [ oq 5 (.mv (.t 0)),oq 6 (.conv .u8 (.t 5)),oq 7 (.bsl 1 [(.t 6)]),oq 8 (.b2s (.t 7)),oq 2 (.mv (.t 8))]) .ret) .skip)) (.seq (.ops [ oq 9 (.mv (.t 0)),oq 10 (.bin .rem (.t 9) (.v (.int .u64 128))),oq 11 (.bin .add (.v (.int .u64 128)) (.t 10)),oq 12 (.conv .u8 (.t 11)),oq 13 (.bsl 1 [(.t 12)]),oq 14 (.b2s (.t 13)),oq 15 (.mv (.t 0)),oq 16 (.bin .quo (.t 15) (.v (.int .u64 128))),⟨some 17,none,.e (.call 45 [(.t 16)]),[⟨none,.b2s (.t 13),14⟩]⟩,oq 18 (.bin .add (.t 14) (.t 17)),oq 2 (.mv (.t 18))]) .ret))
@[go_sem] def c45_9_wp:=wp_of c45_9.eq_1
def c45:AFn:=⟨19,[.t 2],c45_9⟩
theorem c45_ok:compF Tryz.prog Tryz.f45=some c45:=by kernel_rfl
theorem a45 {args:List AV} {σ:ASt} {R:AV->ASt->Prop} (hl:args.length<=19) (h:c45_9.wp Tryz.prog (RetQ [.t 2] R) (init args) σ):ACalls Tryz.prog 45 args σ R:=acalls_of Tryz.func45 c45_ok hl h
/-! 48: tabular/tabularref02.Rising -/
def c48_17:ACode := .seq (.ops [ oq 13 (.bin .lss (.t 12) (.t 11))]) (.seq (.cond (.t 13) .skip (.exit 0)) (.seq (.block 1 (.seq (.ops [ oq 14 (.mv (.t 12)),oq 15 (.ia 1 (.t 10) (.t 12)),oq 16 (.ld none (.t 15)),oq 4 (.mv (.t 14)),oq 5 (.mv (.t 16))]) (.seq (.seq (.ops [ oq 17 (.mv (.t 4)),oq 18 (.bin .gtr (.t 17) (.v (.int .i64 0)))]) (.cond (.t 18) (.ops [ oq 19 (.mv (.t 5)),oq 20 (.mv (.t 0)),oq 21 (.mv (.t 4)),oq 22 (.bin .sub (.t 21) (.v (.int .i64 1))),oq 23 (.ia 1 (.t 20) (.t 22)),oq 24 (.ld none (.t 23)),oq 25 (.bin .sub (.t 19) (.t 24)),oq 26 (.bin .sub (.t 25) (.v (.int .u64 1))),oq 5 (.mv (.t 26))]) .skip)) (.ops [ oq 27 (.mv (.t 3)),oq 28 (.mv (.t 5)),oe 29 (.call 45 [(.t 28)]),oq 30 (.bin .add (.t 27) (.t 29)),oq 3 (.mv (.t 30))])))) (.ops [ oq 31 (.bin .add (.t 12) (.v (.int .i64 1))),oq 12 (.mv (.t 31))])))
def c48_25:ACode := .seq (.ops [ oq 2 (.mv (.v (.str [])))]) (.seq (.ops [ oq 6 (.mv (.t 0)),oq 7 (.len (.t 6)),oq 8 (.conv .u64 (.t 7)),oe 9 (.call 45 [(.t 8)]),oq 3 (.mv (.t 9))]) (.seq (.seq (.ops [ oq 10 (.mv (.t 0)),oq 11 (.len (.t 10)),oq 12 (.mv (.v (.int .i64 0)))]) (.block 0 (.loop c48_17))) (.seq (.ops [ oq 32 (.mv (.t 3)),oq 2 (.mv (.t 32))]) .ret)))
@[go_sem] def c48_17_wp:=wp_of c48_17.eq_1
@[go_sem] def c48_25_wp:=wp_of c48_25.eq_1
def c48:AFn:=⟨33,[.t 2],c48_25⟩
theorem c48_ok:compF Tryz.prog Tryz.f48=some c48:=by kernel_rfl
theorem a48 {args:List AV} {σ:ASt} {R:AV->ASt->Prop} (hl:args.length<=33) (h:c48_25.wp Tryz.prog (RetQ [.t 2] R) (init args) σ):ACalls Tryz.prog 48 args σ R:=acalls_of Tryz.func48 c48_ok hl h
/-! 143: tabular/tabularref02.Fold -/
def c143_9:ACode := .seq (.ops [ oq 2 (.mv (.v (.int .u64 0)))]) (.seq (.seq (.ops [ oq 3 (.mv (.t 0)),oq 4 (.bin .lss (.t 3) (.v (.int .i64 0)))]) (.cond (.t 4) (.seq (.ops [ oq 5 (.mv (.t 0)),oq 6 (.bin .add (.t 5) (.v (.int .i64 1))),oq 7 (.un .neg (.t 6)),oq 8 (.conv .u64 (.t 7)),oq 9 (.bin .mul (.v (.int .u64 2)) (.t 8)),oq 10 (.bin .add (.t 9) (.v (.int .u64 1))),oq 2 (.mv (.t 10))]) .ret) .skip)) (.seq (.ops [ oq 11 (.mv (.t 0)),oq 12 (.conv .u64 (.t 11)),oq 13 (.bin .mul (.v (.int .u64 2)) (.t 12)),oq 2 (.mv (.t 13))]) .ret))
@[go_sem] def c143_9_wp:=wp_of c143_9.eq_1
def c143:AFn:=⟨14,[.t 2],c143_9⟩
theorem c143_ok:compF Tryz.prog Tryz.f143=some c143:=by kernel_rfl
theorem a143 {args:List AV} {σ:ASt} {R:AV->ASt->Prop} (hl:args.length<=14) (h:c143_9.wp Tryz.prog (RetQ [.t 2] R) (init args) σ):ACalls Tryz.prog 143 args σ R:=acalls_of Tryz.func143 c143_ok hl h
/-! 144: tabular/tabularref02.Text -/
def c144_3:ACode := .seq (.ops [ oq 2 (.mv (.v (.str [])))]) (.seq (.ops [ oq 3 (.mv (.t 0)),oq 4 (.lenS (.t 3)),oq 5 (.conv .u64 (.t 4)),oe 6 (.call 45 [(.t 5)]),oq 7 (.mv (.t 0)),oq 8 (.bin .add (.t 6) (.t 7)),oq 2 (.mv (.t 8))]) .ret)
@[go_sem] def c144_3_wp:=wp_of c144_3.eq_1
def c144:AFn:=⟨9,[.t 2],c144_3⟩
theorem c144_ok:compF Tryz.prog Tryz.f144=some c144:=by kernel_rfl
theorem a144 {args:List AV} {σ:ASt} {R:AV->ASt->Prop} (hl:args.length<=9) (h:c144_3.wp Tryz.prog (RetQ [.t 2] R) (init args) σ):ACalls Tryz.prog 144 args σ R:=acalls_of Tryz.func144 c144_ok hl h
end Go.A
namespace Go.A
open Go.Proofs Go.Vint
theorem refUint_ok:∀ (n:Nat) (u:Int),u.toNat=n->0<=u->u<=18446744073709551615->Pure Tryz.prog 45 [.int .u64 u] (.str (uintB u.toNat)):=by
 intro n
 induction n using Nat.strongRecOn with
 | _ n ih=>
   intro u hn h0 h1 σ
   refine a45 (by simp) ?_
   by_cases h:u<128
   ·have hw:IntKind.wrap .u8 u=u:=by rw [wrap8];omega
    simp (disch:=first|assumption|omega) only [go_sem,h,hw]
    exact retC_by (Drop.refl _) (.refl _) ⟨by rw [uintB_i h0 h];rfl,rfl⟩
   ·have hw:u.tmod 128=u % 128:=by rw [Int.tmod_eq_emod_of_nonneg h0]
    have hd:u.tdiv 128=u / 128:=by rw [Int.tdiv_eq_ediv_of_nonneg h0]
    have hlen:1+(uintB (u / 128).toNat).length<=9223372036854775807:=by have:=uintB_le (u:=u / 128) (by omega);omega
    simp (disch:=first|assumption|omega) only [go_sem,h,hw,hd]
    refine (ih (u / 128).toNat (by omega) (u / 128) rfl (by omega) (by omega)).use ?_
    simp (disch:=first|assumption|omega) only [go_sem]
    refine retC_by (Drop.refl _) (.refl _) ⟨?_,rfl⟩
    rw [uintB_j (u:=u) (by omega)]
    rfl
theorem refUint_ok' (u:Int) (h0:0<=u) (h1:u<=18446744073709551615):Pure Tryz.prog 45 [.int .u64 u] (.str (uintB u.toNat)):=refUint_ok _ u rfl h0 h1
theorem refFold_ok (n:Int) (h1 : -9223372036854775808<=n) (h2:n<=9223372036854775807):Pure Tryz.prog 143 [.int .i64 n] (.int .u64 (foldI n)):=by
 intro σ
 refine a143 (by simp) ?_
 unfold foldI
 by_cases h:n<0
 ·have e:0-(n+1) = -(n+1):=by omega
  rw [if_pos h]
  simp (disch:=first|assumption|omega) only [go_sem,h,e]
  exact retC_by (Drop.refl _) (.refl _) ⟨rfl,rfl⟩
 ·rw [if_neg h]
  simp (disch:=first|assumption|omega) only [go_sem,h]
  exact retC_by (Drop.refl _) (.refl _) ⟨rfl,rfl⟩
theorem refRising_ok (L:List Int) (hL:Rises L) (hn:L.length<=1000):Pure Tryz.prog 48 [u64sAV L] (.str (risingB L)):=by
 intro σ
 refine a48 (by simp) ?_
 have hu:=uintB_le (u:=L.length) (by omega)
 rw [Int.toNat_natCast] at hu
 have hgl:=gaps_length L
 have hgb:=gaps_bd hL
 simp (disch:=first|assumption|omega) only [go_sem,u64sAV]
 refine (refUint_ok' L.length (by omega) (by omega)).use ?_
 simp (disch:=first|assumption|omega) only [go_sem]
 have hnl:∀ i,(numsB ((gaps L).take i)).length<=10*L.length:=fun i=>by
  have:=numsB_len ((gaps L).take i) (fun x hx=>hgb x (List.mem_of_mem_take hx))
  simp only [List.length_take] at this
  omega
 refine wp_loop_on (fun (i:Nat) a σ'=>i<=L.length/\(a 0 = .sl .shr (L.map (AV.int .u64))/\a 3 = .str (uintB L.length++numsB ((gaps L).take i))/\a 10 = .sl .shr (L.map (AV.int .u64))/\a 11 = .int .i64 L.length/\a 12 = .int .i64 i)/\σ'=σ)
  (fun i=>L.length-i) 0 ⟨Nat.zero_le _,?_,rfl⟩ ?_
 ·simp (disch:=first|assumption|omega) only [go_sem]
  simp [numsB]
 rintro i a σ1 ⟨hi,hf,rfl⟩
 have hni:=hnl i
 by_cases hlt:i<L.length
 ·have hlt':(i:Int)<L.length:=by omega
  have hidx : L[i]? = some (L[i]'hlt) := List.getElem?_eq_getElem hlt
  obtain ⟨x, hx⟩ : ∃ x, L[i]'hlt = x := ⟨_, rfl⟩
  rw [hx] at hidx
  obtain ⟨x0,x1⟩:=hL.at_ hidx
  have hbx:=uintB_le x1
  have hmap:(L.map (AV.int .u64))[i]? = some (.int .u64 x):=by rw [List.getElem?_map,hidx];rfl
  by_cases hi0:i=0
  ·have hz:¬ (0:Int)<i:=by omega
   have hlen:(uintB L.length++numsB ((gaps L).take i)).length+(uintB x.toNat).length<=9223372036854775807:=by simp only [List.length_append];omega
   simp (disch:=first|assumption|omega) only [go_sem,hf,hlt',hmap,hz]
   refine (refUint_ok' x x0 x1).use ?_
   simp (disch:=first|assumption|omega) only [go_sem,hf]
   have hsn:=numsB_snoc (gaps_zero (hi0▸hidx))
   rw [show (0:Nat)+1=i+1 by omega,← hi0] at hsn
   refine ⟨i+1,by omega,by omega,?_,rfl⟩
   rw [hsn,← List.append_assoc]
  ·obtain ⟨j,hji⟩:∃ j,i=j+1:=⟨i-1,by omega⟩
   have hj : L[j]? = some (L[j]'(by omega)) := List.getElem?_eq_getElem (by omega)
   obtain ⟨y, hy⟩ : ∃ y, L[j]'(by omega) = y := ⟨_, rfl⟩
   rw [hy] at hj
   obtain ⟨y0,y1⟩:=hL.at_ hj
   have hxy:=hL.2 j y x hj (hji▸hidx)
   have hbx':=uintB_le (u:=x-y-1) (by omega)
   have hmapj:(L.map (AV.int .u64))[j]? = some (.int .u64 y):=by rw [List.getElem?_map,hj];rfl
   have hnz:(0:Int)<i:=by omega
   have hsub:(i:Int)-1=j:=by omega
   have hlen:(uintB L.length++numsB ((gaps L).take i)).length+(uintB (x-y-1).toNat).length<=9223372036854775807:=by simp only [List.length_append];omega
   simp (disch:=first|assumption|omega) only [go_sem,hf,hlt',hmap,hnz,hsub,hmapj]
   refine (refUint_ok' (x-y-1) (by omega) (by omega)).use ?_
   simp (disch:=first|assumption|omega) only [go_sem,hf]
   have hsn:=numsB_snoc (gaps_succ hj (hji▸hidx))
   rw [<-hji] at hsn
   refine ⟨i+1,by omega,by omega,?_,rfl⟩
   rw [hsn,← List.append_assoc]
 ·have hlt':¬ (i:Int)<L.length:=by omega
  have e:(gaps L).take i=gaps L:=List.take_of_length_le (by omega)
  rw [e] at hf
  simp (disch:=first|assumption|omega) only [go_sem,hf,hlt']
  exact retC_by (Drop.refl _) (.refl _) ⟨rfl,rfl⟩
end Go.A
namespace Go.A
open Go.Proofs
/-! 90: tabular/tabularref12.Write -/
def c90_41:ACode := .seq (.ops [ oq 64 (.bin .lss (.t 63) (.t 62))]) (.seq (.cond (.t 64) .skip (.exit 1)) (.seq (.block 2 (.seq (.ops [ oq 65 (.ia 12 (.t 61) (.t 63)),oq 66 (.ld (some 12) (.t 65)),oe 5 (.alloc [(.int .i64 0),(.int .i64 0),(.str []),(.int .i64 0),(.int .i64 0),(.bool false),(.bool false),(.int .i64 0),(.int .i64 0),(.bool false),(.bool false),(.sl .full [])]),oz (.store 12 (.t 5) (.t 66))]) (.ops [ oq 67 (.mv (.t 3)),oq 68 (.ld (some 12) (.t 5)),oe 69 (.call 90 [(.t 68)]),oq 70 (.bin .add (.t 67) (.t 69)),oq 3 (.mv (.t 70))]))) (.ops [ oq 71 (.bin .add (.t 63) (.v (.int .i64 1))),oq 63 (.mv (.t 71))])))
def c90_47:ACode := .seq (.seq (.ops [ oq 60 (.fa 11 (.t 1)),oq 61 (.ld none (.t 60)),oq 62 (.len (.t 61)),oq 63 (.mv (.v (.int .i64 0)))]) (.block 1 (.loop c90_41))) (.seq (.ops [ oq 72 (.mv (.t 3)),oq 2 (.mv (.t 72))]) .ret)
def c90_50:ACode := .seq (.ops [ oe 1 (.box (.t 0)),oq 2 (.mv (.v (.str [])))]) (.seq (.ops [ oq 6 (.fa 0 (.t 1)),oq 7 (.ld none (.t 6)),oq 8 (.conv .u64 (.t 7)),oe 9 (.call 45 [(.t 8)]),oq 3 (.mv (.t 9))]) (.seq (.seq (.ops [ oq 10 (.fa 0 (.t 1)),oq 11 (.ld none (.t 10))]) (.block 0 (.seq (.seq (.ops [ oq 13 (.bin .eql (.t 11) (.v (.int .i64 1))),oq 12 (.mv (.t 13))]) (.cond (.t 12) .skip (.seq (.ops [ oq 14 (.bin .eql (.t 11) (.v (.int .i64 3))),oq 12 (.mv (.t 14))]) (.cond (.t 12) .skip (.ops [ oq 15 (.bin .eql (.t 11) (.v (.int .i64 4))),oq 12 (.mv (.t 15))]))))) (.cond (.t 12) (.ops [ oq 16 (.mv (.t 3)),oq 17 (.fa 1 (.t 1)),oq 18 (.ld none (.t 17)),oe 19 (.call 143 [(.t 18)]),oe 20 (.call 45 [(.t 19)]),oq 21 (.bin .add (.t 16) (.t 20)),oq 3 (.mv (.t 21))]) (.seq (.ops [ oq 23 (.bin .eql (.t 11) (.v (.int .i64 2))),oq 22 (.mv (.t 23))]) (.cond (.t 22) (.ops [ oq 24 (.mv (.t 3)),oq 25 (.fa 2 (.t 1)),oq 26 (.ld none (.t 25)),oe 27 (.call 144 [(.t 26)]),oq 28 (.bin .add (.t 24) (.t 27)),oq 3 (.mv (.t 28))]) (.seq (.ops [ oq 30 (.bin .eql (.t 11) (.v (.int .i64 5))),oq 29 (.mv (.t 30))]) (.cond (.t 29) (.ops [ oq 31 (.mv (.t 3)),oq 32 (.fa 3 (.t 1)),oq 33 (.ld (some 4) (.t 32)),oe 34 (.call 145 [(.t 33)]),oq 35 (.bin .add (.t 31) (.t 34)),oq 3 (.mv (.t 35))]) (.seq (.ops [ oq 37 (.bin .eql (.t 11) (.v (.int .i64 6))),oq 36 (.mv (.t 37))]) (.cond (.t 36) (.ops [ oq 38 (.mv (.t 3)),oq 39 (.fa 3 (.t 1)),oq 40 (.ld (some 4) (.t 39)),oq 42 (.fa 7 (.t 1)),oq 43 (.ld (some 4) (.t 42)),⟨some 41,none,.e (.call 145 [(.t 40)]),[⟨none,.ld (some 4) (.t 42),43⟩]⟩,oe 44 (.call 145 [(.t 43)]),oq 45 (.bin .add (.t 41) (.t 44)),oq 46 (.bin .add (.t 38) (.t 45)),oq 3 (.mv (.t 46))]) (.seq (.ops [ oq 48 (.bin .eql (.t 11) (.v (.int .i64 22))),oq 47 (.mv (.t 48))]) (.cond (.t 47) (.ops [ oq 49 (.mv (.t 3)),oq 50 (.fa 2 (.t 1)),oq 51 (.ld none (.t 50)),oq 53 (.fa 11 (.t 1)),oq 54 (.ld none (.t 53)),oq 55 (.len (.t 54)),oq 56 (.conv .u64 (.t 55)),⟨some 52,none,.e (.call 144 [(.t 51)]),[⟨none,.ld none (.t 53),54⟩]⟩,oe 57 (.call 45 [(.t 56)]),oq 58 (.bin .add (.t 52) (.t 57)),oq 59 (.bin .add (.t 49) (.t 58)),oq 3 (.mv (.t 59))]) .skip)))))))))))) c90_47))
@[go_sem] def c90_41_wp:=wp_of c90_41.eq_1
@[go_sem] def c90_47_wp:=wp_of c90_47.eq_1
@[go_sem] def c90_50_wp:=wp_of c90_50.eq_1
def c90:AFn:=⟨73,[.t 2],c90_50⟩
theorem c90_ok:compF Tryz.prog Tryz.f90=some c90:=by kernel_rfl
theorem a90 {args:List AV} {σ:ASt} {R:AV->ASt->Prop} (hl:args.length<=73) (h:c90_50.wp Tryz.prog (RetQ [.t 2] R) (init args) σ):ACalls Tryz.prog 90 args σ R:=acalls_of Tryz.func90 c90_ok hl h
/-! 145: tabular/tabularref12.ref -/
def c145_15:ACode := .seq (.ops [ oe 1 (.box (.t 0)),oq 2 (.mv (.v (.str [])))]) (.seq (.ops [ oq 4 (.fa 0 (.t 1)),oq 5 (.ld none (.t 4)),oq 6 (.bin .mul (.v (.int .i64 4)) (.t 5)),oq 7 (.conv .u64 (.t 6)),oq 3 (.mv (.t 7))]) (.seq (.seq (.ops [ oq 8 (.fa 2 (.t 1)),oq 9 (.ld none (.t 8))]) (.cond (.t 9) (.ops [ oq 10 (.mv (.t 3)),oq 11 (.bin .add (.t 10) (.v (.int .u64 1))),oq 3 (.mv (.t 11))]) .skip)) (.seq (.seq (.ops [ oq 12 (.fa 3 (.t 1)),oq 13 (.ld none (.t 12))]) (.cond (.t 13) (.ops [ oq 14 (.mv (.t 3)),oq 15 (.bin .add (.t 14) (.v (.int .u64 2))),oq 3 (.mv (.t 15))]) .skip)) (.seq (.ops [ oq 16 (.mv (.t 3)),oq 18 (.fa 1 (.t 1)),oq 19 (.ld none (.t 18)),oq 20 (.conv .u64 (.t 19)),⟨some 17,none,.e (.call 45 [(.t 16)]),[⟨none,.ld none (.t 18),19⟩]⟩,oe 21 (.call 45 [(.t 20)]),oq 22 (.bin .add (.t 17) (.t 21)),oq 2 (.mv (.t 22))]) .ret))))
@[go_sem] def c145_15_wp:=wp_of c145_15.eq_1
def c145:AFn:=⟨23,[.t 2],c145_15⟩
theorem c145_ok:compF Tryz.prog Tryz.f145=some c145:=by kernel_rfl
theorem a145 {args:List AV} {σ:ASt} {R:AV->ASt->Prop} (hl:args.length<=23) (h:c145_15.wp Tryz.prog (RetQ [.t 2] R) (init args) σ):ACalls Tryz.prog 145 args σ R:=acalls_of Tryz.func145 c145_ok hl h
end Go.A
namespace Go.A
open Go.Proofs Go.Lib Go.Vint
theorem rtx_ok (s:List UInt8) (hs:s.length<=1000000):Pure Tryz.prog 144 [.str s] (.str (textB s)):=by
 intro σ
 have h1:=refUint_ok' (s.length:Int) (by omega) (by omega)
 rw [Int.toNat_natCast] at h1
 have hl:=uintB_le (u:=(s.length:Int)) (by omega)
 rw [Int.toNat_natCast] at hl
 have e:textB s=uintB s.length++s:=rfl
 rw [e]
 generalize uintB s.length=w at *
 refine a144 (by simp) ?_
 simp (disch:=first|assumption|omega) only [go_sem]
 refine h1.use ?_
 simp (disch:=first|assumption|omega) only [go_sem]
 exact retC_by (.refl _) (.refl _) ⟨rfl,rfl⟩
theorem rref_ok {r:Ref} (hg:r.good=true):Pure Tryz.prog 145 [refAV r] (.str (rfB r)):=by
 intro σ
 simp only [Ref.good,decide_eq_true_eq] at hg
 obtain ⟨row,col,p,q⟩:=r
 dsimp only at hg
 unfold refAV
 have h2:=refUint_ok' col (by omega) (by omega)
 have hl2:=uintB_le (u:=col) (by omega)
 have hr0:row.toNat=row:=by omega
 have go:∀ (u:Int),0<=u->u<=100000->Pure Tryz.prog 45 [.int .u64 u] (.str (uintB u.toNat)):=fun u h0 h1=>refUint_ok' u h0 (by omega)
 have hll:∀ (u:Int),0<=u->u<=100000->(uintB u.toNat).length<=10:=fun u h0 h1=>uintB_le (u:=u) (by omega)
 have fin:∀ (n:Nat) (u:Int),u=n+4*row->uintB u.toNat=uintB (n+4*row.toNat):=fun n u e=>by congr 1;omega
 cases p<;>cases q
 ·have hc:=go (4*row) (by omega) (by omega)
  have hl:=hll (4*row) (by omega) (by omega)
  have e:rfB ⟨row,col,false,false⟩=uintB (4*row).toNat++uintB col.toNat:=by unfold rfB;rw [fin 0 (4*row) (by omega)];rfl
  rw [e]
  generalize uintB (4*row).toNat=w1 at *
  generalize uintB col.toNat=w2 at *
  refine a145 (by simp) ?_
  simp (disch:=first|assumption|omega) only [go_sem]
  refine boxC_by rfl fun c h1=>?_
  simp (disch:=first|assumption|omega) only [go_sem]
  refine hc.use ?_
  simp (disch:=first|assumption|omega) only [go_sem]
  refine h2.use ?_
  simp (disch:=first|assumption|omega) only [go_sem]
  exact retC_by (Drop.set h1) (.refl _) ⟨rfl,rfl⟩
 ·have hc:=go (4*row+2) (by omega) (by omega)
  have hl:=hll (4*row+2) (by omega) (by omega)
  have e:rfB ⟨row,col,false,true⟩=uintB (4*row+2).toNat++uintB col.toNat:=by unfold rfB;rw [fin 2 (4*row+2) (by omega)];rfl
  rw [e]
  generalize uintB (4*row+2).toNat=w1 at *
  generalize uintB col.toNat=w2 at *
  refine a145 (by simp) ?_
  simp (disch:=first|assumption|omega) only [go_sem]
  refine boxC_by rfl fun c h1=>?_
  simp (disch:=first|assumption|omega) only [go_sem]
  refine hc.use ?_
  simp (disch:=first|assumption|omega) only [go_sem]
  refine h2.use ?_
  simp (disch:=first|assumption|omega) only [go_sem]
  exact retC_by (Drop.set h1) (.refl _) ⟨rfl,rfl⟩
 ·have hc:=go (4*row+1) (by omega) (by omega)
  have hl:=hll (4*row+1) (by omega) (by omega)
  have e:rfB ⟨row,col,true,false⟩=uintB (4*row+1).toNat++uintB col.toNat:=by unfold rfB;rw [fin 1 (4*row+1) (by omega)];rfl
  rw [e]
  generalize uintB (4*row+1).toNat=w1 at *
  generalize uintB col.toNat=w2 at *
  refine a145 (by simp) ?_
  simp (disch:=first|assumption|omega) only [go_sem]
  refine boxC_by rfl fun c h1=>?_
  simp (disch:=first|assumption|omega) only [go_sem]
  refine hc.use ?_
  simp (disch:=first|assumption|omega) only [go_sem]
  refine h2.use ?_
  simp (disch:=first|assumption|omega) only [go_sem]
  exact retC_by (Drop.set h1) (.refl _) ⟨rfl,rfl⟩
 ·have hc:=go (4*row+1+2) (by omega) (by omega)
  have hl:=hll (4*row+1+2) (by omega) (by omega)
  have e:rfB ⟨row,col,true,true⟩=uintB (4*row+1+2).toNat++uintB col.toNat:=by unfold rfB;rw [fin 3 (4*row+1+2) (by omega)];rfl
  rw [e]
  generalize uintB (4*row+1+2).toNat=w1 at *
  generalize uintB col.toNat=w2 at *
  refine a145 (by simp) ?_
  simp (disch:=first|assumption|omega) only [go_sem]
  refine boxC_by rfl fun c h1=>?_
  simp (disch:=first|assumption|omega) only [go_sem]
  refine hc.use ?_
  simp (disch:=first|assumption|omega) only [go_sem]
  refine h2.use ?_
  simp (disch:=first|assumption|omega) only [go_sem]
  exact retC_by (Drop.set h1) (.refl _) ⟨rfl,rfl⟩
theorem rbytess_take:∀ (ks:List Nd) (i:Nat) (h:i<ks.length),Nd.bytess (ks.take (i+1))=Nd.bytess (ks.take i)++(ks[i]).bytes
 | [],i,h=>by simp at h
 | x::l,0,h=>by simp [Nd.bytess]
 | x::l,i+1,h=>by
   rw [List.take_succ_cons,List.take_succ_cons,Nd.bytess,Nd.bytess,rbytess_take l i (by simpa using h),List.append_assoc]
   rfl
theorem rbytess_take_le (ks:List Nd) (i:Nat) (hi:i<=ks.length):(Nd.bytess (ks.take i)).length<=(Nd.bytess ks).length:=by
 induction h:ks.length-i generalizing i with
 | zero=>
   rw [List.take_of_length_le (by omega)]
   omega
 | succ d ih=>
   have:=ih (i+1) (by omega) (by omega)
   rw [rbytess_take ks i (by omega),List.length_append] at this
   omega
theorem rbytes_kid {ks:List Nd} {x:Nd} (h:x∈ks):x.bytes.length<=(Nd.bytess ks).length:=by
 induction ks with
 | nil=>cases h
 | cons y l ih=>
   rw [Nd.bytess,List.length_append]
   rcases List.mem_cons.1 h with rfl|h
   ·omega
   ·have:=ih h;omega
set_option maxHeartbeats 1000000 in
theorem rwrite_le:∀ (k:Nat) (n:Nd),n.size<=k->n.size<=1000000->n.wd->n.bytes.length<=900000000->Pure Tryz.prog 90 [n.av] (.str n.bytes)
 | 0,n,hk,_,_,_=>by have:=n.size_pos;omega
 | k+1,n,hk,hbig,hg,hl=>by
   intro σ
   have ih:=rwrite_le k
   obtain ⟨o,m,s,a,b,ks⟩:=n
   rw [Nd.wd] at hg
   obtain ⟨hN,hks⟩:=hg
   rw [Nd.size] at hk hbig
   rw [Nd.bytes] at hl ⊢
   rw [List.length_append,List.length_append] at hl
   have hlen:=sizes_len ks
   have hkid:∀ x∈ks,Pure Tryz.prog 90 [x.av] (.str x.bytes):=fun x hx=>by
    have h1:=Nd.size_kid hx
    have h2:=rbytes_kid hx
    exact ih x (by omega) (by omega) (Nd.wds_mem.1 hks x hx) (by omega)
   clear ih
   have hop:=refUint_ok' o (by have:=hN.op1;omega) (by have:=hN.op2;omega)
   have ho1:=hN.op1
   have ho2:=hN.op2
   have hu1:(uintB o.toNat).length<=10:=uintB_le (u:=o) (by omega)
   rw [Nd.av_cs]
   have hlm:(ks.map Nd.av).length=ks.length:=List.length_map _
   obtain ⟨F,hF⟩:∃ F,F=ACode.wp Tryz.prog c90_47:=⟨_,rfl⟩
   have tail:∀ (H:List UInt8) (c:Nat) (a1:AFr),σ c=none->H.length+(Nd.bytess ks).length<=900000000->(a1 1 = .ptr c 0/\a1 3 = .str H) →
     F (RetQ [.t 2] fun v σ'=>v = .str (H++Nd.bytess ks)/\σ'=σ) a1 (σ.set c (some (.obj (Nd.cs o m s a b (ks.map Nd.av))))):=by
    intro H c a1 hc hHl hf
    rw [hF]
    simp (disch:=first|assumption|omega|(simp only [List.length_append,List.length_cons,List.length_nil];omega)) only [go_sem,hf,hlm]
    refine wp_loop_by (fun (i:Nat) a1 s2=>i<=ks.length/\(a1 3 = .str (H++Nd.bytess (ks.take i))/\a1 61 = .sl .shr (ks.map Nd.av)/\a1 62 = .int .i64 ks.length/\a1 63 = .int .i64 i)/\s2=σ) (fun i=>ks.length-i) 0 (Dr.drop (Drop.set hc) ⟨Nat.zero_le _,?_,rfl⟩) ?_
    ·simp only [List.take_zero,Nd.bytess,List.append_nil]
     simp (disch:=first|assumption|omega|(simp only [List.length_append,List.length_cons,List.length_nil];omega)) only [go_sem,hf]
    rintro i a2 s2 ⟨hi,hf,rfl⟩
    have htl:=rbytess_take_le ks i hi
    by_cases hlt:i<ks.length
    ·have hlt':(i:Int)<ks.length:=by omega
     have hx : ks[i]? = some (ks[i]'hlt) := List.getElem?_eq_getElem hlt
     have hnx:=rbytess_take ks i hlt
     have hcall:=hkid _ (List.getElem_mem hlt)
     have hsx:=rbytes_kid (List.getElem_mem hlt)
     obtain ⟨x, hxe⟩ : ∃ x, ks[i]'hlt = x := ⟨_, rfl⟩
     rw [hxe] at hx hcall hnx hsx
     have hmx:=Nd.get hx
     obtain ⟨w,hw⟩:∃ w,x.bytes=w:=⟨_,rfl⟩
     rw [hw] at hcall hnx hsx
     obtain ⟨xo,xm,xs,xa,xb,xk⟩:=x
     rw [Nd.av_cs] at hmx hcall
     generalize ks.map Nd.av=L at *
     obtain ⟨J,hJ⟩:∃ J,Nd.bytess (ks.take i)=J:=⟨_,rfl⟩
     rw [hJ] at hf hnx htl
     simp (disch:=first|assumption|omega|(simp only [List.length_append,List.length_cons,List.length_nil];omega)) only [go_sem,hf,hlt',hmx]
     refine allocC_by fun d hd=>?_
     simp (disch:=first|assumption|omega|(simp only [List.length_append,List.length_cons,List.length_nil];omega)) only [go_sem,hf,ASt.set_set]
     refine hcall.use ?_
     simp (disch:=first|assumption|omega|(simp only [List.length_append,List.length_cons,List.length_nil];omega)) only [go_sem,hf]
     refine ⟨i+1,by dsimp only;omega,Dr.drop (Drop.set hd) ⟨by omega,?_,rfl⟩⟩
     rw [hnx]
     have hwr:IntKind.i64.wrap ((i:Int)+1)=i+1:=by rw [IntKind.wrap_i64];omega
     simp [hf,AFr.upd]
    ·have hlt':¬ (i:Int)<ks.length:=by omega
     rw [List.take_of_length_le (by omega)] at hf htl
     generalize Nd.bytess ks=J at *
     simp (disch:=first|assumption|omega|(simp only [List.length_append,List.length_cons,List.length_nil];omega)) only [go_sem,hf,hlt']
     exact retC_by (.refl _) (.refl _) ⟨rfl,rfl⟩
   have hwrap:IntKind.u64.wrap o=o:=by rw [IntKind.wrap_u64];omega
   have start:∀ R:List UInt8,restB o m s a b ks.length=R->True:=fun _ _=>trivial
   generalize hU:uintB o.toNat=U at *
   by_cases c1:o=1\/o=3\/o=4
   ·have hR:restB o m s a b ks.length=uintB (foldI m).toNat:=if_pos c1
    have hmn:=hN.num
    have hfb:=foldI_bd (n:=m) (by omega) (by omega)
    have hfo:=refFold_ok m (by omega) (by omega)
    have hfu:=refUint_ok' (foldI m) hfb.1 hfb.2
    have hll:(uintB (foldI m).toNat).length<=10:=uintB_le (u:=foldI m) (by omega)
    rw [hR] at hl ⊢
    generalize uintB (foldI m).toNat=w at *
    generalize foldI m=fm at *
    rcases c1 with h|h|h
    all_goals
     refine a90 (by simp) ?_
     simp (disch:=first|assumption|omega|(simp only [List.length_append,List.length_cons,List.length_nil];omega)) only [go_sem]
     refine boxC_by rfl fun c h1=>?_
     simp (disch:=first|assumption|omega|(simp only [List.length_append,List.length_cons,List.length_nil];omega)) only [go_sem,hwrap]
     refine hop.use ?_
     have n1:o=_:=h
     simp (disch:=first|assumption|omega|(simp only [List.length_append,List.length_cons,List.length_nil];omega)) only [go_sem,h,←hF]
     refine hfo.use ?_
     simp (disch:=first|assumption|omega|(simp only [List.length_append,List.length_cons,List.length_nil];omega)) only [go_sem]
     refine hfu.use ?_
     simp (disch:=first|assumption|omega|(simp only [List.length_append,List.length_cons,List.length_nil];omega)) only [go_sem]
     subst h
     exact tail _ c _ h1 (by rw [List.length_append];omega) (by simp [AFr.upd])
   have k1:¬ o=1:=fun e=>c1 (.inl e)
   have k3:¬ o=3:=fun e=>c1 (.inr (.inl e))
   have k4:¬ o=4:=fun e=>c1 (.inr (.inr e))
   by_cases c2:o=2
   ·have hR:restB o m s a b ks.length=textB s:=by unfold restB;rw [if_neg c1,if_pos c2]
    have hs:=(hN.s2 c2).1
    have hx:=rtx_ok s (by omega)
    rw [hR] at hl ⊢
    generalize textB s=w at *
    subst c2
    refine a90 (by simp) ?_
    simp (disch:=first|assumption|omega|(simp only [List.length_append,List.length_cons,List.length_nil];omega)) only [go_sem]
    refine boxC_by rfl fun c h1=>?_
    simp (disch:=first|assumption|omega|(simp only [List.length_append,List.length_cons,List.length_nil];omega)) only [go_sem,hwrap]
    refine hop.use ?_
    simp (disch:=first|assumption|omega|(simp only [List.length_append,List.length_cons,List.length_nil];omega)) only [go_sem,←hF]
    refine hx.use ?_
    simp (disch:=first|assumption|omega|(simp only [List.length_append,List.length_cons,List.length_nil];omega)) only [go_sem]
    exact tail _ c _ h1 (by rw [List.length_append];omega) (by simp [AFr.upd])
   by_cases c5:o=5
   ·have hR:restB o m s a b ks.length=rfB a:=by unfold restB;rw [if_neg c1,if_neg c2,if_pos c5]
    have hx:=rref_ok (hN.ga (.inl c5))
    unfold refAV at hx
    rw [hR] at hl ⊢
    generalize rfB a=w at *
    subst c5
    refine a90 (by simp) ?_
    simp (disch:=first|assumption|omega|(simp only [List.length_append,List.length_cons,List.length_nil];omega)) only [go_sem]
    refine boxC_by rfl fun c h1=>?_
    simp (disch:=first|assumption|omega|(simp only [List.length_append,List.length_cons,List.length_nil];omega)) only [go_sem,hwrap]
    refine hop.use ?_
    simp (disch:=first|assumption|omega|(simp only [List.length_append,List.length_cons,List.length_nil];omega)) only [go_sem,←hF]
    refine hx.use ?_
    simp (disch:=first|assumption|omega|(simp only [List.length_append,List.length_cons,List.length_nil];omega)) only [go_sem]
    exact tail _ c _ h1 (by rw [List.length_append];omega) (by simp [AFr.upd])
   by_cases c6:o=6
   ·have hR:restB o m s a b ks.length=rfB a++rfB b:=by unfold restB;rw [if_neg c1,if_neg c2,if_neg c5,if_pos c6]
    have hx:=rref_ok (hN.ga (.inr c6))
    have hy:=rref_ok (hN.gb c6)
    unfold refAV at hx hy
    rw [hR] at hl ⊢
    rw [List.length_append] at hl
    generalize rfB a=w at *
    generalize rfB b=w' at *
    subst c6
    refine a90 (by simp) ?_
    simp (disch:=first|assumption|omega|(simp only [List.length_append,List.length_cons,List.length_nil];omega)) only [go_sem]
    refine boxC_by rfl fun c h1=>?_
    simp (disch:=first|assumption|omega|(simp only [List.length_append,List.length_cons,List.length_nil];omega)) only [go_sem,hwrap]
    refine hop.use ?_
    simp (disch:=first|assumption|omega|(simp only [List.length_append,List.length_cons,List.length_nil];omega)) only [go_sem,←hF]
    refine hx.use ?_
    simp (disch:=first|assumption|omega|(simp only [List.length_append,List.length_cons,List.length_nil];omega)) only [go_sem]
    refine hy.use ?_
    simp (disch:=first|assumption|omega|(simp only [List.length_append,List.length_cons,List.length_nil];omega)) only [go_sem]
    exact tail _ c _ h1 (by rw [List.length_append,List.length_append];omega) (by simp [AFr.upd])
   by_cases c22:o=22
   ·have hR:restB o m s a b ks.length=textB s++uintB ks.length:=by unfold restB;rw [if_neg c1,if_neg c2,if_neg c5,if_neg c6,if_pos c22]
    have hs:=(hN.s22 c22).1
    have hx:=rtx_ok s (by omega)
    have hkl:=refUint_ok' (ks.length:Int) (by omega) (by omega)
    rw [Int.toNat_natCast] at hkl
    have hwk:IntKind.u64.wrap (ks.length:Int)=ks.length:=by rw [IntKind.wrap_u64];omega
    rw [hR] at hl ⊢
    rw [List.length_append] at hl
    generalize textB s=w at *
    generalize uintB ks.length=w' at *
    subst c22
    refine a90 (by simp) ?_
    simp (disch:=first|assumption|omega|(simp only [List.length_append,List.length_cons,List.length_nil];omega)) only [go_sem]
    refine boxC_by rfl fun c h1=>?_
    simp (disch:=first|assumption|omega|(simp only [List.length_append,List.length_cons,List.length_nil];omega)) only [go_sem,hwrap]
    refine hop.use ?_
    simp (disch:=first|assumption|omega|(simp only [List.length_append,List.length_cons,List.length_nil];omega)) only [go_sem,hlm,hwk,←hF]
    refine hx.use ?_
    simp (disch:=first|assumption|omega|(simp only [List.length_append,List.length_cons,List.length_nil];omega)) only [go_sem]
    refine hkl.use ?_
    simp (disch:=first|assumption|omega|(simp only [List.length_append,List.length_cons,List.length_nil];omega)) only [go_sem]
    exact tail _ c _ h1 (by rw [List.length_append,List.length_append];omega) (by simp [AFr.upd])
   have hR:restB o m s a b ks.length = []:=by unfold restB;rw [if_neg c1,if_neg c2,if_neg c5,if_neg c6,if_neg c22]
   rw [hR] at hl ⊢
   rw [List.append_nil]
   refine a90 (by simp) ?_
   simp (disch:=first|assumption|omega|(simp only [List.length_append,List.length_cons,List.length_nil];omega)) only [go_sem]
   refine boxC_by rfl fun c h1=>?_
   simp (disch:=first|assumption|omega|(simp only [List.length_append,List.length_cons,List.length_nil];omega)) only [go_sem,hwrap]
   refine hop.use ?_
   simp (disch:=first|assumption|omega|(simp only [List.length_append,List.length_cons,List.length_nil];omega)) only [go_sem,k1,k3,k4,c2,c5,c6,c22,←hF]
   exact tail _ c _ h1 (by omega) (by simp [AFr.upd])
theorem rwrite_ok (n:Nd) (h:n.size<=1000000) (hg:n.wd) (hl:n.bytes.length<=900000000):Pure Tryz.prog 90 [n.av] (.str n.bytes):=rwrite_le n.size n (Nat.le_refl _) h hg hl
end Go.A
namespace Go.A
open Go.Proofs
/-! 47: tabular/tabularref20.put -/
def c47_15:ACode := .seq (.ops [ oe 1 (.box (.t 0)),oq 2 (.mv (.v (.str [])))]) (.seq (.seq (.ops [ oq 3 (.ld (some 15) (.t 1)),oe 4 (.call 19 [(.t 3)])]) (.cond (.t 4) (.seq (.ops [ oe 5 (.call 45 [(.v (.int .u64 0))]),oq 2 (.mv (.t 5))]) .ret) .skip)) (.seq (.seq (.ops [ oq 6 (.fa 0 (.t 1)),oq 7 (.fa 0 (.t 6)),oq 8 (.ld none (.t 7)),oq 9 (.bin .gtr (.t 8) (.v (.int .i64 0)))]) (.cond (.t 9) (.seq (.ops [ oq 11 (.fa 0 (.t 1)),oq 12 (.ld (some 12) (.t 11)),oq 15 (.fa 12 (.t 1)),oq 16 (.ld (some 3) (.t 15)),⟨some 10,none,.e (.call 45 [(.v (.int .u64 2))]),[⟨none,.ld (some 12) (.t 11),12⟩,⟨none,.ld (some 3) (.t 15),16⟩]⟩,⟨some 13,none,.e (.call 90 [(.t 12)]),[⟨none,.ld (some 3) (.t 15),16⟩]⟩,oq 14 (.bin .add (.t 10) (.t 13)),oe 17 (.call 91 [(.t 16)]),oq 18 (.bin .add (.t 14) (.t 17)),oq 2 (.mv (.t 18))]) .ret) .skip)) (.seq (.ops [ oq 20 (.fa 12 (.t 1)),oq 21 (.ld (some 3) (.t 20)),⟨some 19,none,.e (.call 45 [(.v (.int .u64 1))]),[⟨none,.ld (some 3) (.t 20),21⟩]⟩,oe 22 (.call 91 [(.t 21)]),oq 23 (.bin .add (.t 19) (.t 22)),oq 2 (.mv (.t 23))]) .ret)))
@[go_sem] def c47_15_wp:=wp_of c47_15.eq_1
def c47:AFn:=⟨24,[.t 2],c47_15⟩
theorem c47_ok:compF Tryz.prog Tryz.f47=some c47:=by kernel_rfl
theorem a47 {args:List AV} {σ:ASt} {R:AV->ASt->Prop} (hl:args.length<=24) (h:c47_15.wp Tryz.prog (RetQ [.t 2] R) (init args) σ):ACalls Tryz.prog 47 args σ R:=acalls_of Tryz.func47 c47_ok hl h
/-! 91: tabular/tabularref15.Put -/
def c91_15:ACode := .seq (.ops [ oe 1 (.box (.t 0)),oq 2 (.mv (.v (.str [])))]) (.seq (.ops [ oq 4 (.fa 0 (.t 1)),oq 5 (.ld none (.t 4)),oq 6 (.conv .u64 (.t 5)),oe 7 (.call 45 [(.t 6)]),oq 3 (.mv (.t 7))]) (.seq (.seq (.ops [ oq 8 (.fa 0 (.t 1)),oq 9 (.ld none (.t 8)),oq 10 (.bin .eql (.t 9) (.v (.int .i64 2)))]) (.cond (.t 10) (.ops [ oq 11 (.mv (.t 3)),oq 12 (.fa 2 (.t 1)),oq 13 (.ld none (.t 12)),oe 14 (.call 144 [(.t 13)]),oq 15 (.bin .add (.t 11) (.t 14)),oq 3 (.mv (.t 15))]) .skip)) (.seq (.seq (.ops [ oq 16 (.fa 0 (.t 1)),oq 17 (.ld none (.t 16)),oq 18 (.bin .eql (.t 17) (.v (.int .i64 1))),oq 19 (.mv (.t 18)),⟨some 20,some (19,false),.q (.fa 0 (.t 1)),[]⟩,⟨some 21,some (19,false),.q (.ld none (.t 20)),[]⟩,⟨some 22,some (19,false),.q (.bin .gtr (.t 21) (.v (.int .i64 2))),[]⟩,oq 23 (.pick (.t 19) (.v (.bool true)) (.t 22))]) (.cond (.t 23) (.ops [ oq 24 (.mv (.t 3)),oq 25 (.fa 1 (.t 1)),oq 26 (.ld none (.t 25)),oe 27 (.call 143 [(.t 26)]),oe 28 (.call 45 [(.t 27)]),oq 29 (.bin .add (.t 24) (.t 28)),oq 3 (.mv (.t 29))]) .skip)) (.seq (.ops [ oq 30 (.mv (.t 3)),oq 2 (.mv (.t 30))]) .ret))))
@[go_sem] def c91_15_wp:=wp_of c91_15.eq_1
def c91:AFn:=⟨31,[.t 2],c91_15⟩
theorem c91_ok:compF Tryz.prog Tryz.f91=some c91:=by kernel_rfl
theorem a91 {args:List AV} {σ:ASt} {R:AV->ASt->Prop} (hl:args.length<=31) (h:c91_15.wp Tryz.prog (RetQ [.t 2] R) (init args) σ):ACalls Tryz.prog 91 args σ R:=acalls_of Tryz.func91 c91_ok hl h
end Go.A
namespace Go.A
open Go.Proofs Go.Lib Go.Vint
theorem r15put_ok (v:PV) (hg:v.good) (ht:∀ t,v = .text t->t.length<=2000):Pure Tryz.prog 91 [plAV (plOf v)] (.str (putB v)):=by
 intro σ
 obtain ⟨k,y,z,hp,hB,hy,hz,hk⟩:=put_pl v hg ht
 rw [hp,hB]
 clear hp hB
 have hk4:0<=k/\k<=4:=by omega
 have hu:=refUint_ok' k (by omega) (by omega)
 have hul:=uintB_le (u:=k) (by omega)
 have hwk:IntKind.wrap .u64 k=k:=by rw [IntKind.wrap_u64,Int.emod_eq_of_lt (by omega) (by omega)]
 have hX:=rtx_ok z (by omega)
 have hF:=refFold_ok y (by omega) (by omega)
 obtain ⟨f0,f1⟩:=foldI_bd (n:=y) (by omega) (by omega)
 have hfu:=refUint_ok' (foldI y) f0 f1
 have hfl:=uintB_le (u:=foldI y) f1
 have htl:(textB z).length<=2010:=by
  have h1:=uintB_le (u:=(z.length:Int)) (by omega)
  rw [Int.toNat_natCast] at h1
  unfold textB
  rw [List.length_append];omega
 unfold plB plAV
 dsimp only
 generalize textB z=TB at *
 generalize foldI y=fy at *
 generalize hFB:uintB fy.toNat=FB at *
 have b1:∀ (U:List UInt8),U.length<=10->binS .add U TB=some (.str (U++TB)):=fun U h=>binS_add (by omega)
 have b2:∀ (U:List UInt8),U.length<=10->binS .add U FB=some (.str (U++FB)):=fun U h=>binS_add (by omega)
 have b1:=b1 _ hul
 have b2:=b2 _ hul
 generalize uintB k.toNat=UB at *
 refine a91 (by simp) ?_
 simp (disch:=first|assumption|omega) only [go_sem]
 refine boxC_by rfl fun c hc=>?_
 simp (disch:=first|assumption|omega) only [go_sem,hwk]
 refine hu.use ?_
 rcases hk with ⟨hk,rfl⟩|⟨rfl,_⟩|⟨rfl,_⟩
 ·rw [if_pos hk]
  have k2:k≠2:=by omega
  rcases hk with rfl|rfl|rfl
  all_goals
   simp (disch:=first|assumption|omega) only [go_sem]
   refine hF.use ?_
   simp (disch:=first|assumption|omega) only [go_sem]
   refine hfu.use ?_
   simp (disch:=first|assumption|omega) only [go_sem,b2]
   exact retC_by (Drop.set hc) (.refl _) ⟨rfl,rfl⟩
 ·rw [if_neg (by decide),if_pos rfl]
  simp (disch:=first|assumption|omega) only [go_sem]
  refine hX.use ?_
  simp (disch:=first|assumption|omega) only [go_sem,b1]
  exact retC_by (Drop.set hc) (.refl _) ⟨rfl,rfl⟩
 ·rw [if_neg (by decide),if_neg (by decide),List.append_nil]
  simp (disch:=first|assumption|omega) only [go_sem]
  exact retC_by (Drop.set hc) (.refl _) ⟨rfl,rfl⟩
theorem r20put_ok (c:TC) (hc:c.wfine) (hs:c.t.size<=1000000) (ho:0<=c.t.op):Pure Tryz.prog 47 [c.rav] (.str c.bytes):=by
 intro σ
 have hE:=r20empty_ok c
 have h0:=refUint_ok' 0 (by omega) (by omega)
 have h1:=refUint_ok' 1 (by omega) (by omega)
 have h2:=refUint_ok' 2 (by omega) (by omega)
 rw [show (0:Int).toNat=0 from rfl] at h0
 rw [show (1:Int).toNat=1 from rfl] at h1
 rw [show (2:Int).toNat=2 from rfl] at h2
 have u1:(uintB 1).length=1:=by rw [uintB_small (by decide)];rfl
 have u2:(uintB 2).length=1:=by rw [uintB_small (by decide)];rfl
 have hwr:=fun (h:c.isF=true)=>rwrite_ok c.t hs (hc.wd h) (by have:=hc.nb h;omega)
 have hnb:=hc.nb
 have hP:=r15put_ok c.val hc.good hc.short
 have hpl:=putB_le c.val hc.good hc.short
 have hx:c.bytes=if c.empty=true then uintB 0 else if c.isF=true then uintB 2++c.t.bytes++putB c.val else uintB 1++putB c.val:=rfl
 rw [hx]
 clear hx hc hs
 generalize putB c.val=pv at *
 obtain ⟨⟨op,n,s,a,b,ks⟩,v⟩:=c
 have hq:TC.isF ⟨.mk op n s a b ks,v⟩ = !decide (op=0):=rfl
 have ho:0<=op:=ho
 have hval:TC.val ⟨.mk op n s a b ks,v⟩=v.getD .blank:=rfl
 rw [hval] at hP
 rw [hq] at hwr hnb ⊢
 rw [TC.rav] at *
 generalize TC.empty ⟨.mk op n s a b ks,v⟩=em at *
 generalize plOf (v.getD .blank)=pl at *
 obtain ⟨k,y,z⟩:=pl
 unfold plAV at hP
 dsimp only at hwr hnb hP hE ⊢
 rw [Nd.av_cs] at hwr
 generalize (Nd.mk op n s a b ks).bytes=NB at *
 generalize ks.map Nd.av=L at *
 unfold rCs at *
 unfold Nd.cs at hwr
 clear hq hval
 refine a47 (by simp) ?_
 simp (disch:=first|assumption|omega) only [go_sem]
 refine boxC_by rfl fun c hc=>?_
 simp (disch:=first|assumption|omega) only [go_sem]
 refine hE.use ?_
 cases em with
 | true=>
   simp (disch:=first|assumption|omega) only [go_sem]
   refine h0.use ?_
   simp (disch:=first|assumption|omega) only [go_sem]
   exact retC_by (Drop.set hc) (.refl _) ⟨rfl,rfl⟩
 | false=>
   rw [if_neg (by simp)]
   by_cases hop:op=0
   ·subst hop
    rw [if_neg (by simp)]
    have b1:binS .add (uintB 1) pv=some (.str (uintB 1++pv)):=binS_add (by omega)
    generalize uintB 1=UB at *
    simp (disch:=first|assumption|omega) only [go_sem]
    refine h1.use ?_
    simp (disch:=first|assumption|omega) only [go_sem]
    refine hP.use ?_
    simp (disch:=first|assumption|omega) only [go_sem,b1]
    exact retC_by (Drop.set hc) (.refl _) ⟨rfl,rfl⟩
   ·have hpos:0<op:=by omega
    have hqt:(!decide (op=0))=true:=by simp [hop]
    rw [if_pos hqt]
    have hwr:=hwr hqt
    have hnb:=hnb hqt
    have b2:binS .add (uintB 2) NB=some (.str (uintB 2++NB)):=binS_add (by omega)
    have b3:binS .add (uintB 2++NB) pv=some (.str (uintB 2++NB++pv)):=binS_add (by rw [List.length_append];omega)
    generalize uintB 2=UB at *
    simp (disch:=first|assumption|omega) only [go_sem,hpos]
    refine h2.use ?_
    simp (disch:=first|assumption|omega) only [go_sem]
    refine hwr.use ?_
    simp (disch:=first|assumption|omega) only [go_sem,b2]
    refine hP.use ?_
    simp (disch:=first|assumption|omega) only [go_sem,b3]
    exact retC_by (Drop.set hc) (.refl _) ⟨rfl,rfl⟩
end Go.A
namespace Go.A
open Go.Proofs
/-! 21: tabular/tabularref20.Write -/
def c21_13:ACode := .seq (.ops [ oq 21 (.bin .lss (.t 20) (.t 19))]) (.seq (.cond (.t 21) .skip (.exit 0)) (.seq (.block 1 (.seq (.ops [ oq 22 (.ia 1 (.t 18) (.t 20)),oq 23 (.ld none (.t 22)),oq 7 (.mv (.t 23))]) (.ops [ oq 24 (.mv (.t 5)),oq 25 (.mv (.t 0)),oq 26 (.mv (.t 7)),oq 27 (.ia 15 (.t 25) (.t 26)),oq 28 (.ld (some 15) (.t 27)),oe 29 (.call 47 [(.t 28)]),oq 30 (.bin .add (.t 24) (.t 29)),oq 5 (.mv (.t 30))]))) (.ops [ oq 31 (.bin .add (.t 20) (.v (.int .i64 1))),oq 20 (.mv (.t 31))])))
def c21_39:ACode := .seq (.ops [ oq 37 (.bin .lss (.t 36) (.t 35))]) (.seq (.cond (.t 37) .skip (.exit 2)) (.seq (.block 3 (.seq (.ops [ oq 38 (.mv (.t 36)),oq 39 (.ia 15 (.t 34) (.t 36)),oq 40 (.ld (some 15) (.t 39)),oe 11 (.alloc [(.int .i64 0),(.int .i64 0),(.str []),(.int .i64 0),(.int .i64 0),(.bool false),(.bool false),(.int .i64 0),(.int .i64 0),(.bool false),(.bool false),(.sl .full []),(.int .i64 0),(.int .i64 0),(.str [])]),oq 10 (.mv (.t 38)),oz (.store 15 (.t 11) (.t 40))]) (.seq (.ops [ oq 41 (.ld (some 15) (.t 11)),oe 42 (.call 19 [(.t 41)]),oq 43 (.un .not (.t 42))]) (.cond (.t 43) (.seq (.ops [ oq 44 (.mv (.t 8)),oq 45 (.mv (.t 10)),oq 46 (.conv .u64 (.t 45)),oq 47 (.bsl 1 [(.t 46)]),oe 48 (.app 94 1 8 [(.int .u64 0)] (.t 44) (.t 47)),oq 8 (.mv (.t 48))]) (.ops [ oq 49 (.mv (.t 9)),oq 50 (.ld (some 15) (.t 11)),oe 51 (.call 47 [(.t 50)]),oq 52 (.bin .add (.t 49) (.t 51)),oq 9 (.mv (.t 52))])) .skip)))) (.ops [ oq 53 (.bin .add (.t 36) (.v (.int .i64 1))),oq 36 (.mv (.t 53))])))
def c21_50:ACode := .seq (.ops [ oq 4 (.mv (.v (.str [])))]) (.seq (.ops [ oq 12 (.mv (.t 1)),oq 13 (.conv .u64 (.t 12)),oe 14 (.call 45 [(.t 13)]),oq 5 (.mv (.t 14))]) (.seq (.seq (.ops [ oq 15 (.mv (.t 1)),oq 16 (.bin .neq (.t 15) (.v (.int .i64 3)))]) (.cond (.t 16) (.seq (.seq (.ops [ oq 17 (.mv (.t 1)),oe 18 (.call 46 [(.t 17)]),oq 19 (.len (.t 18)),oq 20 (.mv (.v (.int .i64 0)))]) (.block 0 (.loop c21_13))) (.seq (.ops [ oq 32 (.mv (.t 5)),oq 4 (.mv (.t 32))]) .ret)) .skip)) (.seq (.ops [ oq 33 (.bsl 1 []),oq 8 (.mv (.t 33))]) (.seq (.ops [ oq 9 (.mv (.v (.str [])))]) (.seq (.seq (.ops [ oq 34 (.mv (.t 0)),oq 35 (.len (.t 34)),oq 36 (.mv (.v (.int .i64 0)))]) (.block 2 (.loop c21_39))) (.seq (.ops [ oq 54 (.mv (.t 5)),oq 55 (.mv (.t 8)),oe 56 (.call 48 [(.t 55)]),oq 57 (.bin .add (.t 54) (.t 56)),oq 58 (.mv (.t 9)),oq 59 (.bin .add (.t 57) (.t 58)),oq 4 (.mv (.t 59))]) .ret))))))
@[go_sem] def c21_13_wp:=wp_of c21_13.eq_1
@[go_sem] def c21_39_wp:=wp_of c21_39.eq_1
@[go_sem] def c21_50_wp:=wp_of c21_50.eq_1
def c21:AFn:=⟨60,[.t 4],c21_50⟩
theorem c21_ok:compF Tryz.prog Tryz.f21=some c21:=by kernel_rfl
theorem a21 {args:List AV} {σ:ASt} {R:AV->ASt->Prop} (hl:args.length<=60) (h:c21_50.wp Tryz.prog (RetQ [.t 4] R) (init args) σ):ACalls Tryz.prog 21 args σ R:=acalls_of Tryz.func21 c21_ok hl h
/-! 46: tabular/tabularref20.order -/
def c46_14:ACode := .seq (.seq (.ops [ oq 6 (.mv (.t 4)),oq 7 (.bin .lss (.t 6) (.v (.int .i64 32)))]) (.cond (.t 7) .skip (.exit 0))) (.seq (.block 1 (.seq (.ops [ oq 10 (.mv (.t 0)),oq 11 (.bin .eql (.t 10) (.v (.int .i64 2)))]) (.cond (.t 11) (.ops [ oq 12 (.mv (.t 3)),oq 13 (.mv (.t 4)),oq 14 (.bin .rem (.t 13) (.v (.int .i64 8))),oq 15 (.bin .mul (.t 14) (.v (.int .i64 4))),oq 16 (.mv (.t 4)),oq 17 (.bin .quo (.t 16) (.v (.int .i64 8))),oq 18 (.bin .add (.t 15) (.t 17)),oq 19 (.bsl 1 [(.t 18)]),oe 20 (.app 3 1 8 [(.int .i64 0)] (.t 12) (.t 19)),oq 3 (.mv (.t 20))]) (.ops [ oq 21 (.mv (.t 3)),oq 22 (.mv (.t 4)),oq 23 (.bsl 1 [(.t 22)]),oe 24 (.app 3 1 8 [(.int .i64 0)] (.t 21) (.t 23)),oq 3 (.mv (.t 24))])))) (.ops [ oq 8 (.mv (.t 4)),oq 9 (.bin .add (.t 8) (.v (.int .i64 1))),oq 4 (.mv (.t 9))]))
def c46_22:ACode := .seq (.ops [ oq 2 (.mv (.v (.sl .full [])))]) (.seq (.ops [ oq 5 (.bsl 1 []),oq 3 (.mv (.t 5))]) (.seq (.seq (.ops [ oq 4 (.mv (.v (.int .i64 0)))]) (.block 0 (.loop c46_14))) (.seq (.ops [ oq 25 (.mv (.t 3)),oq 2 (.mv (.t 25))]) .ret)))
@[go_sem] def c46_14_wp:=wp_of c46_14.eq_1
@[go_sem] def c46_22_wp:=wp_of c46_22.eq_1
def c46:AFn:=⟨26,[.t 2],c46_22⟩
theorem c46_ok:compF Tryz.prog Tryz.f46=some c46:=by kernel_rfl
theorem a46 {args:List AV} {σ:ASt} {R:AV->ASt->Prop} (hl:args.length<=26) (h:c46_22.wp Tryz.prog (RetQ [.t 2] R) (init args) σ):ACalls Tryz.prog 46 args σ R:=acalls_of Tryz.func46 c46_ok hl h
end Go.A
namespace Go.A
open Go.Proofs Go.Lib Go.Vint
def ordV (k:Int) (n:Nat):List AV:=(List.range n).map fun (i:Nat)=>AV.int .i64 (placeN k i:Nat)
theorem ordV_succ (k:Int) (n:Nat):ordV k (n+1)=ordV k n ++ [.int .i64 (placeN k n:Nat)]:=by
 unfold ordV
 rw [List.range_succ,List.map_append]
 rfl
theorem ordV_len (k:Int) (n:Nat):(ordV k n).length=n:=by unfold ordV;rw [List.length_map,List.length_range]
theorem ordV_get {k:Int} {n i:Nat} (h:i<n):(ordV k n)[i]? = some (.int .i64 (placeN k i:Nat)):=by
 unfold ordV
 rw [List.getElem?_map,List.getElem?_range h]
 rfl
theorem r20order_ok (k:Int):Pure Tryz.prog 46 [.int .i64 k] (.sl .shr (ordV k 32)):=by
 intro σ
 refine a46 (by simp) ?_
 simp (disch:=first|assumption|omega) only [go_sem]
 refine wp_loop_on (fun (i:Nat) a1 s2=>i<=32/\∃ q,(a1 0 = .int .i64 k/\a1 3 = .sl q (ordV k i)/\a1 4 = .int .i64 i)/\Grown σ s2 q (ordV k i).length 1) (fun i=>32-i) 0 ⟨Nat.zero_le _,.full,?_,.inl ⟨rfl,rfl,rfl⟩⟩ ?_
 ·simp (disch:=first|assumption|omega) only [go_sem]
  all_goals rfl
 rintro i a1 s2 ⟨hi,q,hf,hg⟩
 have hln:=ordV_len k i
 by_cases hlt:i<32
 ·have hlt':(i:Int)<32:=by omega
  have hst:=ordV_succ k i
  by_cases h:k=2
  ·have e1:((i:Nat):Int).tmod 8=((i % 8:Nat):Int):=by rw [Int.tmod_eq_emod_of_nonneg (by omega)];omega
   have e2:((i:Nat):Int).tdiv 8=((i / 8:Nat):Int):=by rw [Int.tdiv_eq_ediv_of_nonneg (by omega)];omega
   have hp:((placeN k i:Nat):Int)=((i % 8:Nat):Int)*4+((i / 8:Nat):Int):=by unfold placeN;rw [if_pos h];omega
   rw [hp] at hst
   generalize ordV k i=xs at *
   subst h
   simp (disch:=first|assumption|omega) only [go_sem,hf,hlt',e1,e2]
   refine appC_by hg rfl rfl (by rw [hln];simp;omega) (by rw [hln];simp;omega) fun q' s3 hg'=>?_
   simp (disch:=first|assumption|omega) only [go_sem,hf]
   refine ⟨i+1,by omega,by omega,q',?_,by rw [hst];simpa using hg'⟩
   rw [hst]
   simp (disch:=first|assumption|omega) only [go_sem]
   all_goals simp
  ·have hp:placeN k i=i:=by unfold placeN;rw [if_neg h]
   rw [hp] at hst
   generalize ordV k i=xs at *
   simp (disch:=first|assumption|omega) only [go_sem,hf,hlt',h]
   refine appC_by hg rfl rfl (by rw [hln];simp;omega) (by rw [hln];simp;omega) fun q' s3 hg'=>?_
   simp (disch:=first|assumption|omega) only [go_sem,hf]
   refine ⟨i+1,by omega,by omega,q',?_,by rw [hst];simpa using hg'⟩
   rw [hst]
   simp (disch:=first|assumption|omega) only [go_sem]
   all_goals simp
 ·have hi32:i=32:=by omega
  subst hi32
  have hlt':¬ ((32:Nat):Int)<32:=by omega
  generalize ordV k 32=xs at *
  simp (disch:=first|assumption|omega) only [go_sem,hf]
  exact retC_by hg.drop (by rw [resV_one];exact .sl _ _) ⟨rfl,rfl⟩
theorem r20write_ok (T:List TC) (hT:T.length=32) (hw:∀ c∈T,c.wfine/\c.t.size<=1000000/\0<=c.t.op) (k:Int) (hk:1<=k/\k<=3):Pure Tryz.prog 21 [.sl .shr (T.map TC.rav),.int .i64 k] (.str (tileB T k)):=by
 intro σ
 have hwf:∀ c∈T,c.wfine:=fun c hc=>(hw c hc).1
 have hput:∀ (i:Nat) (c:TC),T[i]? = some c->Pure Tryz.prog 47 [c.rav] (.str c.bytes):=fun i c h=>r20put_ok c (hw c (List.mem_of_getElem? h)).1 (hw c (List.mem_of_getElem? h)).2.1 (hw c (List.mem_of_getElem? h)).2.2
 have hxl:(T.map TC.rav).length=32:=by rw [List.length_map,hT]
 have hxg:∀ (i:Nat) (c:TC),T[i]? = some c->(T.map TC.rav)[i]? = some c.rav:=fun i c h=>by rw [List.getElem?_map,h];rfl
 generalize T.map TC.rav=X at *
 have hwk:IntKind.wrap .u64 k=k:=by rw [IntKind.wrap_u64,Int.emod_eq_of_lt (by omega) (by omega)]
 have hu:=uintB_le (u:=k) (by omega)
 have hU:=refUint_ok' k (by omega) (by omega)
 have hO:=r20order_ok k
 refine a21 (by simp) ?_
 simp (disch:=first|assumption|omega) only [go_sem,hwk]
 refine hU.use ?_
 by_cases h3:k=3
 ·subst h3
  have hB:tileB T 3=uintB 3++risingB (natsI (fullN T 32))++spB T (fullN T 32):=if_pos rfl
  rw [hB]
  rw [show (3:Int).toNat=3 from rfl] at hu ⊢
  generalize uintB 3=UB at *
  simp (disch:=first|assumption|omega) only [go_sem]
  refine wp_loop_on (fun (i:Nat) a1 s2=>i<=32/\∃ q,(a1 5 = .str UB/\a1 8 = .sl q ((fullN T i).map fun (n:Nat)=>AV.int .u64 (n:Int))/\a1 9 = .str (spB T (fullN T i))/\a1 34 = .sl .shr X/\a1 35 = .int .i64 32/\a1 36 = .int .i64 i)/\∃ σ1,Drop σ1 σ/\Grown σ1 s2 q ((fullN T i).map fun (n:Nat)=>AV.int .u64 (n:Int)).length 1) (fun i=>32-i) 0 ⟨Nat.zero_le _,.full,?_,σ,Drop.refl _,.inl ⟨rfl,rfl,rfl⟩⟩ ?_
  ·simp (disch:=first|assumption|omega) only [go_sem,hxl]
   all_goals exact ⟨rfl,rfl⟩
  rintro i a1 s2 ⟨hi,q,hf,σ1,hd,hg⟩
  have hsl:=spB_le hwf (fullN T i)
  have hle:=fullN_le T i
  by_cases hlt:i<32
  ·have hlt':(i:Int)<32:=by omega
   obtain ⟨c,hc⟩:∃ c,T[i]? = some c:=⟨_,List.getElem?_eq_getElem (by omega)⟩
   have hx:=hxg i c hc
   have hst:=fullN_succ hc
   have hE:=r20empty_ok c
   have hp:=hput i c hc
   have hcb:=cellB_at hc
   have hbl:=TC.bytes_le (hwf c (List.mem_of_getElem? hc))
   obtain ⟨cs,he,hcl,hlv⟩:=c.rav_agg
   rw [he] at hx hE hp
   have h15:cs.take 15=cs:=List.take_of_length_le (by omega)
   have hn1:((i:Nat):Int).toNat=i:=rfl
   have hwi:IntKind.wrap .u64 (i:Int)=i:=by rw [IntKind.wrap_u64,Int.emod_eq_of_lt (by omega) (by omega)]
   generalize c.empty=ce at *
   generalize c.bytes=CB at *
   simp (disch:=first|assumption|omega) only [go_sem,hf,hlt',hx,hn1,hcl,h15]
   refine allocC_by fun c5 h5=>?_
   obtain ⟨hg5,hz5⟩:=hg.plus (q := .obj cs) h5
   simp (disch:=first|assumption|omega) only [go_sem,hcl,hlv,h15,ASt.set_set]
   refine hE.use ?_
   cases ce with
   | true=>
     have hst:fullN T (i+1)=fullN T i:=by rw [hst];simp
     simp (disch:=first|assumption|omega) only [go_sem,hf]
     refine ⟨i+1,by omega,by omega,q,?_,_,(Drop.set hz5).trans hd,by rw [hst];simpa using hg5⟩
     rw [hst]
     simp (disch:=first|assumption|omega) only [go_sem]
     all_goals simp
   | false=>
     have hst:fullN T (i+1)=fullN T i ++ [i]:=by rw [hst];simp
     have hsp:spB T (fullN T (i+1))=spB T (fullN T i)++CB:=by
      rw [hst,← hcb]
      unfold spB
      rw [List.flatMap_append]
      simp
     have hb:binS .add (spB T (fullN T i)) CB=some (.str (spB T (fullN T i)++CB)):=binS_add (by omega)
     simp (disch:=first|assumption|omega) only [go_sem,hf,hwi]
     refine appC_by hg5 rfl rfl (by rw [List.length_map];simp;omega) (by rw [List.length_map];simp;omega) fun q' s3 hg'=>?_
     have hr5:=hg'.at (ASt.set_same _ _ _)
     simp (disch:=first|assumption|omega) only [go_sem,hf,hr5,hcl,h15]
     refine hp.use ?_
     simp (disch:=first|assumption|omega) only [go_sem,hf,hb]
     refine ⟨i+1,by omega,by omega,q',?_,_,(Drop.set hz5).trans hd,by rw [hst];simpa using hg'⟩
     rw [hsp,hst,List.map_append]
     simp (disch:=first|assumption|omega) only [go_sem]
     all_goals simp
  ·have hi32:i=32:=by omega
   subst hi32
   have hlt':¬ ((32:Nat):Int)<32:=by omega
   have hfr:=fullN_rises T 32 (Nat.le_refl _)
   have hR:=refRising_ok (natsI (fullN T 32)) hfr (by unfold natsI;rw [List.length_map];omega)
   have hrl:(natsI (fullN T 32)).length=(fullN T 32).length:=List.length_map _
   have hxs:(natsI (fullN T 32)).map (AV.int .u64)=(fullN T 32).map fun (n:Nat)=>AV.int .u64 (n:Int):=natsI_u64 _
   have hrlen:(risingB (natsI (fullN T 32))).length<=400:=by
    unfold risingB
    have h1:=uintB_le (u:=((natsI (fullN T 32)).length:Int)) (by omega)
    rw [Int.toNat_natCast] at h1
    have h2:=numsB_len (gaps (natsI (fullN T 32))) (fun x hx=>gaps_bd hfr x hx)
    rw [gaps_length] at h2
    rw [List.length_append]
    omega
   generalize spB T (fullN T 32)=SP at *
   generalize (fullN T 32).map (fun (n:Nat)=>AV.int .u64 (n:Int))=xs at *
   generalize risingB (natsI (fullN T 32))=RB at *
   have b1:binS .add UB RB=some (.str (UB++RB)):=binS_add (by omega)
   have b2:binS .add (UB++RB) SP=some (.str (UB++RB++SP)):=binS_add (by rw [List.length_append];omega)
   simp (disch:=first|assumption|omega) only [go_sem,hf]
   refine ACalls.shr (args' := [u64sAV (natsI (fullN T 32))]) (by unfold u64sAV;rw [hxs];rfl) ?_
   refine hR.use ?_
   simp (disch:=first|assumption|omega) only [go_sem,hf,b1,b2]
   exact retC_by (hg.drop.trans hd) (.refl _) ⟨rfl,rfl⟩
 ·have hB:tileB T k=uintB k.toNat++wrT T k 32:=if_neg h3
  rw [hB]
  generalize uintB k.toNat=UB at *
  simp (disch:=first|assumption|omega) only [go_sem,h3]
  refine hO.use ?_
  have hol:=ordV_len k 32
  simp (disch:=first|assumption|omega) only [go_sem,hol]
  refine wp_loop_on (fun (i:Nat) a1 s2=>i<=32/\(a1 0 = .sl .shr X/\a1 5 = .str (UB++wrT T k i)/\a1 18 = .sl .shr (ordV k 32)/\a1 19 = .int .i64 32/\a1 20 = .int .i64 i)/\s2=σ) (fun i=>32-i) 0 ⟨Nat.zero_le _,?_,rfl⟩ ?_
  ·simp (disch:=first|assumption|omega) only [go_sem]
   all_goals simp [wrT]
  rintro i a1 s2 ⟨hi,hf,rfl⟩
  have hle:=wrT_le hwf k i
  by_cases hlt:i<32
  ·have hlt':(i:Int)<32:=by omega
   have hj:=placeN_lt (k:=k) hlt
   have hog:=ordV_get (k:=k) hlt
   obtain ⟨c,hc⟩:∃ c,T[placeN k i]? = some c:=⟨_,List.getElem?_eq_getElem (by omega)⟩
   have hx:=hxg _ c hc
   have hp:=hput _ c hc
   have hst:=wrT_succ (T:=T) (k:=k) i
   rw [cellB_at hc] at hst
   have hbl:=TC.bytes_le (hwf c (List.mem_of_getElem? hc))
   obtain ⟨cs,he,hcl,hlv⟩:=c.rav_agg
   rw [he] at hx hp
   have h15:cs.take 15=cs:=List.take_of_length_le (by omega)
   have hn1:((i:Nat):Int).toNat=i:=rfl
   generalize placeN k i=j at *
   have hn0:((j:Nat):Int).toNat=j:=rfl
   have hj':(j:Int)<32:=by omega
   generalize ordV k 32=O at *
   generalize c.bytes=CB at *
   have hb:binS .add (UB++wrT T k i) CB=some (.str (UB++wrT T k i++CB)):=binS_add (by rw [List.length_append];omega)
   simp (disch:=first|assumption|omega) only [go_sem,hf,hlt',hog,hn1,hx,hn0,hcl,h15]
   refine hp.use ?_
   simp (disch:=first|assumption|omega) only [go_sem,hf,hb]
   refine ⟨i+1,by omega,by omega,?_,rfl⟩
   rw [hst,← List.append_assoc]
  ·have hi32:i=32:=by omega
   subst hi32
   have hlt':¬ ((32:Nat):Int)<32:=by omega
   simp (disch:=first|assumption|omega) only [go_sem,hf]
   exact retC_by (.refl _) (.refl _) ⟨rfl,rfl⟩
end Go.A
namespace Go.A
open Go.Proofs
/-! 133: tabular/tabularref10.Letters -/
def c133_15:ACode := .seq (.seq (.ops [ oq 11 (.mv (.t 4)),oq 12 (.mv (.t 0)),oq 13 (.bin .lss (.t 11) (.t 12))]) (.cond (.t 13) .skip (.exit 0))) (.seq (.block 1 (.ops [ oq 16 (.mv (.t 3)),oe 17 (.call 182 [(.t 16)]),oq 3 (.mv (.t 17))])) (.ops [ oq 14 (.mv (.t 4)),oq 15 (.bin .add (.t 14) (.v (.int .i64 1))),oq 4 (.mv (.t 15))]))
def c133_24:ACode := .seq (.ops [ oq 2 (.mv (.v (.str [])))]) (.seq (.seq (.ops [ oq 5 (.mv (.t 0)),oq 6 (.bin .lss (.t 5) (.v (.int .i64 0))),oq 7 (.mv (.t 6)),⟨some 8,some (7,false),.q (.mv (.t 0)),[]⟩,⟨some 9,some (7,false),.q (.bin .gtr (.t 8) (.v (.int .i64 699))),[]⟩,oq 10 (.pick (.t 7) (.v (.bool true)) (.t 9))]) (.cond (.t 10) (.seq (.ops [ oq 2 (.mv (.v (.str [])))]) .ret) .skip)) (.seq (.ops [ oq 3 (.mv (.v (.str [65])))]) (.seq (.seq (.ops [ oq 4 (.mv (.v (.int .i64 0)))]) (.block 0 (.loop c133_15))) (.seq (.ops [ oq 18 (.mv (.t 3)),oq 2 (.mv (.t 18))]) .ret))))
@[go_sem] def c133_15_wp:=wp_of c133_15.eq_1
@[go_sem] def c133_24_wp:=wp_of c133_24.eq_1
def c133:AFn:=⟨19,[.t 2],c133_24⟩
theorem c133_ok:compF Tryz.prog Tryz.f133=some c133:=by kernel_rfl
theorem a133 {args:List AV} {σ:ASt} {R:AV->ASt->Prop} (hl:args.length<=19) (h:c133_24.wp Tryz.prog (RetQ [.t 2] R) (init args) σ):ACalls Tryz.prog 133 args σ R:=acalls_of Tryz.func133 c133_ok hl h
/-! 138: tabular/tabularref10.Great -/
def c138_15:ACode := .seq (.ops [ oq 10 (.bin .lss (.t 9) (.t 8))]) (.seq (.cond (.t 10) .skip (.exit 0)) (.seq (.block 1 (.seq (.ops [ oq 11 (.mv (.t 9)),oq 4 (.mv (.t 11))]) (.seq (.ops [ oq 12 (.mv (.t 3)),oq 13 (.mv (.t 4)),oq 14 (.ia 1 (.t 12) (.t 13)),oq 15 (.ld none (.t 14)),oq 16 (.bin .geq (.t 15) (.v (.int .u8 97))),oq 17 (.mv (.t 16)),⟨some 18,some (17,true),.q (.mv (.t 3)),[]⟩,⟨some 19,some (17,true),.q (.mv (.t 4)),[]⟩,⟨some 20,some (17,true),.q (.ia 1 (.t 18) (.t 19)),[]⟩,⟨some 21,some (17,true),.q (.ld none (.t 20)),[]⟩,⟨some 22,some (17,true),.q (.bin .leq (.t 21) (.v (.int .u8 122))),[]⟩,oq 23 (.pick (.t 17) (.t 22) (.v (.bool false)))]) (.cond (.t 23) (.ops [ oq 24 (.mv (.t 3)),oq 25 (.mv (.t 4)),oq 26 (.ia 1 (.t 24) (.t 25)),oq 27 (.ld none (.t 26)),oq 28 (.bin .sub (.t 27) (.v (.int .u8 32))),oq 29 (.ia 1 (.t 24) (.t 25)),oz (.store 1 (.t 29) (.t 28))]) .skip)))) (.ops [ oq 30 (.bin .add (.t 9) (.v (.int .i64 1))),oq 9 (.mv (.t 30))])))
def c138_23:ACode := .seq (.ops [ oq 2 (.mv (.v (.str [])))]) (.seq (.ops [ oq 5 (.mv (.t 0)),oe 6 (.s2b (.t 5)),oq 3 (.mv (.t 6))]) (.seq (.seq (.ops [ oq 7 (.mv (.t 3)),oq 8 (.len (.t 7)),oq 9 (.mv (.v (.int .i64 0)))]) (.block 0 (.loop c138_15))) (.seq (.ops [ oq 31 (.mv (.t 3)),oq 32 (.b2s (.t 31)),oq 2 (.mv (.t 32))]) .ret)))
@[go_sem] def c138_15_wp:=wp_of c138_15.eq_1
@[go_sem] def c138_23_wp:=wp_of c138_23.eq_1
def c138:AFn:=⟨33,[.t 2],c138_23⟩
theorem c138_ok:compF Tryz.prog Tryz.f138=some c138:=by kernel_rfl
theorem a138 {args:List AV} {σ:ASt} {R:AV->ASt->Prop} (hl:args.length<=33) (h:c138_23.wp Tryz.prog (RetQ [.t 2] R) (init args) σ):ACalls Tryz.prog 138 args σ R:=acalls_of Tryz.func138 c138_ok hl h
/-! 182: tabular/tabularref10.Next -/
def c182_18:ACode := .seq (.seq (.ops [ oq 10 (.mv (.t 4)),oq 11 (.bin .geq (.t 10) (.v (.int .i64 0)))]) (.cond (.t 11) .skip (.exit 0))) (.seq (.block 1 (.seq (.seq (.ops [ oq 14 (.mv (.t 3)),oq 15 (.mv (.t 4)),oq 16 (.ia 1 (.t 14) (.t 15)),oq 17 (.ld none (.t 16)),oq 18 (.bin .lss (.t 17) (.v (.int .u8 90)))]) (.cond (.t 18) (.seq (.ops [ oq 19 (.mv (.t 3)),oq 20 (.mv (.t 4)),oq 21 (.ia 1 (.t 19) (.t 20)),oq 22 (.ld none (.t 21)),oq 23 (.bin .add (.t 22) (.v (.int .u8 1))),oq 24 (.ia 1 (.t 19) (.t 20)),oz (.store 1 (.t 24) (.t 23))]) (.seq (.ops [ oq 25 (.mv (.t 3)),oq 26 (.b2s (.t 25)),oq 2 (.mv (.t 26))]) .ret)) .skip)) (.ops [ oq 27 (.mv (.t 3)),oq 28 (.mv (.t 4)),oq 29 (.ia 1 (.t 27) (.t 28)),oz (.store 1 (.t 29) (.v (.int .u8 65)))]))) (.ops [ oq 12 (.mv (.t 4)),oq 13 (.bin .sub (.t 12) (.v (.int .i64 1))),oq 4 (.mv (.t 13))]))
def c182_26:ACode := .seq (.ops [ oq 2 (.mv (.v (.str [])))]) (.seq (.ops [ oq 5 (.mv (.t 0)),oe 6 (.s2b (.t 5)),oq 3 (.mv (.t 6))]) (.seq (.seq (.ops [ oq 7 (.mv (.t 3)),oq 8 (.len (.t 7)),oq 9 (.bin .sub (.t 8) (.v (.int .i64 1))),oq 4 (.mv (.t 9))]) (.block 0 (.loop c182_18))) (.seq (.ops [ oq 30 (.mv (.t 3)),oq 31 (.b2s (.t 30)),oq 32 (.bin .add (.v (.str [65])) (.t 31)),oq 2 (.mv (.t 32))]) .ret)))
@[go_sem] def c182_18_wp:=wp_of c182_18.eq_1
@[go_sem] def c182_26_wp:=wp_of c182_26.eq_1
def c182:AFn:=⟨33,[.t 2],c182_26⟩
theorem c182_ok:compF Tryz.prog Tryz.f182=some c182:=by kernel_rfl
theorem a182 {args:List AV} {σ:ASt} {R:AV->ASt->Prop} (hl:args.length<=33) (h:c182_26.wp Tryz.prog (RetQ [.t 2] R) (init args) σ):ACalls Tryz.prog 182 args σ R:=acalls_of Tryz.func182 c182_ok hl h
end Go.A
namespace Go.A
open Go.Proofs
def nextR:List UInt8->List UInt8
 | [] => [65]
 | c::r=>if c.toNat<90 then UInt8.ofNat (c.toNat+1)::r else 65::nextR r
def nextP (l:List UInt8):List UInt8:=(nextR l.reverse).reverse
theorem next_ok (l:List UInt8) (hl:l.length<4611686018427387904):Pure Tryz.prog 182 [.str l] (.str (nextP l)):=by
 intro σ
 obtain ⟨q,hq⟩:∃ q,nextP l=q:=⟨_,rfl⟩
 rw [hq]
 refine a182 (by simp) ?_
 simp (disch:=first|assumption|omega) only [go_sem]
 refine s2b_own fun b cp hb hcp=>?_
 simp (disch:=first|assumption|omega) only [go_sem]
 refine wp_loop_on (fun (i:Nat×List UInt8) a σ'=>i.1<=i.2.length/\i.2.length=l.length/\(nextR (i.2.take i.1).reverse).reverse++i.2.drop i.1=q/\(a 3 = .msl b 0 l.length cp/\a 4 = .int .i64 ((i.1:Int)-1))/\σ'=σ.set b (some (.obj (bytesAV i.2))))
  (fun i=>i.1) (l.length,l) ⟨Nat.le_refl _,rfl,by simpa [nextP] using hq,?_,rfl⟩ ?_
 ·simp (disch:=first|assumption|omega) only [go_sem]
 rintro ⟨k,m⟩ a σ1 ⟨hk,hm,hqe,hf,rfl⟩
 dsimp only at hk hm hqe hf
 cases k with
 | zero=>
   have h0:¬ (0:Int)<=((0:Nat):Int)-1:=by omega
   have hle:l.length<=m.length:=by omega
   have htk:=bytes_all hm
   have h1:1+m.length<=9223372036854775807:=by omega
   simp only [List.take_zero,List.reverse_nil,nextR,List.drop_zero] at hqe
   simp (disch:=first|assumption|omega) only [go_sem,hf,hle,htk]
   exact retC_by (by repeat' (first|exact Drop.refl _|with_reducible refine Drop.off ?_ (by assumption))) (.refl _) ⟨by rw [<-hqe];rfl,rfl⟩
 | succ k=>
   have hlt:k<m.length:=by omega
   have hidx : m[k]? = some (m[k]'hlt) := List.getElem?_eq_getElem hlt
   obtain ⟨c, hc⟩ : ∃ c, m[k]'hlt = c := ⟨_, rfl⟩
   rw [hc] at hidx
   have hcb:=u8_lt c
   have h0:(0:Int)<=k:=by omega
   have hi:((k+1:Nat):Int)-1=k:=by omega
   have hi2:(k:Int)<l.length:=by omega
   have hle:k+1<=m.length:=by omega
   rw [hi] at hf
   have htake:m.take (k+1)=m.take k ++ [c]:=by rw [List.take_succ_eq_append_getElem hlt,hc]
   rw [htake,List.reverse_append,List.reverse_singleton,List.singleton_append,nextR] at hqe
   by_cases h90:c.toNat<90
   ·have h90':(c.toNat:Int)<90:=by omega
    rw [if_pos h90] at hqe
    have hw:=set_bytes (m:=(c.toNat:Int)+1) hlt
    rw [show (c.toNat:Int)+1=((UInt8.ofNat (c.toNat+1)).toNat:Int) by rw [u8_nat (by omega)];omega,bytes_set] at hw
    have hw0:(c.toNat:Int)+1=((UInt8.ofNat (c.toNat+1)).toNat:Int):=by rw [u8_nat (by omega)];omega
    have htk:=bytes_all (l:=m.set k (UInt8.ofNat (c.toNat+1))) (n:=l.length) (by simp [hm])
    have hle2:l.length<=m.length:=by omega
    simp (disch:=first|assumption|omega) only [go_sem,hf,h0,hidx,h90',hle,hw0,hw,htk,List.length_set,hle2]
    refine retC_by (by repeat' (first|exact Drop.refl _|with_reducible refine Drop.off ?_ (by assumption))) (.refl _) ⟨?_,rfl⟩
    rw [<-hqe,List.reverse_cons,List.reverse_reverse,List.set_eq_take_append_cons_drop,if_pos hlt]
    simp [resV_one]
   ·have h90':¬ (c.toNat:Int)<90:=by omega
    rw [if_neg h90] at hqe
    have hw:=set_bytes (m:=65) hlt
    rw [show (65:Int)=((65:UInt8).toNat:Int) by rfl,bytes_set] at hw
    have hw':(bytesAV m).take k ++ [.int .u8 65]++(bytesAV m).drop (k+1)=bytesAV (m.set k 65):=hw
    simp (disch:=first|assumption|omega) only [go_sem,hf,h0,hidx,h90',hle,hw']
    refine ⟨(k,m.set k 65),by dsimp only;omega,by simp;omega,by simp [hm],?_,?_,rfl⟩
    ·rw [<-hqe]
     dsimp only
     rw [List.take_set_of_le (Nat.le_refl k),List.reverse_cons,List.drop_set,if_neg (by omega),Nat.sub_self]
     simp
     rw [List.drop_eq_getElem_cons hlt]
     rfl
    ·simp (disch:=first|assumption|omega) only [go_sem]
theorem great_ok (l:List UInt8) (hl:l.length<4611686018427387904):Pure Tryz.prog 138 [.str l] (.str (greatP l)):=by
 intro σ
 refine a138 (by simp) ?_
 simp (disch:=first|assumption|omega) only [go_sem]
 refine s2b_own fun b cp hb hcp=>?_
 simp (disch:=first|assumption|omega) only [go_sem]
 refine wp_loop_on (fun (i:Nat) a σ'=>i<=l.length/\(a 3 = .msl b 0 l.length cp/\a 8 = .int .i64 l.length/\a 9 = .int .i64 i)/\σ'=σ.set b (some (.obj (bytesAV (greatP (l.take i)++l.drop i)))))
  (fun i=>l.length-i) 0 ⟨Nat.zero_le _,?_,by simp [greatP]⟩ ?_
 ·simp (disch:=first|assumption|omega) only [go_sem]
 rintro i a σ1 ⟨hi,hf,rfl⟩
 obtain ⟨m,hm⟩:∃ m,greatP (l.take i)++l.drop i=m:=⟨_,rfl⟩
 have hml:m.length=l.length:=by rw [<-hm];simp [greatP];omega
 have hgl:(greatP (l.take i)).length=i:=by simp [greatP];omega
 rw [hm]
 by_cases hlt:i<l.length
 ·have hidx : m[i]? = some (l[i]'hlt) := by rw [← hm, List.getElem?_append_right (by omega), hgl]; simp
  obtain ⟨c, hc⟩ : ∃ c, l[i]'hlt = c := ⟨_, rfl⟩
  rw [hc] at hidx
  have hcb:=u8_lt c
  have hi2:(i:Int)<l.length:=by omega
  have hle:i+1<=m.length:=by omega
  have hnext:greatP (l.take (i+1))++l.drop (i+1)=m.set i (greatC c):=by
   rw [<-hm,List.take_succ_eq_append_getElem hlt,hc,List.set_append_right _ _ (by omega),hgl,Nat.sub_self]
   simp only [greatP,List.map_append,List.map_cons,List.map_nil,List.append_assoc,List.singleton_append]
   rw [List.drop_eq_getElem_cons hlt]
   rfl
  by_cases hg:97<=c.toNat/\c.toNat<=122
  ·have g1:(97:Int)<=c.toNat:=by omega
   have g2:(c.toNat:Int)<=122:=by omega
   have hgc:greatC c=UInt8.ofNat (c.toNat-32):=by unfold greatC;rw [if_pos hg]
   have hw:=set_bytes (l:=m) (i:=i) (m:=(c.toNat:Int)-32) (by omega)
   have hw0:(c.toNat:Int)-32=((UInt8.ofNat (c.toNat-32)).toNat:Int):=by rw [u8_nat (by omega)];omega
   rw [hw0,bytes_set] at hw
   simp (disch:=first|assumption|omega) only [go_sem,hf,hi2,hidx,g1,g2,hle,hw0,hw]
   refine ⟨i+1,by omega,by omega,?_,by rw [hnext,hgc]⟩
   simp (disch:=first|assumption|omega) only [go_sem]
  ·have hgc:greatC c=c:=by unfold greatC;rw [if_neg hg]
   have hms:m.set i c=m:=by
    apply List.ext_getElem?
    intro j
    rw [List.getElem?_set]
    split
    ·rename_i h;subst h;rw [hidx];split<;>first|rfl|omega
    ·rfl
   by_cases g1:(97:Int)<=c.toNat
   ·have g2:¬ (c.toNat:Int)<=122:=by omega
    simp (disch:=first|assumption|omega) only [go_sem,hf,hi2,hidx,g1,g2]
    refine ⟨i+1,by omega,by omega,?_,by rw [hnext,hgc,hms]⟩
    simp (disch:=first|assumption|omega) only [go_sem]
   ·simp (disch:=first|assumption|omega) only [go_sem,hf,hi2,hidx,g1]
    refine ⟨i+1,by omega,by omega,?_,by rw [hnext,hgc,hms]⟩
    simp (disch:=first|assumption|omega) only [go_sem]
 ·have hi2:¬ (i:Int)<l.length:=by omega
  have hle2:l.length<=m.length:=by omega
  have htk:=bytes_all hml
  simp (disch:=first|assumption|omega) only [go_sem,hf,hi2,hle2,htk]
  refine retC_by (by repeat' (first|exact Drop.refl _|with_reducible refine Drop.off ?_ (by assumption))) (.refl _) ⟨?_,rfl⟩
  rw [<-hm,List.take_of_length_le (by omega),List.drop_eq_nil_of_le (by omega),List.append_nil]
  rfl
theorem names_next1:(List.range 699).all (fun i=>decide (nextP (lettersP i)=lettersP (i+1:Nat)))=true:=by decide +kernel
theorem names_next {i:Nat} (h:i<699):nextP (lettersP i)=lettersP (i+1:Nat):=by
 have:=List.all_eq_true.1 names_next1 i (List.mem_range.2 h)
 simpa using this
theorem name_0:lettersP (0:Nat) = [65]:=by decide
theorem rletters_ok (col:Int):Pure Tryz.prog 133 [.int .i64 col] (.str (lettersP col)):=by
 intro σ
 refine a133 (by simp) ?_
 by_cases hc:col<0\/699<col
 ·have e:lettersP col = []:=by unfold lettersP;rw [if_pos (by omega)]
  rw [e]
  repeat' (first|(simp (disch:=first|assumption|omega) only [go_sem])|with_reducible refine gC_d (fun h=>?_) (fun h=>?_)|with_reducible refine gC_dn (fun h=>?_) (fun h=>?_)|with_reducible refine condC_d (fun h=>?_) (fun h=>?_)|with_reducible refine condC_n (fun h=>?_) (fun h=>?_)|with_reducible refine condC_b (fun h=>?_) (fun h=>?_)|with_reducible refine boxC_by ?_ fun b hb=>?_)
  all_goals first|(exfalso;omega)|exact retC_by (Drop.refl _) (.refl _) ⟨rfl,rfl⟩
 ·obtain ⟨n,rfl⟩:∃ n:Nat,col=n:=⟨col.toNat,by omega⟩
  have h0:¬ (n:Int)<0:=by omega
  have h1:¬ (699:Int)<n:=by omega
  simp (disch:=first|assumption|omega) only [go_sem,h0,h1]
  refine wp_loop_on (fun (i:Nat) a σ'=>i<=n/\(a 0 = .int .i64 n/\a 3 = .str (lettersP i)/\a 4 = .int .i64 i)/\σ'=σ) (fun i=>n-i) 0 ⟨Nat.zero_le _,?_,rfl⟩ ?_
  ·rw [name_0]
   simp (disch:=first|assumption|omega) only [go_sem]
  rintro i a σ1 ⟨hi,hf,rfl⟩
  by_cases hlt:i<n
  ·have hlt':(i:Int)<n:=by omega
   simp (disch:=first|assumption|omega) only [go_sem,hf,hlt']
   refine (next_ok _ (by have:=letters_len i;omega)).use ?_
   rw [names_next (by omega)]
   simp (disch:=first|assumption|omega) only [go_sem,hf]
   exact ⟨i+1,by omega,by omega,by simp (disch:=first|assumption|omega) only [go_sem],rfl⟩
  ·have hlt':¬ (i:Int)<n:=by omega
   obtain rfl:i=n:=by omega
   simp (disch:=first|assumption|omega) only [go_sem,hf,hlt']
   exact retC_by (Drop.refl _) (.refl _) ⟨rfl,rfl⟩
end Go.A
namespace Go.A
open Go.Proofs
theorem adec_step (n:Nat):Lib.decDigits n=if n<10 then [UInt8.ofNat (48+n)] else Lib.decDigits (n / 10) ++ [UInt8.ofNat (48+n % 10)]:=by
 rw [Lib.decDigits]
 by_cases h1:n<10
 ·rw [dif_pos h1,if_pos h1]
 ·rw [dif_neg h1,if_neg h1]
end Go.A
namespace Go.A
open Go.Proofs
/-! 131: tabular/tabularref01.Digits -/
def c131_12:ACode := .seq (.seq (.ops [ oq 5 (.mv (.t 4)),oq 6 (.bin .lss (.t 5) (.v (.int .i64 20))),oq 7 (.mv (.t 6)),⟨some 8,some (7,true),.q (.mv (.t 4)),[]⟩,⟨some 9,some (7,true),.q (.bin .eql (.t 8) (.v (.int .i64 0))),[]⟩,⟨some 10,some (7,true),.q (.mv (.t 9)),[]⟩,⟨some 11,some (10,false),.q (.mv (.t 0)),[]⟩,⟨some 12,some (10,false),.q (.bin .gtr (.t 11) (.v (.int .u64 0))),[]⟩,⟨some 13,some (7,true),.q (.pick (.t 10) (.v (.bool true)) (.t 12)),[]⟩,oq 14 (.pick (.t 7) (.t 13) (.v (.bool false)))]) (.cond (.t 14) .skip (.exit 0))) (.seq (.block 1 (.seq (.ops [ oq 17 (.mv (.t 0)),oq 18 (.bin .rem (.t 17) (.v (.int .u64 10))),oq 19 (.bin .add (.v (.int .u64 48)) (.t 18)),oq 20 (.conv .u8 (.t 19)),oq 21 (.bsl 1 [(.t 20)]),oq 22 (.b2s (.t 21)),oq 23 (.mv (.t 3)),oq 24 (.bin .add (.t 22) (.t 23)),oq 3 (.mv (.t 24))]) (.ops [ oq 25 (.mv (.t 0)),oq 26 (.bin .quo (.t 25) (.v (.int .u64 10))),oq 0 (.mv (.t 26))]))) (.ops [ oq 15 (.mv (.t 4)),oq 16 (.bin .add (.t 15) (.v (.int .i64 1))),oq 4 (.mv (.t 16))]))
def c131_20:ACode := .seq (.ops [ oq 2 (.mv (.v (.str [])))]) (.seq (.ops [ oq 3 (.mv (.v (.str [])))]) (.seq (.seq (.ops [ oq 4 (.mv (.v (.int .i64 0)))]) (.block 0 (.loop c131_12))) (.seq (.ops [ oq 27 (.mv (.t 3)),oq 2 (.mv (.t 27))]) .ret)))
@[go_sem] def c131_12_wp:=wp_of c131_12.eq_1
@[go_sem] def c131_20_wp:=wp_of c131_20.eq_1
def c131:AFn:=⟨28,[.t 2],c131_20⟩
theorem c131_ok:compF Tryz.prog Tryz.f131=some c131:=by kernel_rfl
theorem a131 {args:List AV} {σ:ASt} {R:AV->ASt->Prop} (hl:args.length<=28) (h:c131_20.wp Tryz.prog (RetQ [.t 2] R) (init args) σ):ACalls Tryz.prog 131 args σ R:=acalls_of Tryz.func131 c131_ok hl h
end Go.A
namespace Go.A
open Go.Proofs
theorem adigits_ok (n:Nat) (hn:n<18446744073709551616):Pure Tryz.prog 131 [.int .u64 n] (.str (Lib.decDigits n)):=by
 intro σ
 refine a131 (by simp) ?_
 obtain ⟨D,hD⟩:∃ D,Lib.decDigits n=D:=⟨_,rfl⟩
 rw [hD]
 simp (disch:=first|assumption|omega) only [go_sem]
 refine wp_loop_on (fun (i:Nat×Nat×List UInt8) a σ'=>i.1<=20/\i.2.1<=n/\i.2.1<10 ^ (20-i.1)/\i.2.2.length=i.1/\((i.1=0/\Lib.decDigits i.2.1=D)\/(0<i.1/\(if i.2.1=0 then [] else Lib.decDigits i.2.1)++i.2.2=D))/\(a 0 = .int .u64 i.2.1/\a 3 = .str i.2.2/\a 4 = .int .i64 i.1)/\σ'=σ)
  (fun i=>20-i.1) (0,n,[]) ⟨by simp,Nat.le_refl _,by simp;omega,rfl,.inl ⟨rfl,hD⟩,?_,rfl⟩ ?_
 ·simp (disch:=first|assumption|omega) only [go_sem]
 rintro ⟨i,m,s⟩ a σ1 ⟨hi,hmn,hm,hs,hx,⟨f0,f3,f4⟩,rfl⟩
 dsimp only at hi hmn hm hs hx f0 f3 f4
 by_cases hend:i=20\/(0<i/\m=0)
 ·have hsD:s=D:=by
   rcases hx with ⟨h1,h2⟩|⟨h1,h2⟩
   ·omega
   ·have:m=0:=by
     rcases hend with rfl|h
     ·simpa using hm
     ·exact h.2
    rw [if_pos this] at h2
    exact h2
  by_cases h20:i=20
  ·have e1:¬ (i:Int)<20:=by omega
   simp (disch:=first|assumption|omega) only [go_sem,f3,f4,e1]
   exact retC_by (Drop.refl _) (.refl _) ⟨by rw [<-hsD];rfl,rfl⟩
  ·have e1:(i:Int)<20:=by omega
   have e2:¬ (i:Int)=0:=by omega
   have e3:¬ (0:Int)<m:=by omega
   simp (disch:=first|assumption|omega) only [go_sem,f0,f3,f4,e1,e2,e3]
   exact retC_by (Drop.refl _) (.refl _) ⟨by rw [<-hsD];rfl,rfl⟩
 ·have e1:(i:Int)<20:=by omega
  have t1:(m:Int).tmod 10=((m % 10:Nat):Int):=rfl
  have t2:(m:Int).tdiv 10=((m / 10:Nat):Int):=rfl
  have e4:(48+((m % 10:Nat):Int)).toNat=48+m % 10:=by omega
  have hs1:1+s.length<=9223372036854775807:=by omega
  have hstep:(0<i->m≠0)->(if m / 10=0 then [] else Lib.decDigits (m / 10))++(UInt8.ofNat (48+m % 10)::s)=Lib.decDigits m++s:=by
   intro _
   rw [adec_step m]
   by_cases h10:m<10
   ·rw [if_pos h10,if_pos (by omega),show m % 10=m by omega];rfl
   ·rw [if_neg h10,if_neg (by omega)];simp
  have g2:m / 10<10 ^ (20-(i+1)):=by
   rw [show 20-i=(20-(i+1))+1 by omega,Nat.pow_succ] at hm
   omega
  have g4:(if m / 10=0 then [] else Lib.decDigits (m / 10))++(UInt8.ofNat (48+m % 10)::s)=D:=by
   rw [hstep (by omega)]
   rcases hx with ⟨h1,h2⟩|⟨h1,h2⟩
   ·subst h1
    rw [List.eq_nil_of_length_eq_zero hs,List.append_nil]
    exact h2
   ·rw [if_neg (by omega)] at h2
    exact h2
  by_cases h0:i=0
  ·subst h0
   simp (disch:=first|assumption|omega) only [go_sem,f0,f3,f4,t1,t2,e4]
   exact ⟨(0+1,m / 10,UInt8.ofNat (48+m % 10)::s),by dsimp only;omega,by dsimp only;omega,by dsimp only;omega,g2,by simp [hs],.inr ⟨by dsimp only;omega,g4⟩,rfl,rfl,rfl⟩
  ·have e2:¬ (i:Int)=0:=by omega
   have e3:(0:Int)<m:=by omega
   simp (disch:=first|assumption|omega) only [go_sem,f0,f3,f4,e1,e2,e3,t1,t2,e4]
   exact ⟨(i+1,m / 10,UInt8.ofNat (48+m % 10)::s),by dsimp only;omega,by dsimp only;omega,by dsimp only;omega,g2,by simp [hs],.inr ⟨by dsimp only;omega,g4⟩,rfl,rfl,rfl⟩
end Go.A
namespace Go.A
open Go.Proofs
/-! 83: tabular/tabularref10.Text -/
def c83_17:ACode := .seq (.ops [ oe 1 (.box (.t 0)),oq 2 (.mv (.v (.str [])))]) (.seq (.ops [ oq 3 (.mv (.v (.str [])))]) (.seq (.seq (.ops [ oq 4 (.fa 3 (.t 1)),oq 5 (.ld none (.t 4))]) (.cond (.t 5) (.ops [ oq 3 (.mv (.v (.str [36])))]) .skip)) (.seq (.ops [ oq 6 (.mv (.t 3)),oq 7 (.fa 1 (.t 1)),oq 8 (.ld none (.t 7)),oe 9 (.call 133 [(.t 8)]),oq 10 (.bin .add (.t 6) (.t 9)),oq 3 (.mv (.t 10))]) (.seq (.seq (.ops [ oq 11 (.fa 2 (.t 1)),oq 12 (.ld none (.t 11))]) (.cond (.t 12) (.ops [ oq 13 (.mv (.t 3)),oq 14 (.bin .add (.t 13) (.v (.str [36]))),oq 3 (.mv (.t 14))]) .skip)) (.seq (.ops [ oq 15 (.mv (.t 3)),oq 16 (.fa 0 (.t 1)),oq 17 (.ld none (.t 16)),oq 18 (.bin .add (.t 17) (.v (.int .i64 1))),oq 19 (.conv .u64 (.t 18)),oe 20 (.call 131 [(.t 19)]),oq 21 (.bin .add (.t 15) (.t 20)),oq 2 (.mv (.t 21))]) .ret)))))
@[go_sem] def c83_17_wp:=wp_of c83_17.eq_1
def c83:AFn:=⟨22,[.t 2],c83_17⟩
theorem c83_ok:compF Tryz.prog Tryz.f83=some c83:=by kernel_rfl
theorem a83 {args:List AV} {σ:ASt} {R:AV->ASt->Prop} (hl:args.length<=22) (h:c83_17.wp Tryz.prog (RetQ [.t 2] R) (init args) σ):ACalls Tryz.prog 83 args σ R:=acalls_of Tryz.func83 c83_ok hl h
end Go.A
namespace Go.A
open Go.Proofs
theorem reftext_ok {r:Ref} (hg:r.good=true):Pure Tryz.prog 83 [refAV r] (.str (textP r)):=by
 intro σ
 have hg':=hg
 simp only [Ref.good,decide_eq_true_eq] at hg'
 obtain ⟨g1,g2,g3,g4⟩:=hg'
 have hl:=letters_len r.col
 have hn:=(num_facts g1 g2).2.2.2.1
 have hd:=adigits_ok (r.row+1).toNat (by omega)
 rw [digF_eq 3 _ (by omega)] at hd
 have hd:Pure Tryz.prog 131 [.int .u64 ((r.row+1).toNat:Int)] (.str (numT r.row)):=hd
 rw [show (((r.row+1).toNat:Nat):Int)=r.row+1 by omega] at hd
 obtain ⟨l,hlq⟩:∃ l,textP r=l:=⟨_,rfl⟩
 rw [hlq]
 unfold textP at hlq
 obtain ⟨row,col,ar,ac⟩:=r
 dsimp only at *
 refine a83 (by simp) ?_
 simp (disch:=first|assumption|omega|(simp only [List.length_append,List.length_cons,List.length_nil];omega)) only [go_sem,refAV]
 refine boxC_by rfl fun b hb=>?_
 cases ac<;>cases ar<;>simp only [dolP,if_true,Bool.false_eq_true,if_false,List.nil_append,List.append_nil,List.append_assoc] at hlq
 all_goals simp (disch:=first|assumption|omega|(simp only [List.length_append,List.length_cons,List.length_nil];omega)) only [go_sem]
 all_goals refine (rletters_ok _).use ?_
 all_goals simp (disch:=first|assumption|omega|(simp only [List.length_append,List.length_cons,List.length_nil];omega)) only [go_sem]
 all_goals refine hd.use ?_
 all_goals simp (disch:=first|assumption|omega|(simp only [List.length_append,List.length_cons,List.length_nil];omega)) only [go_sem]
 all_goals exact retC_by (by repeat' (first|exact Drop.refl _|with_reducible refine Drop.off ?_ (by assumption))) (.refl _) ⟨by rw [<-hlq,resV_one];first|done|simp,rfl⟩
abbrev RT (σ:ASt):APost:=RetQ [.t 8] fun v σ'=>v = .bool true/\σ'=σ
end Go.A
namespace Go.A
open Go.Proofs
/-! 80: tabular/tabularref01.Text -/
def c80_7:ACode := .seq (.seq (.ops [ oq 9 (.mv (.t 3)),oq 10 (.lenS (.t 9)),oq 11 (.bin .lss (.t 10) (.v (.int .i64 5)))]) (.cond (.t 11) .skip (.exit 0))) (.block 1 (.ops [ oq 12 (.mv (.t 3)),oq 13 (.bin .add (.v (.str [48])) (.t 12)),oq 3 (.mv (.t 13))]))
def c80_16:ACode := .seq (.seq (.ops [ oq 24 (.mv (.t 5)),oq 25 (.lenS (.t 24)),oq 26 (.bin .gtr (.t 25) (.v (.int .i64 0))),oq 27 (.mv (.t 26)),⟨some 28,some (27,true),.q (.mv (.t 5)),[]⟩,⟨some 29,some (27,true),.q (.mv (.t 5)),[]⟩,⟨some 30,some (27,true),.q (.lenS (.t 29)),[]⟩,⟨some 31,some (27,true),.q (.bin .sub (.t 30) (.v (.int .i64 1))),[]⟩,⟨some 32,some (27,true),.q (.idx (.t 28) (.t 31)),[]⟩,⟨some 33,some (27,true),.q (.bin .eql (.t 32) (.v (.int .u8 48))),[]⟩,oq 34 (.pick (.t 27) (.t 33) (.v (.bool false)))]) (.cond (.t 34) .skip (.exit 2))) (.block 3 (.ops [ oq 35 (.mv (.t 5)),oq 36 (.mv (.t 5)),oq 37 (.lenS (.t 36)),oq 38 (.bin .sub (.t 37) (.v (.int .i64 1))),oq 39 (.slto (true,0) (.t 35) (.t 38)),oq 5 (.mv (.t 39))]))
def c80_31:ACode := .seq (.seq (.ops [ oq 40 (.mv (.t 5)),oq 41 (.lenS (.t 40)),oq 42 (.bin .gtr (.t 41) (.v (.int .i64 0)))]) (.cond (.t 42) (.ops [ oq 43 (.mv (.t 4)),oq 44 (.mv (.t 5)),oq 45 (.bin .add (.v (.str [46])) (.t 44)),oq 46 (.bin .add (.t 43) (.t 45)),oq 4 (.mv (.t 46))]) .skip)) (.seq (.seq (.ops [ oq 47 (.mv (.t 0)),oq 48 (.bin .lss (.t 47) (.v (.int .i64 0)))]) (.cond (.t 48) (.seq (.ops [ oq 49 (.mv (.t 4)),oq 50 (.bin .add (.v (.str [45])) (.t 49)),oq 2 (.mv (.t 50))]) .ret) .skip)) (.seq (.ops [ oq 51 (.mv (.t 4)),oq 2 (.mv (.t 51))]) .ret))
def c80_36:ACode := .seq (.ops [ oq 2 (.mv (.v (.str [])))]) (.seq (.ops [ oq 6 (.mv (.t 0)),oe 7 (.call 132 [(.t 6)]),oe 8 (.call 131 [(.t 7)]),oq 3 (.mv (.t 8))]) (.seq (.block 0 (.loop c80_7)) (.seq (.ops [ oq 14 (.mv (.t 3)),oq 15 (.mv (.t 3)),oq 16 (.lenS (.t 15)),oq 17 (.bin .sub (.t 16) (.v (.int .i64 4))),oq 18 (.slto (true,0) (.t 14) (.t 17)),oq 19 (.mv (.t 3)),oq 20 (.mv (.t 3)),oq 21 (.lenS (.t 20)),oq 22 (.bin .sub (.t 21) (.v (.int .i64 4))),oq 23 (.slfrom (true,0) (.t 19) (.t 22)),oq 4 (.mv (.t 18)),oq 5 (.mv (.t 23))]) (.seq (.block 2 (.loop c80_16)) c80_31))))
@[go_sem] def c80_7_wp:=wp_of c80_7.eq_1
@[go_sem] def c80_16_wp:=wp_of c80_16.eq_1
@[go_sem] def c80_31_wp:=wp_of c80_31.eq_1
@[go_sem] def c80_36_wp:=wp_of c80_36.eq_1
def c80:AFn:=⟨52,[.t 2],c80_36⟩
theorem c80_ok:compF Tryz.prog Tryz.f80=some c80:=by kernel_rfl
theorem a80 {args:List AV} {σ:ASt} {R:AV->ASt->Prop} (hl:args.length<=52) (h:c80_36.wp Tryz.prog (RetQ [.t 2] R) (init args) σ):ACalls Tryz.prog 80 args σ R:=acalls_of Tryz.func80 c80_ok hl h
/-! 132: tabular/tabularref01.Size -/
def c132_9:ACode := .seq (.ops [ oq 2 (.mv (.v (.int .u64 0)))]) (.seq (.seq (.ops [ oq 3 (.mv (.t 0)),oq 4 (.bin .lss (.t 3) (.v (.int .i64 0)))]) (.cond (.t 4) (.seq (.ops [ oq 5 (.mv (.t 0)),oq 6 (.bin .add (.t 5) (.v (.int .i64 1))),oq 7 (.un .neg (.t 6)),oq 8 (.conv .u64 (.t 7)),oq 9 (.bin .add (.t 8) (.v (.int .u64 1))),oq 2 (.mv (.t 9))]) .ret) .skip)) (.seq (.ops [ oq 10 (.mv (.t 0)),oq 11 (.conv .u64 (.t 10)),oq 2 (.mv (.t 11))]) .ret))
@[go_sem] def c132_9_wp:=wp_of c132_9.eq_1
def c132:AFn:=⟨12,[.t 2],c132_9⟩
theorem c132_ok:compF Tryz.prog Tryz.f132=some c132:=by kernel_rfl
theorem a132 {args:List AV} {σ:ASt} {R:AV->ASt->Prop} (hl:args.length<=12) (h:c132_9.wp Tryz.prog (RetQ [.t 2] R) (init args) σ):ACalls Tryz.prog 132 args σ R:=acalls_of Tryz.func132 c132_ok hl h
/-! 136: tabular/tabularref01.Parse -/
def c136_28:ACode := .seq (.seq (.ops [ oq 20 (.mv (.t 8)),oq 21 (.mv (.t 0)),oq 22 (.lenS (.t 21)),oq 23 (.bin .lss (.t 20) (.t 22))]) (.cond (.t 23) .skip (.exit 0))) (.seq (.block 1 (.seq (.ops [ oq 26 (.mv (.t 0)),oq 27 (.mv (.t 8)),oq 28 (.idx (.t 26) (.t 27)),oq 29 (.bin .eql (.t 28) (.v (.int .u8 46)))]) (.cond (.t 29) (.ops [ oq 30 (.mv (.t 7)),oq 31 (.bin .add (.t 30) (.v (.int .i64 1))),oq 7 (.mv (.t 31))]) (.seq (.ops [ oq 32 (.mv (.t 0)),oq 33 (.mv (.t 8)),oq 34 (.idx (.t 32) (.t 33)),oq 35 (.bin .lss (.t 34) (.v (.int .u8 48))),oq 36 (.mv (.t 35)),⟨some 37,some (36,false),.q (.mv (.t 0)),[]⟩,⟨some 38,some (36,false),.q (.mv (.t 8)),[]⟩,⟨some 39,some (36,false),.q (.idx (.t 37) (.t 38)),[]⟩,⟨some 40,some (36,false),.q (.bin .gtr (.t 39) (.v (.int .u8 57))),[]⟩,oq 41 (.pick (.t 36) (.v (.bool true)) (.t 40))]) (.cond (.t 41) (.seq (.ops [ oq 2 (.mv (.v (.int .i64 0))),oq 3 (.mv (.v (.bool false)))]) .ret) (.seq (.ops [ oq 42 (.mv (.t 7)),oq 43 (.bin .eql (.t 42) (.v (.int .i64 0)))]) (.cond (.t 43) (.ops [ oq 44 (.mv (.t 5)),oq 45 (.mv (.t 0)),oq 46 (.mv (.t 8)),oq 47 (.mv (.t 8)),oq 48 (.bin .add (.t 47) (.v (.int .i64 1))),oq 49 (.sls (true,0) (.t 45) (.t 46) (.t 48)),oq 50 (.bin .add (.t 44) (.t 49)),oq 5 (.mv (.t 50))]) (.ops [ oq 51 (.mv (.t 6)),oq 52 (.mv (.t 0)),oq 53 (.mv (.t 8)),oq 54 (.mv (.t 8)),oq 55 (.bin .add (.t 54) (.v (.int .i64 1))),oq 56 (.sls (true,0) (.t 52) (.t 53) (.t 55)),oq 57 (.bin .add (.t 51) (.t 56)),oq 6 (.mv (.t 57))])))))))) (.ops [ oq 24 (.mv (.t 8)),oq 25 (.bin .add (.t 24) (.v (.int .i64 1))),oq 8 (.mv (.t 25))]))
def c136_42:ACode := .seq (.seq (.ops [ oq 79 (.mv (.t 6)),oq 80 (.lenS (.t 79)),oq 81 (.bin .lss (.t 80) (.v (.int .i64 4)))]) (.cond (.t 81) .skip (.exit 2))) (.block 3 (.ops [ oq 82 (.mv (.t 6)),oq 83 (.bin .add (.t 82) (.v (.str [48]))),oq 6 (.mv (.t 83))]))
def c136_47:ACode := .seq (.block 2 (.loop c136_42)) (.seq (.ops [ oq 84 (.mv (.t 4)),oq 85 (.mv (.t 5)),oq 86 (.mv (.t 6)),oq 87 (.bin .add (.t 85) (.t 86)),oe 88 (.call 184 [(.t 87)]),oe 89 (.call 183 [(.t 84),(.t 88)]),oq 90 (.ext 0 (.t 89)),oq 91 (.ext 1 (.t 89)),oq 2 (.mv (.t 90)),oq 3 (.mv (.t 91))]) .ret)
def c136_48:ACode := .seq (.seq (.ops [ oq 58 (.mv (.t 7)),oq 59 (.bin .gtr (.t 58) (.v (.int .i64 1))),oq 60 (.mv (.t 59)),⟨some 61,some (60,false),.q (.mv (.t 5)),[]⟩,⟨some 62,some (60,false),.q (.lenS (.t 61)),[]⟩,⟨some 63,some (60,false),.q (.bin .eql (.t 62) (.v (.int .i64 0))),[]⟩,oq 64 (.pick (.t 60) (.v (.bool true)) (.t 63)),oq 65 (.mv (.t 64)),⟨some 66,some (65,false),.q (.mv (.t 7)),[]⟩,⟨some 67,some (65,false),.q (.bin .eql (.t 66) (.v (.int .i64 1))),[]⟩,⟨some 68,some (65,false),.q (.mv (.t 67)),[]⟩,⟨some 69,some (68,true),.q (.mv (.t 6)),[]⟩,⟨some 70,some (68,true),.q (.lenS (.t 69)),[]⟩,⟨some 71,some (68,true),.q (.bin .eql (.t 70) (.v (.int .i64 0))),[]⟩,⟨some 72,some (65,false),.q (.pick (.t 68) (.t 71) (.v (.bool false))),[]⟩,oq 73 (.pick (.t 65) (.v (.bool true)) (.t 72)),oq 74 (.mv (.t 73)),⟨some 75,some (74,false),.q (.mv (.t 6)),[]⟩,⟨some 76,some (74,false),.q (.lenS (.t 75)),[]⟩,⟨some 77,some (74,false),.q (.bin .gtr (.t 76) (.v (.int .i64 4))),[]⟩,oq 78 (.pick (.t 74) (.v (.bool true)) (.t 77))]) (.cond (.t 78) (.seq (.ops [ oq 2 (.mv (.v (.int .i64 0))),oq 3 (.mv (.v (.bool false)))]) .ret) .skip)) c136_47
def c136_50:ACode := .seq (.ops [ oq 5 (.mv (.v (.str []))),oq 6 (.mv (.v (.str []))),oq 7 (.mv (.v (.int .i64 0)))]) (.seq (.seq (.ops [ oq 8 (.mv (.v (.int .i64 0)))]) (.block 0 (.loop c136_28))) c136_48)
def c136_53:ACode := .seq (.ops [ oq 2 (.mv (.v (.int .i64 0))),oq 3 (.mv (.v (.bool false)))]) (.seq (.ops [ oq 9 (.mv (.t 0)),oq 10 (.lenS (.t 9)),oq 11 (.bin .gtr (.t 10) (.v (.int .i64 0))),oq 12 (.mv (.t 11)),⟨some 13,some (12,true),.q (.mv (.t 0)),[]⟩,⟨some 14,some (12,true),.q (.idx (.t 13) (.v (.int .i64 0))),[]⟩,⟨some 15,some (12,true),.q (.bin .eql (.t 14) (.v (.int .u8 45))),[]⟩,oq 16 (.pick (.t 12) (.t 15) (.v (.bool false))),oq 4 (.mv (.t 16))]) (.seq (.seq (.ops [ oq 17 (.mv (.t 4))]) (.cond (.t 17) (.ops [ oq 18 (.mv (.t 0)),oq 19 (.slfrom (true,0) (.t 18) (.v (.int .i64 1))),oq 0 (.mv (.t 19))]) .skip)) c136_50))
@[go_sem] def c136_28_wp:=wp_of c136_28.eq_1
@[go_sem] def c136_42_wp:=wp_of c136_42.eq_1
@[go_sem] def c136_47_wp:=wp_of c136_47.eq_1
@[go_sem] def c136_48_wp:=wp_of c136_48.eq_1
@[go_sem] def c136_50_wp:=wp_of c136_50.eq_1
@[go_sem] def c136_53_wp:=wp_of c136_53.eq_1
def c136:AFn:=⟨92,[.t 2,.t 3],c136_53⟩
theorem c136_ok:compF Tryz.prog Tryz.f136=some c136:=by kernel_rfl
theorem a136 {args:List AV} {σ:ASt} {R:AV->ASt->Prop} (hl:args.length<=92) (h:c136_53.wp Tryz.prog (RetQ [.t 2,.t 3] R) (init args) σ):ACalls Tryz.prog 136 args σ R:=acalls_of Tryz.func136 c136_ok hl h
/-! 183: tabular/tabularref01.Value -/
def c183_16:ACode := .seq (.seq (.ops [ oq 8 (.mv (.t 7)),oq 9 (.mv (.t 1)),oq 10 (.lenS (.t 9)),oq 11 (.bin .lss (.t 8) (.t 10))]) (.cond (.t 11) .skip (.exit 0))) (.seq (.block 1 (.seq (.seq (.ops [ oq 14 (.mv (.t 6)),oq 15 (.bin .gtr (.t 14) (.v (.int .u64 99999999999999999)))]) (.cond (.t 15) (.seq (.ops [ oq 4 (.mv (.v (.int .i64 0))),oq 5 (.mv (.v (.bool false)))]) .ret) .skip)) (.ops [ oq 16 (.mv (.t 6)),oq 17 (.bin .mul (.v (.int .u64 10)) (.t 16)),oq 18 (.mv (.t 1)),oq 19 (.mv (.t 7)),oq 20 (.idx (.t 18) (.t 19)),oq 21 (.conv .u64 (.t 20)),oq 22 (.bin .add (.t 17) (.t 21)),oq 23 (.bin .sub (.t 22) (.v (.int .u64 48))),oq 6 (.mv (.t 23))]))) (.ops [ oq 12 (.mv (.t 7)),oq 13 (.bin .add (.t 12) (.v (.int .i64 1))),oq 7 (.mv (.t 13))]))
def c183_36:ACode := .seq (.ops [ oq 4 (.mv (.v (.int .i64 0))),oq 5 (.mv (.v (.bool false)))]) (.seq (.ops [ oq 6 (.mv (.v (.int .u64 0)))]) (.seq (.seq (.ops [ oq 7 (.mv (.v (.int .i64 0)))]) (.block 0 (.loop c183_16))) (.seq (.seq (.ops [ oq 24 (.mv (.t 6)),oq 25 (.bin .gtr (.t 24) (.v (.int .u64 999999999999999999)))]) (.cond (.t 25) (.seq (.ops [ oq 4 (.mv (.v (.int .i64 0))),oq 5 (.mv (.v (.bool false)))]) .ret) .skip)) (.seq (.seq (.ops [ oq 26 (.mv (.t 0))]) (.cond (.t 26) (.seq (.ops [ oq 27 (.mv (.t 6)),oq 28 (.conv .i64 (.t 27)),oq 29 (.un .neg (.t 28)),oq 4 (.mv (.t 29)),oq 5 (.mv (.v (.bool true)))]) .ret) .skip)) (.seq (.ops [ oq 30 (.mv (.t 6)),oq 31 (.conv .i64 (.t 30)),oq 4 (.mv (.t 31)),oq 5 (.mv (.v (.bool true)))]) .ret)))))
@[go_sem] def c183_16_wp:=wp_of c183_16.eq_1
@[go_sem] def c183_36_wp:=wp_of c183_36.eq_1
def c183:AFn:=⟨32,[.t 4,.t 5],c183_36⟩
theorem c183_ok:compF Tryz.prog Tryz.f183=some c183:=by kernel_rfl
theorem a183 {args:List AV} {σ:ASt} {R:AV->ASt->Prop} (hl:args.length<=32) (h:c183_36.wp Tryz.prog (RetQ [.t 4,.t 5] R) (init args) σ):ACalls Tryz.prog 183 args σ R:=acalls_of Tryz.func183 c183_ok hl h
/-! 184: tabular/tabularref01.Strip -/
def c184_6:ACode := .seq (.seq (.ops [ oq 3 (.mv (.t 0)),oq 4 (.lenS (.t 3)),oq 5 (.bin .gtr (.t 4) (.v (.int .i64 0))),oq 6 (.mv (.t 5)),⟨some 7,some (6,true),.q (.mv (.t 0)),[]⟩,⟨some 8,some (6,true),.q (.idx (.t 7) (.v (.int .i64 0))),[]⟩,⟨some 9,some (6,true),.q (.bin .eql (.t 8) (.v (.int .u8 48))),[]⟩,oq 10 (.pick (.t 6) (.t 9) (.v (.bool false)))]) (.cond (.t 10) .skip (.exit 0))) (.block 1 (.ops [ oq 11 (.mv (.t 0)),oq 12 (.slfrom (true,0) (.t 11) (.v (.int .i64 1))),oq 0 (.mv (.t 12))]))
def c184_12:ACode := .seq (.ops [ oq 2 (.mv (.v (.str [])))]) (.seq (.block 0 (.loop c184_6)) (.seq (.ops [ oq 13 (.mv (.t 0)),oq 2 (.mv (.t 13))]) .ret))
@[go_sem] def c184_6_wp:=wp_of c184_6.eq_1
@[go_sem] def c184_12_wp:=wp_of c184_12.eq_1
def c184:AFn:=⟨14,[.t 2],c184_12⟩
theorem c184_ok:compF Tryz.prog Tryz.f184=some c184:=by kernel_rfl
theorem a184 {args:List AV} {σ:ASt} {R:AV->ASt->Prop} (hl:args.length<=14) (h:c184_12.wp Tryz.prog (RetQ [.t 2] R) (init args) σ):ACalls Tryz.prog 184 args σ R:=acalls_of Tryz.func184 c184_ok hl h
end Go.A
namespace Go.A
open Go.Proofs
theorem dec_step (n:Nat):Lib.decDigits n=if n<10 then [UInt8.ofNat (48+n)] else Lib.decDigits (n / 10) ++ [UInt8.ofNat (48+n % 10)]:=by
 rw [Lib.decDigits]
 by_cases h1:n<10
 ·rw [dif_pos h1,if_pos h1]
 ·rw [dif_neg h1,if_neg h1]
theorem rdigits_ok (n:Nat) (hn:n<18446744073709551616):Pure Tryz.prog 131 [.int .u64 n] (.str (Lib.decDigits n)):=by
 intro σ
 refine a131 (by simp) ?_
 obtain ⟨D,hD⟩:∃ D,Lib.decDigits n=D:=⟨_,rfl⟩
 rw [hD]
 simp (disch:=first|assumption|omega) only [go_sem]
 refine wp_loop_on (fun (i:Nat×Nat×List UInt8) a σ'=>i.1<=20/\i.2.1<=n/\i.2.1<10 ^ (20-i.1)/\i.2.2.length=i.1/\((i.1=0/\Lib.decDigits i.2.1=D)\/(0<i.1/\(if i.2.1=0 then [] else Lib.decDigits i.2.1)++i.2.2=D))/\(a 0 = .int .u64 i.2.1/\a 3 = .str i.2.2/\a 4 = .int .i64 i.1)/\σ'=σ)
  (fun i=>20-i.1) (0,n,[]) ⟨by simp,Nat.le_refl _,by simp;omega,rfl,.inl ⟨rfl,hD⟩,?_,rfl⟩ ?_
 ·simp (disch:=first|assumption|omega) only [go_sem]
 rintro ⟨i,m,s⟩ a σ1 ⟨hi,hmn,hm,hs,hx,⟨f0,f3,f4⟩,rfl⟩
 dsimp only at hi hmn hm hs hx f0 f3 f4
 by_cases hend:i=20\/(0<i/\m=0)
 ·have hsD:s=D:=by
   rcases hx with ⟨h1,h2⟩|⟨h1,h2⟩
   ·omega
   ·have:m=0:=by
     rcases hend with rfl|h
     ·simpa using hm
     ·exact h.2
    rw [if_pos this] at h2
    exact h2
  by_cases h20:i=20
  ·have e1:¬ (i:Int)<20:=by omega
   simp (disch:=first|assumption|omega) only [go_sem,f3,f4,e1]
   exact retC_by (Drop.refl _) (.refl _) ⟨by rw [<-hsD];rfl,rfl⟩
  ·have e1:(i:Int)<20:=by omega
   have e2:¬ (i:Int)=0:=by omega
   have e3:¬ (0:Int)<m:=by omega
   simp (disch:=first|assumption|omega) only [go_sem,f0,f3,f4,e1,e2,e3]
   exact retC_by (Drop.refl _) (.refl _) ⟨by rw [<-hsD];rfl,rfl⟩
 ·have e1:(i:Int)<20:=by omega
  have t1:(m:Int).tmod 10=((m % 10:Nat):Int):=rfl
  have t2:(m:Int).tdiv 10=((m / 10:Nat):Int):=rfl
  have e4:(48+((m % 10:Nat):Int)).toNat=48+m % 10:=by omega
  have hs1:1+s.length<=9223372036854775807:=by omega
  have hstep:(0<i->m≠0)->(if m / 10=0 then [] else Lib.decDigits (m / 10))++(UInt8.ofNat (48+m % 10)::s)=Lib.decDigits m++s:=by
   intro _
   rw [dec_step m]
   by_cases h10:m<10
   ·rw [if_pos h10,if_pos (by omega),show m % 10=m by omega];rfl
   ·rw [if_neg h10,if_neg (by omega)];simp
  have g2:m / 10<10 ^ (20-(i+1)):=by
   rw [show 20-i=(20-(i+1))+1 by omega,Nat.pow_succ] at hm
   omega
  have g4:(if m / 10=0 then [] else Lib.decDigits (m / 10))++(UInt8.ofNat (48+m % 10)::s)=D:=by
   rw [hstep (by omega)]
   rcases hx with ⟨h1,h2⟩|⟨h1,h2⟩
   ·subst h1
    rw [List.eq_nil_of_length_eq_zero hs,List.append_nil]
    exact h2
   ·rw [if_neg (by omega)] at h2
    exact h2
  by_cases h0:i=0
  ·subst h0
   simp (disch:=first|assumption|omega) only [go_sem,f0,f3,f4,t1,t2,e4]
   exact ⟨(0+1,m / 10,UInt8.ofNat (48+m % 10)::s),by dsimp only;omega,by dsimp only;omega,by dsimp only;omega,g2,by simp [hs],.inr ⟨by dsimp only;omega,g4⟩,rfl,rfl,rfl⟩
  ·have e2:¬ (i:Int)=0:=by omega
   have e3:(0:Int)<m:=by omega
   simp (disch:=first|assumption|omega) only [go_sem,f0,f3,f4,e1,e2,e3,t1,t2,e4]
   exact ⟨(i+1,m / 10,UInt8.ofNat (48+m % 10)::s),by dsimp only;omega,by dsimp only;omega,by dsimp only;omega,g2,by simp [hs],.inr ⟨by dsimp only;omega,g4⟩,rfl,rfl,rfl⟩
def AllD (l:List UInt8):Prop:=∀ c∈l,48<=c.toNat/\c.toNat<=57
def nv:List UInt8->Nat
 | []=>0
 | c::l=>(c.toNat-48)*10 ^ l.length+nv l
theorem acc_total:∀ {l:List UInt8} {n:Nat},AllD l->n<=999999999999999999->accP n l=if n*10 ^ l.length+nv l<=999999999999999999 then some (n*10 ^ l.length+nv l) else none
 | [],n,_,hn=>by simp [accP,nv,hn]
 | c::l,n,h,hn=>by
   have h2:=h c (List.mem_cons_self)
   have hl:AllD l:=fun d hd=>h d (List.mem_cons_of_mem _ hd)
   have hp:0<10 ^ l.length:=Nat.pow_pos (by omega)
   have e:n*10 ^ (c::l).length+nv (c::l)=(10*n+(c.toNat-48))*10 ^ l.length+nv l:=by
    rw [nv,List.length_cons,Nat.pow_succ,Nat.add_mul,Nat.mul_comm 10 n,← Nat.mul_assoc,Nat.mul_right_comm n]
    omega
   rw [accP,e]
   by_cases hb:99999999999999999<n
   ·rw [if_pos (by omega),if_neg]
    have:=Nat.mul_le_mul (show 1000000000000000000<=10*n+(c.toNat-48) by omega) hp
    omega
   ·rw [if_neg (by omega),acc_total hl (by omega)]
def stripP (l:List UInt8):List UInt8:=l.dropWhile (· == 48)
theorem nv_strip:∀ (l:List UInt8),nv (stripP l)=nv l
 | []=>rfl
 | c::l=>by
   unfold stripP
   by_cases h:c=48
   ·subst h
    rw [List.dropWhile_cons,if_pos (by rfl)]
    have:=nv_strip l
    unfold stripP at this
    rw [this,nv]
    simp
   ·rw [List.dropWhile_cons,if_neg (by simpa using h)]
def valP (m:Bool) (l:List UInt8):Option Int:=madeP m (nv l)
theorem strip_ok (s:List UInt8) (hs:s.length<=1000000):Pure Tryz.prog 184 [.str s] (.str (stripP s)):=by
 intro σ
 refine a184 (by simp) ?_
 simp (disch:=first|assumption|omega) only [go_sem]
 refine wp_loop_on (fun (l:List UInt8) a s2=>stripP l=stripP s/\l.length<=1000000/\(a 0 = .str l)/\s2=σ) (fun l=>l.length) s ⟨rfl,hs,?_,rfl⟩ ?_
 ·simp (disch:=first|assumption|omega) only [go_sem]
 rintro l a s2 ⟨hl,hlen,hf,rfl⟩
 cases l with
 | nil=>
   simp (disch:=first|assumption|omega) only [go_sem,hf]
   exact retC_by (by repeat' (first|exact Drop.refl _|with_reducible refine Drop.off ?_ (by assumption))) (.refl _) ⟨by rw [<-hl];rfl,rfl⟩
 | cons c l=>
   obtain ⟨m,hm⟩:∃ m,m=c::l:=⟨_,rfl⟩
   have hidx:m[0]? = some c:=by rw [hm];rfl
   have hd1:m.drop 1=l:=by rw [hm];rfl
   have hml:m.length=l.length+1:=by rw [hm];rfl
   rw [<-hm] at hl hlen hf
   rw [<-hm]
   have g0:(0:Int)<m.length:=by omega
   have g1:(1:Int)<=m.length:=by omega
   by_cases h48:c=48
   ·have h48':(c.toNat:Int)=48:=by rw [h48];rfl
    have hs2:stripP l=stripP s:=by rw [<-hl,hm,h48];rfl
    simp (disch:=first|assumption|omega) only [go_sem,hf,hidx,g0,h48',hd1,List.take_length]
    exact ⟨l,by omega,hs2,by omega,rfl⟩
   ·have h48':¬ (c.toNat:Int)=48:=by
     intro h
     exact h48 (UInt8.toNat_inj.1 (by have e:(48:UInt8).toNat=48:=rfl;omega))
    have hs2:m=stripP s:=by
     rw [<-hl,hm]
     unfold stripP
     rw [List.dropWhile_cons,if_neg (by simpa using h48)]
    simp (disch:=first|assumption|omega) only [go_sem,hf,hidx,g0,h48']
    exact retC_by (by repeat' (first|exact Drop.refl _|with_reducible refine Drop.off ?_ (by assumption))) (.refl _) ⟨by rw [<-hs2];rfl,rfl⟩
theorem value_ok (m:Bool) (s:List UInt8) (hs:AllD s) (hl:s.length<=1000000):Pure Tryz.prog 183 [.bool m,.str s] (resAV (valP m s)):=by
 intro σ
 have htot:=acc_total hs (n:=0) (by omega)
 rw [Nat.zero_mul,Nat.zero_add] at htot
 refine a183 (by simp) ?_
 simp (disch:=first|assumption|omega) only [go_sem]
 refine wp_loop_on (fun (i:Nat) a s2=>i<=s.length/\(∃ n:Nat,n<=999999999999999999/\accP 0 s=accP n (s.drop i)/\a 6 = .int .u64 n)/\(a 0 = .bool m/\a 1 = .str s/\a 7 = .int .i64 i)/\s2=σ) (fun i=>s.length-i) 0 ⟨Nat.zero_le _,⟨0,by omega,rfl,?_⟩,?_,rfl⟩ ?_
 ·simp (disch:=first|assumption|omega) only [go_sem]
 ·simp (disch:=first|assumption|omega) only [go_sem]
 rintro i a s2 ⟨hi,⟨n,hn,hac,h6⟩,hf,rfl⟩
 by_cases hlt:i<s.length
 ·have hidx : s[i]? = some (s[i]'hlt) := List.getElem?_eq_getElem hlt
  rw [List.drop_eq_getElem_cons hlt] at hac
  have hc:=hs _ (List.getElem_mem hlt)
  obtain ⟨c, hce⟩ : ∃ c, s[i]'hlt = c := ⟨_, rfl⟩
  rw [hce] at hidx hac hc
  have hlt':(i:Int)<s.length:=by omega
  rw [accP] at hac
  by_cases h3:99999999999999999<n
  ·have h3':(99999999999999999:Int)<n:=by omega
   rw [if_pos (by omega)] at hac
   have hno:valP m s=none:=by
    unfold valP madeP
    rw [if_neg]
    intro hle
    rw [if_pos hle] at htot
    rw [htot] at hac
    cases hac
   rw [hno]
   simp (disch:=first|assumption|omega) only [go_sem,hf,h6,hlt',h3']
   exact retC_by (by repeat' (first|exact Drop.refl _|with_reducible refine Drop.off ?_ (by assumption))) (.refl _) ⟨rfl,rfl⟩
  ·have h3':¬ (99999999999999999:Int)<n:=by omega
   rw [if_neg (by omega)] at hac
   obtain ⟨n2,hn2⟩:∃ n2:Nat,10*n+(c.toNat-48)=n2:=⟨_,rfl⟩
   rw [hn2] at hac
   have e2:10*(n:Int)+(c.toNat:Int)-48=n2:=by omega
   have hcb:c.toNat<256:=c.toNat_lt
   simp (disch:=first|assumption|omega) only [go_sem,hf,h6,hlt',h3',hidx,e2]
   exact ⟨i+1,by omega,by omega,⟨n2,by omega,hac,rfl⟩,rfl⟩
 ·have hlt':¬ (i:Int)<s.length:=by omega
  rw [List.drop_eq_nil_of_le (by omega),accP,htot] at hac
  have hnv:nv s=n:=by
   split at hac
   ·injection hac
   ·cases hac
  have hv:valP m s=some (if m=true then -(n:Int) else n):=by
   unfold valP madeP
   rw [hnv,if_pos hn]
  rw [hv]
  have g1:¬ (999999999999999999:Int)<n:=by omega
  have e1:IntKind.i64.wrap (n:Int)=n:=by rw [IntKind.wrap_i64];omega
  cases m
  ·simp (disch:=first|assumption|omega) only [go_sem,hf,h6,hlt',g1,e1]
   exact retC_by (by repeat' (first|exact Drop.refl _|with_reducible refine Drop.off ?_ (by assumption))) (.refl _) ⟨rfl,rfl⟩
  ·simp (disch:=first|assumption|omega) only [go_sem,hf,h6,hlt',g1,e1]
   refine retC_by (by repeat' (first|exact Drop.refl _|with_reducible refine Drop.off ?_ (by assumption))) (.refl _) ⟨?_,rfl⟩
   rw [show (0:Int)-n = -n by omega]
   rfl
end Go.A
namespace Go.A
open Go.Proofs
def padP (s:List UInt8) (n:Nat):List UInt8:=List.replicate (n+1-s.length) 48++s
theorem padP_more {s:List UInt8} {n:Nat} (h:s.length<=n):padP (48::s) n=padP s n:=by
 unfold padP
 rw [List.length_cons,show n+1-s.length=(n+1-(s.length+1))+1 by omega,List.replicate_succ',List.append_assoc]
 rfl
theorem padP_done {s:List UInt8} {n:Nat} (h:n<s.length):padP s n=s:=by
 unfold padP
 rw [show n+1-s.length=0 by omega]
 rfl
end Go.A
namespace Go.A
open Go.Proofs
theorem rsize_ok (a:Int) (h:a.natAbs<=999999999999999999):Pure Tryz.prog 132 [.int .i64 a] (.int .u64 (a.natAbs:Nat)):=by
 intro σ
 refine a132 (by simp) ?_
 by_cases h0:a<0
 ·have e:IntKind.u64.wrap (0-(a+1))=0-(a+1):=by rw [IntKind.wrap_u64];omega
  have e2:0-(a+1)+1=((a.natAbs:Nat):Int):=by omega
  simp (disch:=first|assumption|omega) only [go_sem,h0,e,e2]
  exact retC_by (by repeat' (first|exact Drop.refl _|with_reducible refine Drop.off ?_ (by assumption))) (.refl _) ⟨rfl,rfl⟩
 ·have e:IntKind.u64.wrap a=((a.natAbs:Nat):Int):=by rw [IntKind.wrap_u64];omega
  simp (disch:=first|assumption|omega) only [go_sem,h0,e]
  exact retC_by (by repeat' (first|exact Drop.refl _|with_reducible refine Drop.off ?_ (by assumption))) (.refl _) ⟨rfl,rfl⟩
theorem allD_zeros (k:Nat):AllD (List.replicate k 48):=by
 intro c hc
 obtain ⟨_,rfl⟩:=List.mem_replicate.1 hc
 decide
theorem allD_app {l m:List UInt8} (h:AllD l) (k:AllD m):AllD (l++m):=fun c hc=>(List.mem_append.1 hc).elim (h c) (k c)
theorem allD_strip {l:List UInt8} (h:AllD l):AllD (stripP l):=fun c hc=>h c ((List.dropWhile_sublist _).subset hc)
end Go.A
namespace Go.A
open Go.Proofs
def rp:List UInt8->Nat->List UInt8->List UInt8->Option (List UInt8×List UInt8×Nat)
 | [],d,w,p=>some (w,p,d)
 | c::l,d,w,p=>if c=46 then rp l (d+1) w p else if c.toNat<48\/57<c.toNat then none else if d=0 then rp l d (w ++ [c]) p else rp l d w (p ++ [c])
theorem rp_bad:∀ (x:List UInt8) (d:Nat) (w p:List UInt8),rp x (d+2) w p=none\/∃ p' k,rp x (d+2) w p=some (w,p',k+2)
 | [],d,w,p => .inr ⟨p,d,rfl⟩
 | c::l,d,w,p=>by
   rw [rp]
   split
   ·exact rp_bad l (d+1) w p
   ·split
    ·exact .inl rfl
    ·rw [if_neg (by omega)]
     exact rp_bad l d w _
theorem not_dot {c:UInt8} (h:48<=c.toNat/\c.toNat<=57):c≠46:=ne_of_digit h.1 (by decide)
theorem rp_all1:∀ (x:List UInt8) (w p:List UInt8),AllD x->rp x 1 w p=some (w,p++x,1)
 | [],w,p,_=>by simp [rp]
 | c::l,w,p,h=>by
   have hc:=h c (List.mem_cons_self)
   rw [rp,if_neg (not_dot hc),if_neg (by omega),if_neg (by omega),rp_all1 l w _ (fun d hd=>h d (List.mem_cons_of_mem _ hd))]
   simp
theorem rp_bad1:∀ (x:List UInt8) (w p:List UInt8),¬ AllD x->rp x 1 w p=none\/∃ p' k,rp x 1 w p=some (w,p',k+2)
 | [],w,p,h=>absurd (fun _ hc=>by cases hc) h
 | c::l,w,p,h=>by
   rw [rp]
   split
   ·exact rp_bad l 0 w p
   ·split
    ·exact .inl rfl
    ·rw [if_neg (by omega)]
     refine rp_bad1 l w _ fun hl=>h fun d hd=>?_
     rcases List.mem_cons.1 hd with rfl|hd
     ·omega
     ·exact hl d hd
theorem rp_all0:∀ (x:List UInt8) (w:List UInt8),AllD x->rp x 0 w []=some (w++x,[],0)
 | [],w,_=>by simp [rp]
 | c::l,w,h=>by
   have hc:=h c (List.mem_cons_self)
   rw [rp,if_neg (not_dot hc),if_neg (by omega),if_pos rfl,rp_all0 l _ (fun d hd=>h d (List.mem_cons_of_mem _ hd))]
   simp
theorem rp_bad0:∀ (x:List UInt8) (w:List UInt8),(∀ b∈x,b≠46)->¬ AllD x->rp x 0 w []=none
 | [],w,_,h=>absurd (fun _ hc=>by cases hc) h
 | c::l,w,h6,h=>by
   rw [rp,if_neg (h6 c (List.mem_cons_self))]
   split
   ·rfl
   ·rw [if_pos rfl]
    refine rp_bad0 l _ (fun b hb=>h6 b (List.mem_cons_of_mem _ hb)) fun hl=>h fun d hd=>?_
    rcases List.mem_cons.1 hd with rfl|hd
    ·omega
    ·exact hl d hd
theorem rp_app0:∀ (a x:List UInt8) (w:List UInt8),AllD a->rp (a++46::x) 0 w []=rp x 1 (w++a) []
 | [],x,w,_=>by simp [rp]
 | c::l,x,w,h=>by
   have hc:=h c (List.mem_cons_self)
   rw [List.cons_append,rp,if_neg (not_dot hc),if_neg (by omega),if_pos rfl,rp_app0 l x _ (fun d hd=>h d (List.mem_cons_of_mem _ hd))]
   simp
theorem rp_appBad:∀ (a x:List UInt8) (w:List UInt8),(∀ b∈a,b≠46)->¬ AllD a->rp (a++x) 0 w []=none
 | [],x,w,_,h=>absurd (fun _ hc=>by cases hc) h
 | c::l,x,w,h6,h=>by
   rw [List.cons_append,rp,if_neg (h6 c (List.mem_cons_self))]
   split
   ·rfl
   ·rw [if_pos rfl]
    refine rp_appBad l x _ (fun b hb=>h6 b (List.mem_cons_of_mem _ hb)) fun hl=>h fun d hd=>?_
    rcases List.mem_cons.1 hd with rfl|hd
    ·omega
    ·exact hl d hd
theorem acc_bad:∀ (l:List UInt8) (n:Nat),¬ AllD l->accP n l=none
 | [],n,h=>absurd (fun _ hc=>by cases hc) h
 | c::l,n,h=>by
   rw [accP]
   split
   ·rfl
   ·refine acc_bad l _ fun hl=>h fun d hd=>?_
    rcases List.mem_cons.1 hd with rfl|hd
    ·omega
    ·exact hl d hd
def rpEnd (m:Bool):Option (List UInt8×List UInt8×Nat)->Option Int
 | none=>none
 | some (w,p,d)=>if 1<d\/w = []\/d=1/\p = []\/4<p.length then none else valP m (stripP (w++(p++List.replicate (4-p.length) 48)))
theorem first_dot (s:List UInt8):(∀ b∈s,b≠46)\/∃ a x,s=a++46::x/\∀ b∈a,b≠46:=by
 induction s with
 | nil=>exact .inl fun _ h=>by cases h
 | cons c l ih=>
   by_cases hc:c=46
   ·subst hc
    exact .inr ⟨[],l,rfl,fun _ h=>by cases h⟩
   ·rcases ih with h|⟨a,x,rfl,h⟩
    ·refine .inl fun b hb=>?_
     rcases List.mem_cons.1 hb with rfl|hb
     ·exact hc
     ·exact h b hb
    ·refine .inr ⟨c::a,x,rfl,fun b hb=>?_⟩
     rcases List.mem_cons.1 hb with rfl|hb
     ·exact hc
     ·exact h b hb
theorem acc_val {m:Bool} {l:List UInt8} (h:AllD l):(accP 0 l).bind (madeP m)=valP m (stripP l):=by
 have htot:=acc_total h (n:=0) (by omega)
 rw [Nat.zero_mul,Nat.zero_add] at htot
 rw [htot]
 unfold valP
 rw [nv_strip]
 by_cases hb:nv l<=999999999999999999
 ·rw [if_pos hb];rfl
 ·rw [if_neg hb]
  unfold madeP
  rw [if_neg hb];rfl
theorem rp_parse (m:Bool) (s:List UInt8):rpEnd m (rp s 0 [] [])=parseQ m (Lib.cut s [46]).1 (Lib.cut s [46]).2.1 (Lib.cut s [46]).2.2:=by
 rcases first_dot s with h|⟨a,x,rfl,h⟩
 ·rw [cut_none 46 s h]
  unfold parseQ
  by_cases hd:AllD s
  ·rw [rp_all0 s [] hd]
   simp only [rpEnd,List.nil_append]
   by_cases hs:s = []
   ·rw [if_pos (by simp [hs]),if_pos (by simp [hs])]
   ·rw [if_neg (by simp [hs]),if_neg (by simp [hs]),List.append_nil,acc_val (allD_app hd (allD_zeros _))]
  ·rw [rp_bad0 s [] h hd]
   have hne:s ≠ []:=fun e=>hd (e▸fun _ hc=>by cases hc)
   rw [if_neg (by simp [hne]),List.append_nil,acc_bad]
   ·rfl
   ·exact fun hl=>hd fun d hd=>hl d (List.mem_append_left _ hd)
 ·rw [cut_one 46 a x h]
  unfold parseQ
  by_cases hd:AllD a
  ·rw [rp_app0 a x [] hd,List.nil_append]
   by_cases hx:AllD x
   ·rw [rp_all1 x a [] hx]
    simp only [rpEnd,List.nil_append]
    by_cases hg:a = []\/x = []\/4<x.length
    ·rw [if_pos (by rcases hg with h|h|h<;>simp [h]),if_pos (by rcases hg with h|h|h<;>simp [h])]
    ·have g1:a ≠ []:=fun e=>hg (.inl e)
     have g2:x ≠ []:=fun e=>hg (.inr (.inl e))
     have g3:¬ 4<x.length:=fun e=>hg (.inr (.inr e))
     rw [if_neg (by rintro (h|h|⟨_,h⟩|h)<;>first|omega|contradiction),if_neg (by rintro (h|⟨_,h|h⟩)<;>contradiction),List.append_assoc,acc_val (allD_app hd (allD_app hx (allD_zeros _)))]
   ·have hnone:(accP 0 (a++x++List.replicate (4-x.length) 48)).bind (madeP m)=none:=by
     rw [acc_bad]
     ·rfl
     ·exact fun hl=>hx fun d hd=>hl d (List.mem_append_left _ (List.mem_append_right _ hd))
    rw [hnone]
    have hr:rpEnd m (rp x 1 a [])=none:=by
     rcases rp_bad1 x a [] hx with e|⟨p',k,e⟩<;>rw [e]
     ·rfl
     ·simp only [rpEnd]
      exact if_pos (Or.inl (by omega))
    rw [hr]
    split<;>rfl
  ·rw [rp_appBad a _ [] h hd]
   have hnone:(accP 0 (a++x++List.replicate (4-x.length) 48)).bind (madeP m)=none:=by
    rw [acc_bad]
    ·rfl
    ·exact fun hl=>hd fun d hd=>hl d (List.mem_append_left _ (List.mem_append_left _ hd))
   rw [hnone]
   split<;>rfl
theorem pad_dd (u:Nat):padP (Lib.decDigits u) 4=Lib.decDigits (u / 10000)++fourP (u % 10000):=by
 by_cases h:10000<=u
 ·have e:Lib.decDigits u=Lib.decDigits (u / 10000)++fourP (u % 10000):=by
   rw [dd_big (by omega),dd_big (by omega),dd_big (by omega),dd_big (by omega)]
   unfold fourP
   simp only [List.append_assoc,List.cons_append,List.nil_append]
   congr 1
   ·congr 1;omega
   ·congr 1
    ·congr 1;omega
    congr 1
    ·congr 1;omega
    congr 1
    ·congr 1;omega
    congr 1
    ·congr 1;omega
  have hl:4<(Lib.decDigits u).length:=by
   have:=List.length_pos_iff.2 (dd_len_pos (u / 10000))
   rw [e,List.length_append,show (fourP (u % 10000)).length=4 from rfl]
   omega
  rw [padP_done hl,e]
 ·have e0:Lib.decDigits (u / 10000) = [48]:=by rw [show u / 10000=0 by omega,dd_small (by omega)];rfl
  have em:u % 10000=u:=by omega
  rw [e0,em]
  have z:(48:UInt8)=UInt8.ofNat (48+0):=rfl
  by_cases h1:u<10
  ·rw [dd_small h1]
   unfold padP fourP
   rw [show u / 1000=0 by omega,show u / 100 % 10=0 by omega,show u / 10 % 10=0 by omega,show u % 10=u by omega]
   rfl
  ·by_cases h2:u<100
   ·rw [dd_big h1,dd_small (by omega)]
    unfold padP fourP
    rw [show u / 1000=0 by omega,show u / 100 % 10=0 by omega,show u / 10 % 10=u / 10 by omega]
    rfl
   ·by_cases h3:u<1000
    ·rw [dd_big h1,dd_big (by omega),dd_small (by omega)]
     unfold padP fourP
     rw [show u / 1000=0 by omega,show u / 100 % 10=u / 10 / 10 by omega]
     rfl
    ·rw [dd_big h1,dd_big (by omega),dd_big (by omega),dd_small (by omega)]
     unfold padP fourP
     rw [show u / 1000=u / 10 / 10 / 10 by omega,show u / 100 % 10=u / 10 / 10 % 10 by omega]
     rfl
theorem trim_snoc (l:List UInt8):Lib.trimRightB (l ++ [48]) 48=Lib.trimRightB l 48:=by
 unfold Lib.trimRightB
 rw [List.reverse_append]
 simp
theorem trim_stop {l:List UInt8} {c:UInt8} (h:c≠48):Lib.trimRightB (l ++ [c]) 48=l ++ [c]:=by
 unfold Lib.trimRightB
 rw [List.reverse_append]
 simp [h]
theorem trim_four {p:Nat} (hp:p<10000):Lib.trimRightB (fourP p) 48 = []↔p=0:=by
 constructor
 ·intro h
  have h1:=trim_nil h
  unfold fourP at h1
  have g1:=congrArg UInt8.toNat (h1 (UInt8.ofNat (48+p / 1000)) (by simp))
  have g2:=congrArg UInt8.toNat (h1 (UInt8.ofNat (48+p / 100 % 10)) (by simp))
  have g3:=congrArg UInt8.toNat (h1 (UInt8.ofNat (48+p / 10 % 10)) (by simp))
  have g4:=congrArg UInt8.toNat (h1 (UInt8.ofNat (48+p % 10)) (by simp))
  rw [dig_nat (by omega)] at g1 g2 g3 g4
  have e48:(48:UInt8).toNat=48:=rfl
  rw [e48] at g1 g2 g3 g4
  omega
 ·rintro rfl
  decide
theorem text_is (a:Int):textD a=(if a<0 then [45] else [])++(Lib.decDigits (a.natAbs / 10000)++if Lib.trimRightB (fourP (a.natAbs % 10000)) 48 = [] then [] else 46::Lib.trimRightB (fourP (a.natAbs % 10000)) 48):=by
 unfold textD placesP
 have hp:a.natAbs % 10000<10000:=by omega
 rw [dd_four hp]
 by_cases h0:a.natAbs % 10000=0
 ·rw [if_pos h0,if_pos ((trim_four hp).2 h0)]
 ·rw [if_neg h0,if_neg fun h=>h0 ((trim_four hp).1 h)]
end Go.A
namespace Go.A
open Go.Proofs
theorem take_one {s:List UInt8} {i:Nat} {c:UInt8} (h:s[i]? = some c):(s.take (i+1)).drop i = [c]:=by
 obtain ⟨hl,hc⟩:=List.getElem?_eq_some_iff.1 h
 rw [List.take_add_one,h,Option.toList_some,List.drop_append,List.drop_of_length_le (by rw [List.length_take];omega),List.length_take,Nat.min_eq_left (by omega),Nat.sub_self]
 rfl
theorem allD_nil:AllD []:=fun _ h=>by cases h
set_option maxHeartbeats 1000000 in
theorem rparse_ok (s:List UInt8) (hs:s.length<=100000):Pure Tryz.prog 136 [.str s] (resAV (parseD s)):=by
 intro σ
 obtain ⟨F,hF⟩:∃ F,F=ACode.wp Tryz.prog c136_50:=⟨_,rfl⟩
 have fin:∀ (a:AFr) (m:Bool) (b:List UInt8),b.length<=100000->(a 0 = .str b/\a 4 = .bool m)->F (RetQ [.t 2,.t 3] fun v σ'=>v=resAV (rpEnd m (rp b 0 [] []))/\σ'=σ) a σ:=by
  intro a m b hb hf
  rw [hF]
  obtain ⟨G,hG⟩:∃ G,G=ACode.wp Tryz.prog c136_48:=⟨_,rfl⟩
  have fin2:∀ (a:AFr) (w p:List UInt8) (d:Nat),w.length+p.length<=100000->d<=100000->(a 4 = .bool m/\a 5 = .str w/\a 6 = .str p/\a 7 = .int .i64 d)->(AllD w/\AllD p)->G (RetQ [.t 2,.t 3] fun v σ'=>v=resAV (rpEnd m (some (w,p,d)))/\σ'=σ) a σ:=by
   intro a w p d hwp hd hf ⟨hw,hp⟩
   rw [hG]
   simp only [rpEnd]
   by_cases h1:1<d
   ·have h1':(1:Int)<d:=by omega
    rw [if_pos (.inl h1)]
    simp (disch:=first|assumption|omega) only [go_sem,hf,h1']
    exact retC_by (by repeat' (first|exact Drop.refl _|with_reducible refine Drop.off ?_ (by assumption))) (.refl _) ⟨rfl,rfl⟩
   have h1':¬ (1:Int)<d:=by omega
   by_cases h2:w = []
   ·subst h2
    rw [if_pos (.inr (.inl rfl))]
    simp (disch:=first|assumption|omega) only [go_sem,hf,h1']
    exact retC_by (by repeat' (first|exact Drop.refl _|with_reducible refine Drop.off ?_ (by assumption))) (.refl _) ⟨rfl,rfl⟩
   have h2':¬ (w.length:Int)=0:=by
    have:=List.length_pos_iff.2 h2
    omega
   by_cases h3:d=1/\p = []
   ·obtain ⟨rfl,rfl⟩:=h3
    rw [if_pos (.inr (.inr (.inl ⟨rfl,rfl⟩)))]
    have e1:((1:Nat):Int)=1:=rfl
    simp (disch:=first|assumption|omega) only [go_sem,hf,h2',e1]
    exact retC_by (by repeat' (first|exact Drop.refl _|with_reducible refine Drop.off ?_ (by assumption))) (.refl _) ⟨rfl,rfl⟩
   have h3':¬ ((d:Int)=1/\(p.length:Int)=0):=by
    rintro ⟨e1,e2⟩
    exact h3 ⟨by omega,List.eq_nil_of_length_eq_zero (by omega)⟩
   by_cases h4:4<p.length
   ·have h4':(4:Int)<p.length:=by omega
    rw [if_pos (.inr (.inr (.inr h4)))]
    by_cases hd1:(d:Int)=1
    ·have hp0:¬ (p.length:Int)=0:=by omega
     simp (disch:=first|assumption|omega) only [go_sem,hf,h2',hd1,hp0,h4']
     exact retC_by (by repeat' (first|exact Drop.refl _|with_reducible refine Drop.off ?_ (by assumption))) (.refl _) ⟨rfl,rfl⟩
    ·simp (disch:=first|assumption|omega) only [go_sem,hf,h1',h2',hd1,h4']
     exact retC_by (by repeat' (first|exact Drop.refl _|with_reducible refine Drop.off ?_ (by assumption))) (.refl _) ⟨rfl,rfl⟩
   have h4':¬ (4:Int)<p.length:=by omega
   rw [if_neg (by rintro (h|h|h|h)<;>contradiction)]
   have hT:=strip_ok (w++(p++List.replicate (4-p.length) 48)) (by simp;omega)
   have hV:=value_ok m (stripP (w++(p++List.replicate (4-p.length) 48))) (allD_strip (allD_app hw (allD_app hp (allD_zeros _)))) (by
    have:=(List.dropWhile_sublist (p:=(· == 48)) (l:=w++(p++List.replicate (4-p.length) 48))).length_le
    unfold stripP
    simp at this ⊢
    omega)
   generalize valP m (stripP (w++(p++List.replicate (4-p.length) 48)))=V at *
   simp only [resAV] at hV ⊢
   obtain ⟨H,hH⟩:∃ H,H=ACode.wp Tryz.prog c136_47:=⟨_,rfl⟩
   have fin3:∀ (a:AFr),(a 4 = .bool m/\a 5 = .str w/\a 6 = .str p)->H (RetQ [.t 2,.t 3] fun v σ'=>v = .tuple [.int .i64 (V.getD 0),.bool V.isSome]/\σ'=σ) a σ:=by
    intro a hf
    rw [hH]
    simp (disch:=first|assumption|omega) only [go_sem]
    refine wp_loop_on (fun (j:Nat) a1 s2=>p.length+j<=4/\(a1 4 = .bool m/\a1 5 = .str w/\a1 6 = .str (p++List.replicate j 48))/\s2=σ) (fun j=>4-j) 0 ⟨by omega,?_,rfl⟩ ?_
    ·simp (disch:=first|assumption|omega) only [go_sem,hf]
     simp
    rintro j a1 s2 ⟨hj,hf,rfl⟩
    obtain ⟨X,hX⟩:∃ X,p++List.replicate j 48=X:=⟨_,rfl⟩
    have hXl:X.length=p.length+j:=by rw [<-hX];simp
    rw [hX] at hf
    by_cases hlt:p.length+j<4
    ·have g3:(X.length:Int)<4:=by omega
     have e1:binS .add X [48]=some (.str (p++List.replicate (j+1) 48)):=by
      rw [binS_add (by simp;omega),List.replicate_succ',← List.append_assoc,hX]
     simp (disch:=first|assumption|omega) only [go_sem,hf,g3,e1]
     exact ⟨j+1,by omega,by omega,rfl⟩
    ·have g3:¬ (X.length:Int)<4:=by omega
     obtain rfl:j=4-p.length:=by omega
     rw [hX] at hT hV
     have e1:binS .add w X=some (.str (w++X)):=binS_add (by omega)
     simp (disch:=first|assumption|omega) only [go_sem,hf,g3,e1]
     refine hT.use ?_
     simp (disch:=first|assumption|omega) only [go_sem]
     refine hV.use ?_
     simp (disch:=first|assumption|omega) only [go_sem]
     exact retC_by (by repeat' (first|exact Drop.refl _|with_reducible refine Drop.off ?_ (by assumption))) (.refl _) ⟨rfl,rfl⟩
   by_cases hd1:(d:Int)=1
   ·have hp0:¬ (p.length:Int)=0:=fun h=>h3' ⟨hd1,h⟩
    simp (disch:=first|assumption|omega) only [go_sem,hf,h2',hd1,hp0,h4',←hH]
    refine fin3 _ ?_
    simp (disch:=first|assumption|omega) only [go_sem,hf]
   ·simp (disch:=first|assumption|omega) only [go_sem,hf,h1',h2',hd1,h4',←hH]
    refine fin3 _ ?_
    simp (disch:=first|assumption|omega) only [go_sem,hf]
  simp (disch:=first|assumption|omega) only [go_sem,←hG]
  refine wp_loop_on (fun (i:Nat) a1 s2=>i<=b.length/\(∃ (w p:List UInt8) (d:Nat),rp b 0 [] []=rp (b.drop i) d w p/\w.length+p.length<=i/\d<=i/\(AllD w/\AllD p)/\(a1 5 = .str w/\a1 6 = .str p/\a1 7 = .int .i64 d))/\(a1 0 = .str b/\a1 4 = .bool m/\a1 8 = .int .i64 i)/\s2=σ) (fun i=>b.length-i) 0 ⟨Nat.zero_le _,⟨[],[],0,rfl,by simp,by omega,⟨allD_nil,allD_nil⟩,?_⟩,?_,rfl⟩ ?_
  ·simp (disch:=first|assumption|omega) only [go_sem]
  ·simp (disch:=first|assumption|omega) only [go_sem,hf]
  rintro i a1 s2 ⟨hi,⟨w,p,d,hr,hl,hdi,⟨hw,hp⟩,hg⟩,hf,rfl⟩
  by_cases hlt:i<b.length
  ·have hidx : b[i]? = some (b[i]'hlt) := List.getElem?_eq_getElem hlt
   rw [List.drop_eq_getElem_cons hlt] at hr
   obtain ⟨c, hc⟩ : ∃ c, b[i]'hlt = c := ⟨_, rfl⟩
   rw [hc] at hidx hr
   have ht1:=take_one hidx
   have hn1:((i:Int)+1).toNat=i+1:=by omega
   have hlt':(i:Int)<b.length:=by omega
   have hlt2:(i:Int)+1<=b.length:=by omega
   rw [rp] at hr
   by_cases h46:c=46
   ·have h46':(c.toNat:Int)=46:=by rw [h46];rfl
    rw [if_pos h46] at hr
    simp (disch:=first|assumption|omega) only [go_sem,hf,hg,hlt',hidx,h46']
    exact ⟨i+1,by omega,by omega,⟨w,p,d+1,hr,by omega,by omega,⟨hw,hp⟩,rfl,rfl,rfl⟩,rfl⟩
   have h46':¬ (c.toNat:Int)=46:=fun h=>h46 (UInt8.toNat_inj.1 (by have e:(46:UInt8).toNat=46:=rfl;omega))
   rw [if_neg h46] at hr
   by_cases h1:c.toNat<48
   ·have h1':(c.toNat:Int)<48:=by omega
    rw [if_pos (.inl h1)] at hr
    rw [hr]
    simp (disch:=first|assumption|omega) only [go_sem,hf,hlt',hidx,h46',h1']
    exact retC_by (by repeat' (first|exact Drop.refl _|with_reducible refine Drop.off ?_ (by assumption))) (.refl _) ⟨rfl,rfl⟩
   have h1':¬ (c.toNat:Int)<48:=by omega
   by_cases h2:57<c.toNat
   ·have h2':(57:Int)<c.toNat:=by omega
    rw [if_pos (.inr h2)] at hr
    rw [hr]
    simp (disch:=first|assumption|omega) only [go_sem,hf,hlt',hidx,h46',h1',h2']
    exact retC_by (by repeat' (first|exact Drop.refl _|with_reducible refine Drop.off ?_ (by assumption))) (.refl _) ⟨rfl,rfl⟩
   have h2':¬ (57:Int)<c.toNat:=by omega
   rw [if_neg (by omega)] at hr
   have hcD:AllD [c]:=fun x hx=>by rw [List.mem_singleton.1 hx];omega
   by_cases hd0:d=0
   ·have hd0':(d:Int)=0:=by omega
    rw [if_pos hd0] at hr
    have e1:binS .add w [c]=some (.str (w ++ [c])):=binS_add (by simp;omega)
    simp (disch:=first|assumption|omega) only [go_sem,hf,hg,hlt',hidx,h46',h1',h2',hd0',hn1,ht1,e1]
    exact ⟨i+1,by omega,by omega,⟨w ++ [c],p,d,hr,by simp;omega,by omega,⟨allD_app hw hcD,hp⟩,by rw [hd0'];exact ⟨rfl,rfl,rfl⟩⟩,rfl⟩
   ·have hd0':¬ (d:Int)=0:=by omega
    rw [if_neg hd0] at hr
    have e1:binS .add p [c]=some (.str (p ++ [c])):=binS_add (by simp;omega)
    simp (disch:=first|assumption|omega) only [go_sem,hf,hg,hlt',hidx,h46',h1',h2',hd0',hn1,ht1,e1]
    exact ⟨i+1,by omega,by omega,⟨w,p ++ [c],d,hr,by simp;omega,by omega,⟨hw,allD_app hp hcD⟩,rfl,rfl,rfl⟩,rfl⟩
  ·have hlt':¬ (i:Int)<b.length:=by omega
   rw [List.drop_eq_nil_of_le (by omega),rp] at hr
   rw [hr]
   simp (disch:=first|assumption|omega) only [go_sem,hf,hlt']
   refine fin2 _ w p d (by omega) (by omega) ?_ ⟨hw,hp⟩
   simp (disch:=first|assumption|omega) only [go_sem,hf,hg]
 unfold parseD
 dsimp only
 rw [<-rp_parse]
 refine a136 (by simp) ?_
 cases s with
 | nil=>
   simp only [List.head?_nil,reduceCtorEq,if_false,decide_false]
   simp (disch:=first|assumption|omega) only [go_sem,←hF]
   refine fin _ false [] (by simp) ?_
   simp (disch:=first|assumption|omega) only [go_sem]
 | cons c l=>
   obtain ⟨t,ht⟩:∃ t,t=c::l:=⟨_,rfl⟩
   have hidx:t[0]? = some c:=by rw [ht];rfl
   have hd1:t.drop 1=l:=by rw [ht];rfl
   have hml:t.length=l.length+1:=by rw [ht];rfl
   have hh:t.head? = some c:=by rw [ht];rfl
   rw [<-ht] at hs ⊢
   rw [hh]
   have g0:(0:Int)<t.length:=by omega
   have g1:(1:Int)<=t.length:=by omega
   by_cases h45:c=45
   ·have h45':(c.toNat:Int)=45:=by rw [h45];rfl
    rw [if_pos (by rw [h45]),decide_eq_true (by rw [h45]),hd1]
    simp (disch:=first|assumption|omega) only [go_sem,hidx,g0,h45',hd1,List.take_length,←hF]
    refine fin _ true l (by omega) ?_
    simp (disch:=first|assumption|omega) only [go_sem]
   ·have h45':¬ (c.toNat:Int)=45:=fun h=>h45 (UInt8.toNat_inj.1 (by have e:(45:UInt8).toNat=45:=rfl;omega))
    have hne:¬ (some c=some (45:UInt8)):=by simpa using h45
    rw [if_neg hne,decide_eq_false hne]
    simp (disch:=first|assumption|omega) only [go_sem,hidx,g0,h45',←hF]
    refine fin _ false t hs ?_
    simp (disch:=first|assumption|omega) only [go_sem]
end Go.A
namespace Go.A
open Go.Proofs
theorem fourP_len (p:Nat):(fourP p).length=4:=rfl
end Go.A
namespace Go.A
open Go.Proofs
theorem drtext_ok {a:Int} (ha:a.natAbs<=999999999999999999):Pure Tryz.prog 80 [.int .i64 a] (.str (textD a)):=by
 intro σ
 have hS:=rsize_ok a ha
 have hDg:=rdigits_ok a.natAbs (by omega)
 have hpad:=pad_dd a.natAbs
 have hdl:(Lib.decDigits a.natAbs).length<=18:=dd_len 17 _ (by omega)
 rw [text_is]
 have hm:a.natAbs % 10000<10000:=by omega
 generalize a.natAbs / 10000=q at *
 generalize a.natAbs % 10000=m at *
 generalize Lib.decDigits a.natAbs=S at *
 have hql:(Lib.decDigits q).length<=19:=by
  have:=congrArg List.length hpad
  unfold padP at this
  simp [fourP_len] at this
  omega
 generalize Lib.decDigits q=W at *
 refine a80 (by simp) ?_
 simp (disch:=first|assumption|omega) only [go_sem]
 refine hS.use ?_
 simp (disch:=first|assumption|omega) only [go_sem]
 refine hDg.use ?_
 simp (disch:=first|assumption|omega) only [go_sem]
 refine wp_loop_on (fun (l:List UInt8) a1 s2=>padP l 4=W++fourP m/\l.length<=40/\(a1 0 = .int .i64 a/\a1 3 = .str l)/\s2=σ) (fun l=>40-l.length) S ⟨hpad,by omega,?_,rfl⟩ ?_
 ·simp (disch:=first|assumption|omega) only [go_sem]
 rintro l a1 s2 ⟨hpl,hl,hf,rfl⟩
 by_cases hle:l.length<=4
 ·have hle':(l.length:Int)<5:=by omega
  have e1:binS .add [48] l=some (.str (48::l)):=binS_add (by simp;omega)
  simp (disch:=first|assumption|omega) only [go_sem,hf,hle',e1]
  exact ⟨48::l,by simp;omega,by rw [padP_more hle,hpl],by simp;omega,rfl⟩
 ·have hle':¬ (l.length:Int)<5:=by omega
  rw [padP_done (by omega)] at hpl
  have hll:l.length=W.length+4:=by rw [hpl];simp [fourP_len]
  have e0:(l.length:Int)-4=W.length:=by omega
  have n0:((W.length:Nat):Int).toNat=W.length:=by omega
  have t0:l.take W.length=W:=by rw [hpl];simp
  have t1:l.drop W.length=fourP m:=by rw [hpl];simp
  have g3:(W.length:Int)<=l.length:=by omega
  have h4:=fourP_len m
  generalize fourP m=P at *
  simp (disch:=first|assumption|omega) only [go_sem,hf,hle',e0,n0,t0,t1,List.take_length]
  refine wp_loop_on (fun (x:List UInt8) a2 s3=>Lib.trimRightB x 48=Lib.trimRightB P 48/\x.length<=4/\(a2 0 = .int .i64 a/\a2 4 = .str W/\a2 5 = .str x)/\s3=s2) (fun x=>x.length) P ⟨rfl,by omega,?_,rfl⟩ ?_
  ·simp (disch:=first|assumption|omega) only [go_sem,hf]
  rintro x a2 s3 ⟨hx,hxl,hf,rfl⟩
  obtain ⟨F,hF⟩:∃ F,F=ACode.wp Tryz.prog c80_31:=⟨_,rfl⟩
  have fin:∀ (a3:AFr),Lib.trimRightB P 48=x->(a3 0 = .int .i64 a/\a3 4 = .str W/\a3 5 = .str x)->F (RetQ [.t 2] fun v σ'=>v = .str ((if a<0 then [45] else [])++(W++if Lib.trimRightB P 48 = [] then [] else 46::Lib.trimRightB P 48))/\σ'=s3) a3 s3:=by
   intro a3 hP hf
   rw [hF,hP]
   by_cases hx0:x = []
   ·subst hx0
    rw [if_pos (show ([]:List UInt8) = [] from rfl),List.append_nil]
    by_cases hn:a<0
    ·rw [if_pos hn]
     have e1:binS .add [45] W=some (.str ([45]++W)):=binS_add (by simp;omega)
     simp (disch:=first|assumption|omega) only [go_sem,hf,hn,e1]
     exact retC_by (by repeat' (first|exact Drop.refl _|with_reducible refine Drop.off ?_ (by assumption))) (.refl _) ⟨rfl,rfl⟩
    ·rw [if_neg hn]
     simp (disch:=first|assumption|omega) only [go_sem,hf,hn]
     exact retC_by (by repeat' (first|exact Drop.refl _|with_reducible refine Drop.off ?_ (by assumption))) (.refl _) ⟨rfl,rfl⟩
   ·rw [if_neg hx0]
    have hpos:(0:Int)<x.length:=by
     have:=List.length_pos_iff.2 hx0
     omega
    have e2:binS .add [46] x=some (.str (46::x)):=binS_add (by simp;omega)
    have e3:binS .add W (46::x)=some (.str (W++46::x)):=binS_add (by simp;omega)
    by_cases hn:a<0
    ·rw [if_pos hn]
     have e1:binS .add [45] (W++46::x)=some (.str ([45]++(W++46::x))):=binS_add (by simp;omega)
     simp (disch:=first|assumption|omega) only [go_sem,hf,hpos,hn,e2,e3,e1]
     exact retC_by (by repeat' (first|exact Drop.refl _|with_reducible refine Drop.off ?_ (by assumption))) (.refl _) ⟨rfl,rfl⟩
    ·rw [if_neg hn]
     simp (disch:=first|assumption|omega) only [go_sem,hf,hpos,hn,e2,e3]
     exact retC_by (by repeat' (first|exact Drop.refl _|with_reducible refine Drop.off ?_ (by assumption))) (.refl _) ⟨rfl,rfl⟩
  rcases List.eq_nil_or_concat x with rfl|⟨y,c,rfl⟩
  ·simp (disch:=first|assumption|omega) only [go_sem,hf,←hF]
   refine fin _ hx.symm ?_
   simp (disch:=first|assumption|omega) only [go_sem,hf]
  ·rw [List.concat_eq_append] at *
   obtain ⟨x,hxe⟩:∃ x,x=y ++ [c]:=⟨_,rfl⟩
   have hlen:x.length=y.length+1:=by rw [hxe];simp
   have hidx:x[y.length]? = some c:=by rw [hxe];simp
   have htk:x.take y.length=y:=by rw [hxe];simp
   rw [<-hxe] at hx hxl hf fin ⊢
   have g5:(0:Int)<x.length:=by omega
   have g6:(x.length:Int)-1=y.length:=by omega
   have g7:(y.length:Int)<x.length:=by omega
   have g8:(y.length:Int)<=x.length:=by omega
   have n5:((y.length:Nat):Int).toNat=y.length:=by omega
   by_cases hc:c=48
   ·have hc':(c.toNat:Int)=48:=by rw [hc];rfl
    have hx2:Lib.trimRightB y 48=Lib.trimRightB P 48:=by rw [<-hx,hxe,hc,trim_snoc]
    simp (disch:=first|assumption|omega) only [go_sem,hf,hidx,g5,g6,n5,htk,hc']
    exact ⟨y,by omega,hx2,by omega,rfl⟩
   ·have hc':¬ (c.toNat:Int)=48:=fun h=>hc (UInt8.toNat_inj.1 (by have e:(48:UInt8).toNat=48:=rfl;omega))
    simp (disch:=first|assumption|omega) only [go_sem,hf,hidx,g5,g6,n5,hc',←hF]
    refine fin _ (by rw [<-hx,hxe,trim_stop hc]) ?_
    simp (disch:=first|assumption|omega) only [go_sem,hf]
end Go.A
namespace Go.A
open Go.Proofs
/-! 38: tabular/tabularref12.Print -/
def c38_52:ACode := .seq (.ops [ oq 80 (.bin .lss (.t 79) (.t 78))]) (.seq (.cond (.t 80) .skip (.exit 1)) (.seq (.block 2 (.seq (.ops [ oq 81 (.mv (.t 79)),oq 82 (.ia 12 (.t 77) (.t 79)),oq 83 (.ld (some 12) (.t 82)),oe 5 (.alloc [(.int .i64 0),(.int .i64 0),(.str []),(.int .i64 0),(.int .i64 0),(.bool false),(.bool false),(.int .i64 0),(.int .i64 0),(.bool false),(.bool false),(.sl .full [])]),oq 4 (.mv (.t 81)),oz (.store 12 (.t 5) (.t 83))]) (.seq (.seq (.ops [ oq 84 (.mv (.t 4)),oq 85 (.bin .gtr (.t 84) (.v (.int .i64 0)))]) (.cond (.t 85) (.ops [ oq 86 (.mv (.t 3)),oq 87 (.bin .add (.t 86) (.v (.str [44]))),oq 3 (.mv (.t 87))]) .skip)) (.ops [ oq 88 (.mv (.t 3)),oq 89 (.ld (some 12) (.t 5)),oe 90 (.call 38 [(.t 89)]),oq 91 (.bin .add (.t 88) (.t 90)),oq 3 (.mv (.t 91))])))) (.ops [ oq 92 (.bin .add (.t 79) (.v (.int .i64 1))),oq 79 (.mv (.t 92))])))
def c38_78:ACode := .seq (.ops [ oq 24 (.bin .eql (.t 7) (.v (.int .i64 4))),oq 23 (.mv (.t 24))]) (.cond (.t 23) (.seq (.ops [ oq 26 (.fa 1 (.t 1)),oq 27 (.ld none (.t 26)),oq 28 (.bin .quo (.t 27) (.v (.int .i64 10000))),oq 29 (.bin .sub (.t 28) (.v (.int .i64 1))),⟨some 25,none,.e (.call 82 []),[⟨none,.ld none (.t 26),27⟩]⟩,oq 30 (.ia 1 (.t 25) (.t 29)),oq 31 (.ld none (.t 30)),oq 2 (.mv (.t 31))]) .ret) (.seq (.ops [ oq 33 (.bin .eql (.t 7) (.v (.int .i64 5))),oq 32 (.mv (.t 33))]) (.cond (.t 32) (.seq (.ops [ oq 34 (.fa 3 (.t 1)),oq 35 (.ld (some 4) (.t 34)),oe 36 (.call 83 [(.t 35)]),oq 2 (.mv (.t 36))]) .ret) (.seq (.ops [ oq 38 (.bin .eql (.t 7) (.v (.int .i64 6))),oq 37 (.mv (.t 38))]) (.cond (.t 37) (.seq (.ops [ oq 39 (.fa 3 (.t 1)),oq 40 (.ld (some 4) (.t 39)),oq 43 (.fa 7 (.t 1)),oq 44 (.ld (some 4) (.t 43)),⟨some 41,none,.e (.call 83 [(.t 40)]),[⟨none,.ld (some 4) (.t 43),44⟩]⟩,oq 42 (.bin .add (.t 41) (.v (.str [58]))),oe 45 (.call 83 [(.t 44)]),oq 46 (.bin .add (.t 42) (.t 45)),oq 2 (.mv (.t 46))]) .ret) (.seq (.ops [ oq 48 (.bin .eql (.t 7) (.v (.int .i64 7))),oq 47 (.mv (.t 48))]) (.cond (.t 47) (.seq (.ops [ oq 49 (.fa 11 (.t 1)),oq 50 (.ld none (.t 49)),oq 51 (.ia 12 (.t 50) (.v (.int .i64 0))),oq 52 (.ld (some 12) (.t 51)),oe 53 (.call 84 [(.t 52),(.v (.int .i64 6))]),oq 54 (.bin .add (.v (.str [45])) (.t 53)),oq 2 (.mv (.t 54))]) .ret) (.seq (.ops [ oq 56 (.bin .eql (.t 7) (.v (.int .i64 8))),oq 55 (.mv (.t 56))]) (.cond (.t 55) (.seq (.ops [ oq 57 (.fa 11 (.t 1)),oq 58 (.ld none (.t 57)),oq 59 (.ia 12 (.t 58) (.v (.int .i64 0))),oq 60 (.ld (some 12) (.t 59)),oe 61 (.call 84 [(.t 60),(.v (.int .i64 6))]),oq 62 (.bin .add (.v (.str [43])) (.t 61)),oq 2 (.mv (.t 62))]) .ret) (.seq (.ops [ oq 64 (.bin .eql (.t 7) (.v (.int .i64 9))),oq 63 (.mv (.t 64))]) (.cond (.t 63) (.seq (.ops [ oq 65 (.fa 11 (.t 1)),oq 66 (.ld none (.t 65)),oq 67 (.ia 12 (.t 66) (.v (.int .i64 0))),oq 68 (.ld (some 12) (.t 67)),oe 69 (.call 84 [(.t 68),(.v (.int .i64 7))]),oq 70 (.bin .add (.t 69) (.v (.str [37]))),oq 2 (.mv (.t 70))]) .ret) (.seq (.ops [ oq 72 (.bin .eql (.t 7) (.v (.int .i64 22))),oq 71 (.mv (.t 72))]) (.cond (.t 71) (.seq (.ops [ oq 73 (.fa 2 (.t 1)),oq 74 (.ld none (.t 73)),oq 75 (.bin .add (.t 74) (.v (.str [40]))),oq 3 (.mv (.t 75))]) (.seq (.seq (.ops [ oq 76 (.fa 11 (.t 1)),oq 77 (.ld none (.t 76)),oq 78 (.len (.t 77)),oq 79 (.mv (.v (.int .i64 0)))]) (.block 1 (.loop c38_52))) (.seq (.ops [ oq 93 (.mv (.t 3)),oq 94 (.bin .add (.t 93) (.v (.str [41]))),oq 2 (.mv (.t 94))]) .ret))) (.seq (.ops [ oq 96 (.bin .eql (.t 7) (.v (.int .i64 23))),oq 95 (.mv (.t 96))]) (.cond (.t 95) (.seq (.ops [ oq 2 (.mv (.v (.str [])))]) .ret) .skip)))))))))))))))
def c38_90:ACode := .seq (.ops [ oe 1 (.box (.t 0)),oq 2 (.mv (.v (.str [])))]) (.seq (.seq (.ops [ oq 6 (.fa 0 (.t 1)),oq 7 (.ld none (.t 6))]) (.block 0 (.seq (.ops [ oq 9 (.bin .eql (.t 7) (.v (.int .i64 1))),oq 8 (.mv (.t 9))]) (.cond (.t 8) (.seq (.ops [ oq 10 (.fa 1 (.t 1)),oq 11 (.ld none (.t 10)),oe 12 (.call 80 [(.t 11)]),oq 2 (.mv (.t 12))]) .ret) (.seq (.ops [ oq 14 (.bin .eql (.t 7) (.v (.int .i64 2))),oq 13 (.mv (.t 14))]) (.cond (.t 13) (.seq (.ops [ oq 15 (.fa 2 (.t 1)),oq 16 (.ld none (.t 15)),oe 17 (.call 81 [(.t 16)]),oq 2 (.mv (.t 17))]) .ret) (.seq (.ops [ oq 19 (.bin .eql (.t 7) (.v (.int .i64 3))),oq 18 (.mv (.t 19))]) (.cond (.t 18) (.seq (.seq (.ops [ oq 20 (.fa 1 (.t 1)),oq 21 (.ld none (.t 20)),oq 22 (.bin .eql (.t 21) (.v (.int .i64 1)))]) (.cond (.t 22) (.seq (.ops [ oq 2 (.mv (.v (.str [84,82,85,69])))]) .ret) .skip)) (.seq (.ops [ oq 2 (.mv (.v (.str [70,65,76,83,69])))]) .ret)) c38_78)))))))) (.seq (.ops [ oq 97 (.fa 11 (.t 1)),oq 98 (.ld none (.t 97)),oq 99 (.ia 12 (.t 98) (.v (.int .i64 0))),oq 100 (.ld (some 12) (.t 99)),oq 101 (.fa 0 (.t 1)),oq 102 (.ld none (.t 101)),oq 106 (.fa 0 (.t 1)),oq 107 (.ld none (.t 106)),oq 108 (.bin .sub (.t 107) (.v (.int .i64 10))),oq 112 (.fa 11 (.t 1)),oq 113 (.ld none (.t 112)),oq 114 (.ia 12 (.t 113) (.v (.int .i64 1))),oq 115 (.ld (some 12) (.t 114)),oq 116 (.fa 0 (.t 1)),oq 117 (.ld none (.t 116)),⟨some 103,none,.e (.call 85 [(.t 102)]),[⟨none,.ld none (.t 97),98⟩,⟨none,.ld (some 12) (.t 99),100⟩,⟨none,.ld none (.t 106),107⟩,⟨none,.ld none (.t 112),113⟩,⟨none,.ld (some 12) (.t 114),115⟩,⟨none,.ld none (.t 116),117⟩]⟩,⟨some 104,none,.e (.call 84 [(.t 100),(.t 103)]),[⟨none,.ld none (.t 106),107⟩,⟨none,.ld none (.t 112),113⟩,⟨none,.ld (some 12) (.t 114),115⟩,⟨none,.ld none (.t 116),117⟩]⟩,⟨some 105,none,.e (.call 86 []),[⟨none,.ld none (.t 106),107⟩,⟨none,.ld none (.t 112),113⟩,⟨none,.ld (some 12) (.t 114),115⟩,⟨none,.ld none (.t 116),117⟩]⟩,oq 109 (.ia 1 (.t 105) (.t 108)),oq 110 (.ld none (.t 109)),oq 111 (.bin .add (.t 104) (.t 110)),⟨some 118,none,.e (.call 85 [(.t 117)]),[⟨none,.ld none (.t 106),107⟩,⟨none,.ld none (.t 112),113⟩,⟨none,.ld (some 12) (.t 114),115⟩,⟨none,.ld none (.t 109),110⟩]⟩,oq 119 (.bin .add (.t 118) (.v (.int .i64 1))),⟨some 120,none,.e (.call 84 [(.t 115),(.t 119)]),[⟨none,.ld none (.t 106),107⟩,⟨none,.ld none (.t 109),110⟩]⟩,oq 121 (.bin .add (.t 111) (.t 120)),oq 2 (.mv (.t 121))]) .ret))
@[go_sem] def c38_52_wp:=wp_of c38_52.eq_1
@[go_sem] def c38_78_wp:=wp_of c38_78.eq_1
@[go_sem] def c38_90_wp:=wp_of c38_90.eq_1
def c38:AFn:=⟨122,[.t 2],c38_90⟩
theorem c38_ok:compF Tryz.prog Tryz.f38=some c38:=by kernel_rfl
theorem a38 {args:List AV} {σ:ASt} {R:AV->ASt->Prop} (hl:args.length<=122) (h:c38_90.wp Tryz.prog (RetQ [.t 2] R) (init args) σ):ACalls Tryz.prog 38 args σ R:=acalls_of Tryz.func38 c38_ok hl h
/-! 81: tabular/tabularref11.Quote -/
def c81_15:ACode := .seq (.seq (.ops [ oq 5 (.mv (.t 4)),oq 6 (.mv (.t 0)),oq 7 (.lenS (.t 6)),oq 8 (.bin .lss (.t 5) (.t 7))]) (.cond (.t 8) .skip (.exit 0))) (.seq (.block 1 (.seq (.seq (.ops [ oq 11 (.mv (.t 0)),oq 12 (.mv (.t 4)),oq 13 (.idx (.t 11) (.t 12)),oq 14 (.bin .eql (.t 13) (.v (.int .u8 34)))]) (.cond (.t 14) (.ops [ oq 15 (.mv (.t 3)),oq 16 (.bin .add (.t 15) (.v (.str [34]))),oq 3 (.mv (.t 16))]) .skip)) (.ops [ oq 17 (.mv (.t 3)),oq 18 (.mv (.t 0)),oq 19 (.mv (.t 4)),oq 20 (.mv (.t 4)),oq 21 (.bin .add (.t 20) (.v (.int .i64 1))),oq 22 (.sls (true,0) (.t 18) (.t 19) (.t 21)),oq 23 (.bin .add (.t 17) (.t 22)),oq 3 (.mv (.t 23))]))) (.ops [ oq 9 (.mv (.t 4)),oq 10 (.bin .add (.t 9) (.v (.int .i64 1))),oq 4 (.mv (.t 10))]))
def c81_23:ACode := .seq (.ops [ oq 2 (.mv (.v (.str [])))]) (.seq (.ops [ oq 3 (.mv (.v (.str [34])))]) (.seq (.seq (.ops [ oq 4 (.mv (.v (.int .i64 0)))]) (.block 0 (.loop c81_15))) (.seq (.ops [ oq 24 (.mv (.t 3)),oq 25 (.bin .add (.t 24) (.v (.str [34]))),oq 2 (.mv (.t 25))]) .ret)))
@[go_sem] def c81_15_wp:=wp_of c81_15.eq_1
@[go_sem] def c81_23_wp:=wp_of c81_23.eq_1
def c81:AFn:=⟨26,[.t 2],c81_23⟩
theorem c81_ok:compF Tryz.prog Tryz.f81=some c81:=by kernel_rfl
theorem a81 {args:List AV} {σ:ASt} {R:AV->ASt->Prop} (hl:args.length<=26) (h:c81_23.wp Tryz.prog (RetQ [.t 2] R) (init args) σ):ACalls Tryz.prog 81 args σ R:=acalls_of Tryz.func81 c81_ok hl h
/-! 82: tabular/tabularref11.Errors -/
def c82_3:ACode := .seq (.ops [ oq 0 (.mv (.v (.sl .full [])))]) (.seq (.ops [ oq 1 (.bsl 1 [(.v (.str [35,68,73,86,47,48,33])),(.v (.str [35,78,85,77,33])),(.v (.str [35,86,65,76,85,69,33])),(.v (.str [35,82,69,70,33])),(.v (.str [35,78,47,65])),(.v (.str [35,78,65,77,69,63])),(.v (.str [35,67,89,67,76,69,33]))]),oq 0 (.mv (.t 1))]) .ret)
@[go_sem] def c82_3_wp:=wp_of c82_3.eq_1
def c82:AFn:=⟨2,[.t 0],c82_3⟩
theorem c82_ok:compF Tryz.prog Tryz.f82=some c82:=by kernel_rfl
theorem a82 {args:List AV} {σ:ASt} {R:AV->ASt->Prop} (hl:args.length<=2) (h:c82_3.wp Tryz.prog (RetQ [.t 0] R) (init args) σ):ACalls Tryz.prog 82 args σ R:=acalls_of Tryz.func82 c82_ok hl h
/-! 84: tabular/tabularref12.inside -/
def c84_9:ACode := .seq (.ops [ oe 2 (.box (.t 0)),oq 4 (.mv (.v (.str [])))]) (.seq (.seq (.ops [ oq 5 (.fa 0 (.t 2)),oq 6 (.ld none (.t 5)),oe 7 (.call 85 [(.t 6)]),oq 8 (.mv (.t 1)),oq 9 (.bin .lss (.t 7) (.t 8))]) (.cond (.t 9) (.seq (.ops [ oq 10 (.ld (some 12) (.t 2)),oe 11 (.call 38 [(.t 10)]),oq 12 (.bin .add (.v (.str [40])) (.t 11)),oq 13 (.bin .add (.t 12) (.v (.str [41]))),oq 4 (.mv (.t 13))]) .ret) .skip)) (.seq (.ops [ oq 14 (.ld (some 12) (.t 2)),oe 15 (.call 38 [(.t 14)]),oq 4 (.mv (.t 15))]) .ret))
@[go_sem] def c84_9_wp:=wp_of c84_9.eq_1
def c84:AFn:=⟨16,[.t 4],c84_9⟩
theorem c84_ok:compF Tryz.prog Tryz.f84=some c84:=by kernel_rfl
theorem a84 {args:List AV} {σ:ASt} {R:AV->ASt->Prop} (hl:args.length<=16) (h:c84_9.wp Tryz.prog (RetQ [.t 4] R) (init args) σ):ACalls Tryz.prog 84 args σ R:=acalls_of Tryz.func84 c84_ok hl h
/-! 85: tabular/tabularref12.Level -/
def c85_66:ACode := .seq (.ops [ oq 2 (.mv (.v (.int .i64 0)))]) (.seq (.seq (.ops [ oq 3 (.mv (.t 0))]) (.block 0 (.seq (.seq (.ops [ oq 5 (.bin .eql (.t 3) (.v (.int .i64 7))),oq 4 (.mv (.t 5))]) (.cond (.t 4) .skip (.ops [ oq 6 (.bin .eql (.t 3) (.v (.int .i64 8))),oq 4 (.mv (.t 6))]))) (.cond (.t 4) (.seq (.ops [ oq 2 (.mv (.v (.int .i64 6)))]) .ret) (.seq (.ops [ oq 8 (.bin .eql (.t 3) (.v (.int .i64 9))),oq 7 (.mv (.t 8))]) (.cond (.t 7) (.seq (.ops [ oq 2 (.mv (.v (.int .i64 7)))]) .ret) (.seq (.seq (.ops [ oq 10 (.bin .eql (.t 3) (.v (.int .i64 10))),oq 9 (.mv (.t 10))]) (.cond (.t 9) .skip (.ops [ oq 11 (.bin .eql (.t 3) (.v (.int .i64 11))),oq 9 (.mv (.t 11))]))) (.cond (.t 9) (.seq (.ops [ oq 2 (.mv (.v (.int .i64 3)))]) .ret) (.seq (.seq (.ops [ oq 13 (.bin .eql (.t 3) (.v (.int .i64 12))),oq 12 (.mv (.t 13))]) (.cond (.t 12) .skip (.ops [ oq 14 (.bin .eql (.t 3) (.v (.int .i64 13))),oq 12 (.mv (.t 14))]))) (.cond (.t 12) (.seq (.ops [ oq 2 (.mv (.v (.int .i64 4)))]) .ret) (.seq (.ops [ oq 16 (.bin .eql (.t 3) (.v (.int .i64 14))),oq 15 (.mv (.t 16))]) (.cond (.t 15) (.seq (.ops [ oq 2 (.mv (.v (.int .i64 5)))]) .ret) (.seq (.ops [ oq 18 (.bin .eql (.t 3) (.v (.int .i64 15))),oq 17 (.mv (.t 18))]) (.cond (.t 17) (.seq (.ops [ oq 2 (.mv (.v (.int .i64 2)))]) .ret) (.seq (.seq (.ops [ oq 20 (.bin .eql (.t 3) (.v (.int .i64 16))),oq 19 (.mv (.t 20))]) (.cond (.t 19) .skip (.seq (.ops [ oq 21 (.bin .eql (.t 3) (.v (.int .i64 17))),oq 19 (.mv (.t 21))]) (.cond (.t 19) .skip (.seq (.ops [ oq 22 (.bin .eql (.t 3) (.v (.int .i64 18))),oq 19 (.mv (.t 22))]) (.cond (.t 19) .skip (.seq (.ops [ oq 23 (.bin .eql (.t 3) (.v (.int .i64 19))),oq 19 (.mv (.t 23))]) (.cond (.t 19) .skip (.seq (.ops [ oq 24 (.bin .eql (.t 3) (.v (.int .i64 20))),oq 19 (.mv (.t 24))]) (.cond (.t 19) .skip (.ops [ oq 25 (.bin .eql (.t 3) (.v (.int .i64 21))),oq 19 (.mv (.t 25))]))))))))))) (.cond (.t 19) (.seq (.ops [ oq 2 (.mv (.v (.int .i64 1)))]) .ret) .skip)))))))))))))))) (.seq (.ops [ oq 2 (.mv (.v (.int .i64 8)))]) .ret))
@[go_sem] def c85_66_wp:=wp_of c85_66.eq_1
def c85:AFn:=⟨26,[.t 2],c85_66⟩
theorem c85_ok:compF Tryz.prog Tryz.f85=some c85:=by kernel_rfl
theorem a85 {args:List AV} {σ:ASt} {R:AV->ASt->Prop} (hl:args.length<=26) (h:c85_66.wp Tryz.prog (RetQ [.t 2] R) (init args) σ):ACalls Tryz.prog 85 args σ R:=acalls_of Tryz.func85 c85_ok hl h
end Go.A
end
