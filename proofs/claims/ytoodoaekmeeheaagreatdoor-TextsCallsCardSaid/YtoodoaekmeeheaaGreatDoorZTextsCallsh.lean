/- Part 8 of what TextsCalls leans on: Gi CodeTcb Tcb CodeTcc Tcc CodeTcd Tcd CodeJx Jx CodeUj Uj Ul Eq CodeUn Un CodeTce Tce CodeTcf Tcf CodeUq Uq. -/
import Derived.Test.YtoodoaekmeeheaaGreatDoorProg
import Derived.KernelRfl
import Derived.Lib.Replace
import Derived.Lib.IndexMore
import Derived.Test.YtoodoaekmeeheaaGreatDoorZTextsCallsg
set_option linter.defProp false
set_option linter.unusedSimpArgs false
set_option linter.unusedVariables false
set_option maxRecDepth 100000
section
attribute [local go_sem] reduceCtorEq Nat.reduceEqDiff Nat.reduceAdd Nat.reduceSub Nat.reduceMul Nat.reduceLeDiff Int.reduceLT Int.reduceLE Int.reduceEq Int.reduceNeg Int.reduceAdd Int.reduceSub Int.reduceMul true_imp_iff forall_const Nat.mul_one Int.reduceToNat Nat.reducePow Int.reducePow Bool.true_and Bool.false_and Bool.and_false
attribute [local go_sem ↓] reduceIte
namespace Go.A
open Go.Proofs
theorem great_ok (l:List UInt8) (hl:l.length<4611686018427387904):Pure Tryz.prog 32 [.str l] (.str (greatP l)):=by
 intro σ
 refine a32 (by simp) ?_
 simp (disch:=first|assumption|omega|(simp only [List.length_append,List.length_cons,List.length_nil];omega)) only [go_sem]
 refine s2b_own fun b cp hb hcp=>?_
 simp (disch:=first|assumption|omega|(simp only [List.length_append,List.length_cons,List.length_nil];omega)) only [go_sem]
 refine wp_loop_on (fun (i:Nat) a σ'=>i<=l.length/\(a 3 = .msl b 0 l.length cp/\a 8 = .int .i64 l.length/\a 9 = .int .i64 i)/\σ'=σ.set b (some (.obj (bytesAV (greatP (l.take i)++l.drop i)))))
  (fun i=>l.length-i) 0 ⟨Nat.zero_le _,?_,by simp [greatP]⟩ ?_
 ·simp (disch:=first|assumption|omega|(simp only [List.length_append,List.length_cons,List.length_nil];omega)) only [go_sem]
 rintro i a σ1 ⟨hi,hf,rfl⟩
 obtain ⟨m,hm⟩:∃ m,greatP (l.take i)++l.drop i=m:=⟨_,rfl⟩
 have hml:m.length=l.length:=by rw [<-hm];simp [greatP];omega
 have hgl:(greatP (l.take i)).length=i:=by simp [greatP];omega
 rw [hm]
 by_cases hlt:i<l.length
 ·have hidx : m[i]? = some (l[i]'hlt) := by rw [← hm, List.getElem?_append_right (by omega), hgl]; simp
  obtain ⟨c, hc⟩ : ∃ c, l[i]'hlt = c := ⟨_, rfl⟩
  rw [hc] at hidx
  have hcb:=u8_lt c
  have hi2:(i:Int)<l.length:=by omega
  have hle:i+1<=m.length:=by omega
  have hnext:greatP (l.take (i+1))++l.drop (i+1)=m.set i (greatC c):=by
   rw [<-hm,List.take_succ_eq_append_getElem hlt,hc,List.set_append_right _ _ (by omega),hgl,Nat.sub_self]
   simp only [greatP,List.map_append,List.map_cons,List.map_nil,List.append_assoc,List.singleton_append]
   rw [List.drop_eq_getElem_cons hlt]
   rfl
  by_cases hg:97<=c.toNat/\c.toNat<=122
  ·have g1:(97:Int)<=c.toNat:=by omega
   have g2:(c.toNat:Int)<=122:=by omega
   have hgc:greatC c=UInt8.ofNat (c.toNat-32):=by unfold greatC;rw [if_pos hg]
   have hw:=set_bytes (l:=m) (i:=i) (m:=(c.toNat:Int)-32) (by omega)
   have hw0:(c.toNat:Int)-32=((UInt8.ofNat (c.toNat-32)).toNat:Int):=by rw [u8_nat (by omega)];omega
   rw [hw0,bytes_set] at hw
   simp (disch:=first|assumption|omega|(simp only [List.length_append,List.length_cons,List.length_nil];omega)) only [go_sem,hf,hi2,hidx,g1,g2,hle,hw0,hw]
   refine ⟨i+1,by omega,by omega,?_,by rw [hnext,hgc]⟩
   simp (disch:=first|assumption|omega|(simp only [List.length_append,List.length_cons,List.length_nil];omega)) only [go_sem,hf]
  ·have hgc:greatC c=c:=by unfold greatC;rw [if_neg hg]
   have hms:m.set i c=m:=by
    apply List.ext_getElem?
    intro j
    rw [List.getElem?_set]
    split
    ·rename_i h;subst h;rw [hidx];split<;>first|rfl|omega
    ·rfl
   by_cases g1:(97:Int)<=c.toNat
   ·have g2:¬ (c.toNat:Int)<=122:=by omega
    simp (disch:=first|assumption|omega|(simp only [List.length_append,List.length_cons,List.length_nil];omega)) only [go_sem,hf,hi2,hidx,g1,g2]
    refine ⟨i+1,by omega,by omega,?_,by rw [hnext,hgc,hms]⟩
    simp (disch:=first|assumption|omega|(simp only [List.length_append,List.length_cons,List.length_nil];omega)) only [go_sem,hf]
   ·simp (disch:=first|assumption|omega|(simp only [List.length_append,List.length_cons,List.length_nil];omega)) only [go_sem,hf,hi2,hidx,g1]
    refine ⟨i+1,by omega,by omega,?_,by rw [hnext,hgc,hms]⟩
    simp (disch:=first|assumption|omega|(simp only [List.length_append,List.length_cons,List.length_nil];omega)) only [go_sem,hf]
 ·have hi2:¬ (i:Int)<l.length:=by omega
  have hle2:l.length<=m.length:=by omega
  have htk:=bytes_all hml
  simp (disch:=first|assumption|omega|(simp only [List.length_append,List.length_cons,List.length_nil];omega)) only [go_sem,hf,hi2,hle2,htk]
  refine retC_by (by repeat' (first|exact Drop.refl _|with_reducible refine Drop.off ?_ (by assumption))) (.refl _) ⟨?_,rfl⟩
  rw [<-hm,List.take_of_length_le (by omega),List.drop_eq_nil_of_le (by omega),List.append_nil]
  rfl
end Go.A
namespace Go.A
open Go.Proofs
/-! 30: tabular/tabularref17.Signs -/
def c30_12:ACode := .seq (.seq (.ops [ oq 7 (.mv (.t 4)),oq 8 (.mv (.t 0)),oq 9 (.lenS (.t 8)),oq 10 (.bin .lss (.t 7) (.t 9))]) (.cond (.t 10) .skip (.exit 0))) (.block 1 (.seq (.ops [ oq 11 (.mv (.t 0)),oq 12 (.mv (.t 4)),oe 13 (.call 71 [(.t 11),(.t 12)]),oq 14 (.mnx true (.t 13) (.v (.int .i64 1))),oq 5 (.mv (.t 14))]) (.seq (.ops [ oq 15 (.mv (.t 3)),oq 16 (.mv (.t 0)),oq 17 (.mv (.t 4)),oq 18 (.mv (.t 4)),oq 19 (.mv (.t 5)),oq 20 (.bin .add (.t 18) (.t 19)),oq 21 (.sls (true,0) (.t 16) (.t 17) (.t 20)),oq 22 (.bsl 1 [(.t 21)]),oe 23 (.app 9 1 16 [(.str [])] (.t 15) (.t 22)),oq 3 (.mv (.t 23))]) (.ops [ oq 24 (.mv (.t 4)),oq 25 (.mv (.t 5)),oq 26 (.bin .add (.t 24) (.t 25)),oq 4 (.mv (.t 26))]))))
def c30_17:ACode := .seq (.ops [ oq 27 (.mv (.t 3)),oq 2 (.mv (.t 27))]) .ret
def c30_20:ACode := .seq (.ops [ oq 2 (.mv (.v (.sl .full [])))]) (.seq (.ops [ oq 6 (.bsl 1 []),oq 3 (.mv (.t 6))]) (.seq (.seq (.ops [ oq 4 (.mv (.v (.int .i64 0)))]) (.block 0 (.loop c30_12))) c30_17))
@[go_sem] def c30_12_wp:=wp_of c30_12.eq_1
@[go_sem] def c30_17_wp:=wp_of c30_17.eq_1
@[go_sem] def c30_20_wp:=wp_of c30_20.eq_1
def c30:AFn:=⟨28,[.t 2],c30_20⟩
theorem c30_ok:compF Tryz.prog Tryz.f30=some c30:=by kernel_rfl
theorem a30 {args:List AV} {σ:ASt} {R:AV->ASt->Prop} (hl:args.length<=28) (h:c30_20.wp Tryz.prog (RetQ [.t 2] R) (init args) σ):ACalls Tryz.prog 30 args σ R:=acalls_of Tryz.func30 c30_ok hl h
/-! 33: tabular/tabularref17.Small -/
def c33_15:ACode := .seq (.ops [ oq 10 (.bin .lss (.t 9) (.t 8))]) (.seq (.cond (.t 10) .skip (.exit 0)) (.seq (.block 1 (.seq (.ops [ oq 11 (.mv (.t 9)),oq 4 (.mv (.t 11))]) (.seq (.ops [ oq 12 (.mv (.t 3)),oq 13 (.mv (.t 4)),oq 14 (.ia 1 (.t 12) (.t 13)),oq 15 (.ld none (.t 14)),oq 16 (.bin .geq (.t 15) (.v (.int .u8 65))),oq 17 (.mv (.t 16)),⟨some 18,some (17,true),.q (.mv (.t 3)),[]⟩,⟨some 19,some (17,true),.q (.mv (.t 4)),[]⟩,⟨some 20,some (17,true),.q (.ia 1 (.t 18) (.t 19)),[]⟩,⟨some 21,some (17,true),.q (.ld none (.t 20)),[]⟩,⟨some 22,some (17,true),.q (.bin .leq (.t 21) (.v (.int .u8 90))),[]⟩,oq 23 (.pick (.t 17) (.t 22) (.v (.bool false)))]) (.cond (.t 23) (.ops [ oq 24 (.mv (.t 3)),oq 25 (.mv (.t 4)),oq 26 (.ia 1 (.t 24) (.t 25)),oq 27 (.ld none (.t 26)),oq 28 (.bin .add (.t 27) (.v (.int .u8 32))),oq 29 (.ia 1 (.t 24) (.t 25)),oz (.store 1 (.t 29) (.t 28))]) .skip)))) (.ops [ oq 30 (.bin .add (.t 9) (.v (.int .i64 1))),oq 9 (.mv (.t 30))])))
def c33_23:ACode := .seq (.ops [ oq 2 (.mv (.v (.str [])))]) (.seq (.ops [ oq 5 (.mv (.t 0)),oe 6 (.s2b (.t 5)),oq 3 (.mv (.t 6))]) (.seq (.seq (.ops [ oq 7 (.mv (.t 3)),oq 8 (.len (.t 7)),oq 9 (.mv (.v (.int .i64 0)))]) (.block 0 (.loop c33_15))) (.seq (.ops [ oq 31 (.mv (.t 3)),oq 32 (.b2s (.t 31)),oq 2 (.mv (.t 32))]) .ret)))
@[go_sem] def c33_15_wp:=wp_of c33_15.eq_1
@[go_sem] def c33_23_wp:=wp_of c33_23.eq_1
def c33:AFn:=⟨33,[.t 2],c33_23⟩
theorem c33_ok:compF Tryz.prog Tryz.f33=some c33:=by kernel_rfl
theorem a33 {args:List AV} {σ:ASt} {R:AV->ASt->Prop} (hl:args.length<=33) (h:c33_23.wp Tryz.prog (RetQ [.t 2] R) (init args) σ):ACalls Tryz.prog 33 args σ R:=acalls_of Tryz.func33 c33_ok hl h
/-! 37: tabular/tabularref17.all -/
def c37_12:ACode := .seq (.ops [ oq 9 (.bin .lss (.t 8) (.t 7))]) (.seq (.cond (.t 9) .skip (.exit 0)) (.seq (.block 1 (.seq (.ops [ oq 10 (.ia 1 (.t 6) (.t 8)),oq 11 (.ld none (.t 10)),oq 5 (.mv (.t 11))]) (.ops [ oq 12 (.mv (.t 3)),oq 13 (.mv (.t 5)),oq 14 (.bin .add (.t 12) (.t 13)),oq 3 (.mv (.t 14))]))) (.ops [ oq 15 (.bin .add (.t 8) (.v (.int .i64 1))),oq 8 (.mv (.t 15))])))
def c37_20:ACode := .seq (.ops [ oq 2 (.mv (.v (.str [])))]) (.seq (.ops [ oq 3 (.mv (.v (.str [])))]) (.seq (.seq (.ops [ oq 6 (.mv (.t 0)),oq 7 (.len (.t 6)),oq 8 (.mv (.v (.int .i64 0)))]) (.block 0 (.loop c37_12))) (.seq (.ops [ oq 16 (.mv (.t 3)),oq 2 (.mv (.t 16))]) .ret)))
@[go_sem] def c37_12_wp:=wp_of c37_12.eq_1
@[go_sem] def c37_20_wp:=wp_of c37_20.eq_1
def c37:AFn:=⟨17,[.t 2],c37_20⟩
theorem c37_ok:compF Tryz.prog Tryz.f37=some c37:=by kernel_rfl
theorem a37 {args:List AV} {σ:ASt} {R:AV->ASt->Prop} (hl:args.length<=17) (h:c37_20.wp Tryz.prog (RetQ [.t 2] R) (init args) σ):ACalls Tryz.prog 37 args σ R:=acalls_of Tryz.func37 c37_ok hl h
/-! 38: tabular/tabularref17.some -/
def c38_15:ACode := .seq (.ops [ oq 14 (.bin .lss (.t 13) (.t 12))]) (.seq (.cond (.t 14) .skip (.exit 0)) (.seq (.block 1 (.seq (.ops [ oq 15 (.mv (.t 13)),oq 16 (.ia 1 (.t 11) (.t 13)),oq 17 (.ld none (.t 16)),oq 8 (.mv (.t 15)),oq 9 (.mv (.t 17))]) (.seq (.ops [ oq 18 (.mv (.t 8)),oq 19 (.mv (.t 1)),oq 20 (.bin .geq (.t 18) (.t 19)),oq 21 (.mv (.t 20)),⟨some 22,some (21,true),.q (.mv (.t 8)),[]⟩,⟨some 23,some (21,true),.q (.mv (.t 1)),[]⟩,⟨some 24,some (21,true),.q (.bin .sub (.t 22) (.t 23)),[]⟩,⟨some 25,some (21,true),.q (.mv (.t 2)),[]⟩,⟨some 26,some (21,true),.q (.bin .lss (.t 24) (.t 25)),[]⟩,oq 27 (.pick (.t 21) (.t 26) (.v (.bool false)))]) (.cond (.t 27) (.ops [ oq 28 (.mv (.t 7)),oq 29 (.mv (.t 9)),oq 30 (.bsl 1 [(.t 29)]),oe 31 (.app 9 1 16 [(.str [])] (.t 28) (.t 30)),oq 7 (.mv (.t 31))]) .skip)))) (.ops [ oq 32 (.bin .add (.t 13) (.v (.int .i64 1))),oq 13 (.mv (.t 32))])))
def c38_20:ACode := .seq (.ops [ oq 33 (.mv (.t 7)),oq 6 (.mv (.t 33))]) .ret
def c38_23:ACode := .seq (.ops [ oq 6 (.mv (.v (.sl .full [])))]) (.seq (.ops [ oq 10 (.bsl 1 []),oq 7 (.mv (.t 10))]) (.seq (.seq (.ops [ oq 11 (.mv (.t 0)),oq 12 (.len (.t 11)),oq 13 (.mv (.v (.int .i64 0)))]) (.block 0 (.loop c38_15))) c38_20))
@[go_sem] def c38_15_wp:=wp_of c38_15.eq_1
@[go_sem] def c38_20_wp:=wp_of c38_20.eq_1
@[go_sem] def c38_23_wp:=wp_of c38_23.eq_1
def c38:AFn:=⟨34,[.t 6],c38_23⟩
theorem c38_ok:compF Tryz.prog Tryz.f38=some c38:=by kernel_rfl
theorem a38 {args:List AV} {σ:ASt} {R:AV->ASt->Prop} (hl:args.length<=34) (h:c38_23.wp Tryz.prog (RetQ [.t 6] R) (init args) σ):ACalls Tryz.prog 38 args σ R:=acalls_of Tryz.func38 c38_ok hl h
end Go.A
namespace Go.A
open Go.Proofs Go.Lib
def strsA (l:List (List UInt8)):List AV:=l.map AV.str
theorem strsA_get {l:List (List UInt8)} {i:Nat} {x:List UInt8} (h:l[i]? = some x):(strsA l)[i]? = some (.str x):=by unfold strsA;rw [List.getElem?_map,h];rfl
theorem strsA_len (l:List (List UInt8)):(strsA l).length=l.length:=List.length_map _
theorem strsA_app (l:List (List UInt8)) (x:List UInt8):strsA l ++ [.str x]=strsA (l ++ [x]):=by simp [strsA]
set_option maxHeartbeats 1000000 in
theorem rsmall_ok (l:List UInt8) (hl:l.length<4611686018427387904):Pure Tryz.prog 33 [.str l] (.str (smallP l)):=by
 intro σ
 refine a33 (by simp) ?_
 simp (disch:=first|assumption|omega|(simp only [List.length_append,List.length_cons,List.length_nil];omega)) only [go_sem]
 refine s2b_own fun b cp hb hcp=>?_
 simp (disch:=first|assumption|omega|(simp only [List.length_append,List.length_cons,List.length_nil];omega)) only [go_sem]
 refine wp_loop_on (fun (i:Nat) a σ'=>i<=l.length/\(a 3 = .msl b 0 l.length cp/\a 8 = .int .i64 l.length/\a 9 = .int .i64 i)/\σ'=σ.set b (some (.obj (bytesAV (smallP (l.take i)++l.drop i)))))
  (fun i=>l.length-i) 0 ⟨Nat.zero_le _,?_,by simp [smallP]⟩ ?_
 ·simp (disch:=first|assumption|omega|(simp only [List.length_append,List.length_cons,List.length_nil];omega)) only [go_sem]
 rintro i a σ1 ⟨hi,hf,rfl⟩
 obtain ⟨m,hm⟩:∃ m,smallP (l.take i)++l.drop i=m:=⟨_,rfl⟩
 have hml:m.length=l.length:=by rw [<-hm];simp [smallP];omega
 have hgl:(smallP (l.take i)).length=i:=by simp [smallP];omega
 rw [hm]
 by_cases hlt:i<l.length
 ·have hidx : m[i]? = some (l[i]'hlt) := by rw [← hm, List.getElem?_append_right (by omega), hgl]; simp
  obtain ⟨c, hc⟩ : ∃ c, l[i]'hlt = c := ⟨_, rfl⟩
  rw [hc] at hidx
  have hcb:=u8_lt c
  have hi2:(i:Int)<l.length:=by omega
  have hle:i+1<=m.length:=by omega
  have hnext:smallP (l.take (i+1))++l.drop (i+1)=m.set i (smallC c):=by
   rw [<-hm,List.take_succ_eq_append_getElem hlt,hc,List.set_append_right _ _ (by omega),hgl,Nat.sub_self]
   simp only [smallP,List.map_append,List.map_cons,List.map_nil,List.append_assoc,List.singleton_append]
   rw [List.drop_eq_getElem_cons hlt]
   rfl
  by_cases hg:65<=c.toNat/\c.toNat<=90
  ·have g1:(65:Int)<=c.toNat:=by omega
   have g2:(c.toNat:Int)<=90:=by omega
   have hgc:smallC c=UInt8.ofNat (c.toNat+32):=by unfold smallC;rw [if_pos hg]
   have hw:=set_bytes (l:=m) (i:=i) (m:=(c.toNat:Int)+32) (by omega)
   have hw0:(c.toNat:Int)+32=((UInt8.ofNat (c.toNat+32)).toNat:Int):=by rw [u8_nat (by omega)];omega
   rw [hw0,bytes_set] at hw
   simp (disch:=first|assumption|omega|(simp only [List.length_append,List.length_cons,List.length_nil];omega)) only [go_sem,hf,hi2,hidx,g1,g2,hle,hw0,hw,ASt.set_set]
   refine ⟨i+1,by omega,by omega,?_,by rw [hnext,hgc]⟩
   simp (disch:=first|assumption|omega|(simp only [List.length_append,List.length_cons,List.length_nil];omega)) only [go_sem,hf]
  ·have hgc:smallC c=c:=by unfold smallC;rw [if_neg hg]
   have hms:m.set i c=m:=by
    apply List.ext_getElem?
    intro j
    rw [List.getElem?_set]
    split
    ·rename_i h;subst h;rw [hidx];split<;>first|rfl|omega
    ·rfl
   by_cases g1:(65:Int)<=c.toNat
   ·have g2:¬ (c.toNat:Int)<=90:=by omega
    simp (disch:=first|assumption|omega|(simp only [List.length_append,List.length_cons,List.length_nil];omega)) only [go_sem,hf,hi2,hidx,g1,g2]
    refine ⟨i+1,by omega,by omega,?_,by rw [hnext,hgc,hms]⟩
    simp (disch:=first|assumption|omega|(simp only [List.length_append,List.length_cons,List.length_nil];omega)) only [go_sem,hf]
   ·simp (disch:=first|assumption|omega|(simp only [List.length_append,List.length_cons,List.length_nil];omega)) only [go_sem,hf,hi2,hidx,g1]
    refine ⟨i+1,by omega,by omega,?_,by rw [hnext,hgc,hms]⟩
    simp (disch:=first|assumption|omega|(simp only [List.length_append,List.length_cons,List.length_nil];omega)) only [go_sem,hf]
 ·have e:smallP (l.take i)++l.drop i=smallP l:=by rw [List.take_of_length_le (by omega),List.drop_of_length_le (by omega),List.append_nil]
  have hi2:¬ (i:Int)<l.length:=by omega
  rw [e] at hm
  subst hm
  have hb2:bytesOf ((bytesAV (smallP l)).take l.length)=some (smallP l):=by
   rw [List.take_of_length_le (by simp [bytesAV,smallP])]
   exact bytesOf_bytesAV _
  simp (disch:=first|assumption|omega|(simp only [List.length_append,List.length_cons,List.length_nil];omega)) only [go_sem,hf,hi2,hml,hb2,Nat.le_refl]
  exact retC_by (by repeat' (first|exact Drop.refl _|with_reducible refine Drop.off ?_ (by assumption))) (.refl _) ⟨rfl,rfl⟩
theorem rall_ok (k:SK) (l:List (List UInt8)) (hl:l.flatten.length<=1000000) (hn:l.length<=1000000):Pure Tryz.prog 37 [.sl k (strsA l)] (.str l.flatten):=by
 intro σ
 have hlen:=strsA_len l
 refine a37 (by simp) ?_
 simp (disch:=first|assumption|omega|(simp only [List.length_append,List.length_cons,List.length_nil];omega)) only [go_sem]
 refine wp_loop_on (fun (i:Nat) a s=>i<=l.length/\(a 3 = .str (l.take i).flatten/\a 6 = .sl k (strsA l)/\a 7 = .int .i64 l.length/\a 8 = .int .i64 i)/\s=σ) (fun i=>l.length-i) 0 ⟨Nat.zero_le _,?_,rfl⟩ ?_
 ·simp (disch:=first|assumption|omega|(simp only [List.length_append,List.length_cons,List.length_nil];omega)) only [go_sem,hlen]
  rfl
 rintro i a s1 ⟨hi,hf,rfl⟩
 by_cases hlt:i<l.length
 ·have hlt':(i:Int)<l.length:=by omega
  obtain ⟨x,hx⟩:∃ x,l[i]? = some x:=⟨_,List.getElem?_eq_getElem hlt⟩
  have hg:=strsA_get hx
  have e:(l.take (i+1)).flatten=(l.take i).flatten++x:=by rw [List.take_add_one,hx];simp
  have hle:(l.take (i+1)).flatten.length<=l.flatten.length:=by
   conv=>rhs;rw [<-List.take_append_drop (i+1) l,List.flatten_append]
   simp
  have e5:binS .add (l.take i).flatten x=some (.str ((l.take i).flatten++x)):=binS_add (by rw [<-List.length_append,← e];omega)
  rw [<-e] at e5
  obtain ⟨B,hB⟩:∃ B,(l.take (i+1)).flatten=B:=⟨_,rfl⟩
  rw [hB] at e5
  generalize (l.take i).flatten=A at *
  simp (disch:=first|assumption|omega|(simp only [List.length_append,List.length_cons,List.length_nil];omega)) only [go_sem,hf,hlt',hg,e5]
  exact ⟨i+1,by omega,by omega,by rw [hB],rfl⟩
 ·have hlt':¬ (i:Int)<l.length:=by omega
  rw [List.take_of_length_le (by omega)] at hf
  simp (disch:=first|assumption|omega|(simp only [List.length_append,List.length_cons,List.length_nil];omega)) only [go_sem,hf,hlt']
  exact retC_by (by repeat' (first|exact Drop.refl _|with_reducible refine Drop.off ?_ (by assumption))) (.refl _) ⟨rfl,rfl⟩
theorem sel_step {l:List (List UInt8)} {i F N:Nat} {x:List UInt8} (hx:l[i]? = some x):((l.take (i+1)).drop F).take N=if F<=i/\i-F<N then ((l.take i).drop F).take N ++ [x] else ((l.take i).drop F).take N:=by
 have hi:=(List.getElem?_eq_some_iff.1 hx).1
 have e:l.take (i+1)=l.take i ++ [x]:=by rw [List.take_add_one,hx];rfl
 have hl:(l.take i).length=i:=by rw [List.length_take];omega
 rw [e,List.drop_append,hl]
 by_cases h1:F<=i
 ·have hd:((l.take i).drop F).length=i-F:=by rw [List.length_drop,hl]
  rw [show F-i=0 by omega,List.drop_zero,List.take_append,hd]
  by_cases h2:i-F<N
  ·rw [if_pos ⟨h1,h2⟩,List.take_of_length_le (l := [x]) (by simp;omega)]
  ·rw [if_neg (fun h=>h2 h.2),show N-(i-F)=0 by omega]
   simp
 ·rw [if_neg (fun h=>h1 h.1),(List.drop_eq_nil_of_le (by omega):(l.take i).drop F = []),(List.drop_eq_nil_of_le (by simp;omega) : [x].drop (F-i) = [])]
  simp
set_option maxHeartbeats 1000000 in
theorem rsome_ok (k:SK) (l:List (List UInt8)) (F N:Nat) (hn:l.length<=1000000) (hF:F<=9000000000000000) (hN:N<=9000000000000000):Pure Tryz.prog 38 [.sl k (strsA l),.int .i64 F,.int .i64 N] (.sl .shr (strsA ((l.drop F).take N))):=by
 intro σ
 have hlen:=strsA_len l
 refine a38 (by simp) ?_
 obtain ⟨G,hG⟩:∃ G,G=ACode.wp Tryz.prog c38_20:=⟨_,rfl⟩
 simp (disch:=first|assumption|omega|(simp only [List.length_append,List.length_cons,List.length_nil];omega)) only [go_sem,←hG]
 refine wp_loop_by (fun (i:Nat) a s=>i<=l.length/\(a 1 = .int .i64 F/\a 2 = .int .i64 N/\a 11 = .sl k (strsA l)/\a 12 = .int .i64 l.length/\a 13 = .int .i64 i)/\∃ k2,a 7 = .sl k2 (strsA (((l.take i).drop F).take N))/\Grown σ s k2 (strsA (((l.take i).drop F).take N)).length 1)
  (fun i=>l.length-i) 0 (Dr.now ⟨Nat.zero_le _,?_,.full,?_,.inl ⟨rfl,by simp [strsA],rfl⟩⟩) ?_
 ·simp (disch:=first|assumption|omega|(simp only [List.length_append,List.length_cons,List.length_nil];omega)) only [go_sem,hlen]
 ·simp (disch:=first|assumption|omega|(simp only [List.length_append,List.length_cons,List.length_nil];omega)) only [go_sem]
  simp [strsA]
 rintro i a s1 ⟨hi,hf,k2,h7,hg⟩
 by_cases hlt:i<l.length
 ·have hlt':(i:Int)<l.length:=by omega
  obtain ⟨x,hx⟩:∃ x,l[i]? = some x:=⟨_,List.getElem?_eq_getElem hlt⟩
  have hgx:=strsA_get hx
  have hst:=sel_step (F:=F) (N:=N) hx
  have hol:(strsA (((l.take i).drop F).take N)).length<=1000000:=by rw [strsA_len,List.length_take,List.length_drop,List.length_take];omega
  have hap:=strsA_app (((l.take i).drop F).take N) x
  by_cases c:F<=i/\i-F<N
  ·rw [if_pos c] at hst
   rw [<-hst] at hap
   have c1:(F:Int)<=i:=by omega
   have c2:(i:Int)-F<N:=by omega
   generalize strsA (((l.take i).drop F).take N)=A at *
   simp (disch:=first|assumption|omega|(simp only [List.length_append,List.length_cons,List.length_nil];omega)) only [go_sem,hf,h7,hlt',hgx,c1,c2,←hG]
   refine appC_by (bytes:=16) (ys := [.str x]) hg rfl rfl (by simp only [List.length_cons,List.length_nil];omega) (by simp only [List.length_cons,List.length_nil];omega) fun k' s2 hg'=>?_
   rw [hap] at hg' ⊢
   simp (disch:=first|assumption|omega|(simp only [List.length_append,List.length_cons,List.length_nil];omega)) only [go_sem,hf,←hG]
   refine ⟨i+1,by dsimp only;omega,Dr.now ⟨by omega,?_,k',?_,by simpa using hg'⟩⟩
   ·simp (disch:=first|assumption|omega|(simp only [List.length_append,List.length_cons,List.length_nil];omega)) only [go_sem,hf]
   ·rfl
  ·rw [if_neg c] at hst
   rw [<-hst] at h7 hg
   by_cases c1:(F:Int)<=i
   ·have c2:¬ (i:Int)-F<N:=by omega
    simp (disch:=first|assumption|omega|(simp only [List.length_append,List.length_cons,List.length_nil];omega)) only [go_sem,hf,h7,hlt',hgx,c1,c2,←hG]
    refine ⟨i+1,by dsimp only;omega,Dr.now ⟨by omega,?_,k2,?_,by simpa using hg⟩⟩
    ·simp (disch:=first|assumption|omega|(simp only [List.length_append,List.length_cons,List.length_nil];omega)) only [go_sem,hf]
    ·simp (disch:=first|assumption|omega|(simp only [List.length_append,List.length_cons,List.length_nil];omega)) only [go_sem,h7]
   ·simp (disch:=first|assumption|omega|(simp only [List.length_append,List.length_cons,List.length_nil];omega)) only [go_sem,hf,h7,hlt',hgx,c1,←hG]
    refine ⟨i+1,by dsimp only;omega,Dr.now ⟨by omega,?_,k2,?_,by simpa using hg⟩⟩
    ·simp (disch:=first|assumption|omega|(simp only [List.length_append,List.length_cons,List.length_nil];omega)) only [go_sem,hf]
    ·simp (disch:=first|assumption|omega|(simp only [List.length_append,List.length_cons,List.length_nil];omega)) only [go_sem,h7]
 ·have hlt':¬ (i:Int)<l.length:=by omega
  have htl:l.take i=l:=List.take_of_length_le (by omega)
  rw [htl] at h7 hg
  simp (disch:=first|assumption|omega|(simp only [List.length_append,List.length_cons,List.length_nil];omega)) only [go_sem,hf,h7,hlt',←hG]
  rw [hG]
  simp (disch:=first|assumption|omega|(simp only [List.length_append,List.length_cons,List.length_nil];omega)) only [go_sem,h7]
  exact retC_by hg.drop (.sl _ _) ⟨rfl,rfl⟩
set_option maxHeartbeats 1000000 in
theorem rsigns17_ok {s:List UInt8} (hw:Whole s) (hs:s.length<=100000):Pure Tryz.prog 30 [.str s] (.sl .shr (strsA (pcs s))):=by
 intro σ
 have hpl:=pcs_len s
 refine a30 (by simp) ?_
 obtain ⟨G,hG⟩:∃ G,G=ACode.wp Tryz.prog c30_17:=⟨_,rfl⟩
 simp (disch:=first|assumption|omega|(simp only [List.length_append,List.length_cons,List.length_nil];omega)) only [go_sem,←hG]
 refine wp_loop_by (fun (i:Nat) a s1=>i<=(pcs s).length/\(a 0 = .str s/\a 4 = .int .i64 ((pcs s).take i).flatten.length)/\∃ k2,a 3 = .sl k2 (strsA ((pcs s).take i))/\Grown σ s1 k2 (strsA ((pcs s).take i)).length 1)
  (fun i=>(pcs s).length-i) 0 (Dr.now ⟨Nat.zero_le _,?_,.full,?_,.inl ⟨rfl,by simp [strsA],rfl⟩⟩) ?_
 ·simp (disch:=first|assumption|omega|(simp only [List.length_append,List.length_cons,List.length_nil];omega)) only [go_sem]
  simp
 ·simp (disch:=first|assumption|omega|(simp only [List.length_append,List.length_cons,List.length_nil];omega)) only [go_sem]
  simp [strsA]
 rintro i a s1 ⟨hi,hf,k2,h3,hg⟩
 obtain ⟨p,hp⟩:∃ p,((pcs s).take i).flatten.length=p:=⟨_,rfl⟩
 have hd:=skipP_at hp.symm
 have hps:p<=s.length:=by
  rw [<-hp]
  conv=>rhs;rw [<-pcs_flat s,← List.take_append_drop i (pcs s),List.flatten_append]
  simp
 rw [hp] at hf
 by_cases hlt:i<(pcs s).length
 ·obtain ⟨x,hx⟩:∃ x,(pcs s)[i]? = some x:=⟨_,List.getElem?_eq_getElem hlt⟩
  have hvx:=hw x (List.mem_of_getElem? hx)
  have hdr:(pcs s).drop i=x::(pcs s).drop (i+1):=by
   obtain ⟨_,rfl⟩:=List.getElem?_eq_some_iff.1 hx
   exact List.drop_eq_getElem_cons hlt
  rw [hdr,List.flatten_cons] at hd
  have hxl:1<=x.length:=List.length_pos_iff.2 hvx.1
  have hsg:sigL (s.drop p)=x.length:=by
   unfold sigL
   rw [hd,if_neg (by simp [hvx.1]),hvx.app,if_neg hvx.2.1,hvx.2.2]
  have hS:=rsign_ok s p hps (by omega)
  rw [hsg] at hS
  have hdl:(s.drop p).length=x.length+((pcs s).drop (i+1)).flatten.length:=by rw [hd,List.length_append]
  rw [List.length_drop] at hdl
  have hlt':(p:Int)<s.length:=by omega
  have hmx:max (x.length:Int) 1=x.length:=by omega
  have hsl:(s.take (p+x.length)).drop p=x:=by
   rw [List.drop_take,hd,show p+x.length-p=x.length by omega,List.take_left]
  have hpx:((pcs s).take (i+1)).flatten.length=p+x.length:=by rw [List.take_add_one,hx];simp [hp]
  have hap:=strsA_app ((pcs s).take i) x
  have e1:(pcs s).take (i+1)=(pcs s).take i ++ [x]:=by rw [List.take_add_one,hx];rfl
  rw [<-e1] at hap
  have hol:(strsA ((pcs s).take i)).length<=1000000:=by rw [strsA_len,List.length_take];omega
  obtain ⟨q,hq⟩:∃ q,p+x.length=q:=⟨_,rfl⟩
  have eq:(p:Int)+x.length=q:=by omega
  rw [hq] at hsl hpx
  have hqs:(q:Int)<=s.length:=by omega
  have hpq:(p:Int)<=q:=by omega
  generalize strsA ((pcs s).take i)=A at *
  simp (disch:=first|assumption|omega|(simp only [List.length_append,List.length_cons,List.length_nil];omega)) only [go_sem,hf,h3,hlt',←hG]
  refine hS.use ?_
  simp (disch:=first|assumption|omega|(simp only [List.length_append,List.length_cons,List.length_nil];omega)) only [go_sem,hf,h3,hmx,eq,hqs,hpq,hsl,←hG]
  refine appC_by (bytes:=16) (ys := [.str x]) hg rfl rfl (by simp only [List.length_cons,List.length_nil];omega) (by simp only [List.length_cons,List.length_nil];omega) fun k' s2 hg'=>?_
  rw [hap] at hg' ⊢
  simp (disch:=first|assumption|omega|(simp only [List.length_append,List.length_cons,List.length_nil];omega)) only [go_sem,hf,eq,←hG]
  refine ⟨i+1,by dsimp only;omega,Dr.now ⟨by omega,?_,k',?_,by simpa using hg'⟩⟩
  ·rw [hpx]
   simp (disch:=first|assumption|omega|(simp only [List.length_append,List.length_cons,List.length_nil];omega)) only [go_sem,hf,eq]
  ·rfl
 ·have hid:i=(pcs s).length:=by omega
  have hdn:(pcs s).drop i = []:=List.drop_eq_nil_of_le (by omega)
  rw [hdn] at hd
  have hpe:p=s.length:=by
   have:=congrArg List.length hd
   rw [List.length_drop] at this
   simp at this
   omega
  have hlt':¬ (p:Int)<s.length:=by omega
  rw [List.take_of_length_le (by omega)] at h3 hg
  simp (disch:=first|assumption|omega|(simp only [List.length_append,List.length_cons,List.length_nil];omega)) only [go_sem,hf,h3,hlt',←hG]
  rw [hG]
  simp (disch:=first|assumption|omega|(simp only [List.length_append,List.length_cons,List.length_nil];omega)) only [go_sem,h3]
  exact retC_by hg.drop (.sl _ _) ⟨rfl,rfl⟩
end Go.A
namespace Go.A
open Go.Proofs
/-! 34: tabular/tabularref17.proper -/
def c34_19:ACode := .seq (.ops [ oq 11 (.bin .lss (.t 10) (.t 9))]) (.seq (.cond (.t 11) .skip (.exit 0)) (.seq (.block 1 (.seq (.ops [ oq 12 (.ia 1 (.t 8) (.t 10)),oq 13 (.ld none (.t 12)),oq 6 (.mv (.t 13))]) (.seq (.seq (.ops [ oq 14 (.mv (.t 4)),oe 15 (.call 72 [(.t 14)])]) (.cond (.t 15) (.ops [ oq 16 (.mv (.t 3)),oq 17 (.mv (.t 6)),oe 18 (.call 33 [(.t 17)]),oq 19 (.bin .add (.t 16) (.t 18)),oq 3 (.mv (.t 19))]) (.ops [ oq 20 (.mv (.t 3)),oq 21 (.mv (.t 6)),oe 22 (.call 32 [(.t 21)]),oq 23 (.bin .add (.t 20) (.t 22)),oq 3 (.mv (.t 23))]))) (.ops [ oq 24 (.mv (.t 6)),oq 4 (.mv (.t 24))])))) (.ops [ oq 25 (.bin .add (.t 10) (.v (.int .i64 1))),oq 10 (.mv (.t 25))])))
def c34_28:ACode := .seq (.ops [ oq 2 (.mv (.v (.str [])))]) (.seq (.ops [ oq 3 (.mv (.v (.str [])))]) (.seq (.ops [ oq 4 (.mv (.v (.str [])))]) (.seq (.seq (.ops [ oq 7 (.mv (.t 0)),oe 8 (.call 30 [(.t 7)]),oq 9 (.len (.t 8)),oq 10 (.mv (.v (.int .i64 0)))]) (.block 0 (.loop c34_19))) (.seq (.ops [ oq 26 (.mv (.t 3)),oq 2 (.mv (.t 26))]) .ret))))
@[go_sem] def c34_19_wp:=wp_of c34_19.eq_1
@[go_sem] def c34_28_wp:=wp_of c34_28.eq_1
def c34:AFn:=⟨27,[.t 2],c34_28⟩
theorem c34_ok:compF Tryz.prog Tryz.f34=some c34:=by kernel_rfl
theorem a34 {args:List AV} {σ:ASt} {R:AV->ASt->Prop} (hl:args.length<=27) (h:c34_28.wp Tryz.prog (RetQ [.t 2] R) (init args) σ):ACalls Tryz.prog 34 args σ R:=acalls_of Tryz.func34 c34_ok hl h
/-! 72: tabular/tabularref17.letter -/
def c72_5:ACode := .seq (.ops [ oq 2 (.mv (.v (.bool false)))]) (.seq (.ops [ oq 4 (.mv (.t 0)),oe 5 (.call 32 [(.t 4)]),oq 3 (.mv (.t 5))]) (.seq (.ops [ oq 6 (.mv (.t 3)),oq 7 (.lenS (.t 6)),oq 8 (.bin .eql (.t 7) (.v (.int .i64 1))),oq 9 (.mv (.t 8)),⟨some 10,some (9,true),.q (.mv (.t 3)),[]⟩,⟨some 11,some (9,true),.q (.idx (.t 10) (.v (.int .i64 0))),[]⟩,⟨some 12,some (9,true),.q (.bin .geq (.t 11) (.v (.int .u8 65))),[]⟩,oq 13 (.pick (.t 9) (.t 12) (.v (.bool false))),oq 14 (.mv (.t 13)),⟨some 15,some (14,true),.q (.mv (.t 3)),[]⟩,⟨some 16,some (14,true),.q (.idx (.t 15) (.v (.int .i64 0))),[]⟩,⟨some 17,some (14,true),.q (.bin .leq (.t 16) (.v (.int .u8 90))),[]⟩,oq 18 (.pick (.t 14) (.t 17) (.v (.bool false))),oq 2 (.mv (.t 18))]) .ret))
@[go_sem] def c72_5_wp:=wp_of c72_5.eq_1
def c72:AFn:=⟨19,[.t 2],c72_5⟩
theorem c72_ok:compF Tryz.prog Tryz.f72=some c72:=by kernel_rfl
theorem a72 {args:List AV} {σ:ASt} {R:AV->ASt->Prop} (hl:args.length<=19) (h:c72_5.wp Tryz.prog (RetQ [.t 2] R) (init args) σ):ACalls Tryz.prog 72 args σ R:=acalls_of Tryz.func72 c72_ok hl h
/-! 73: tabular/tabularref17.stands -/
def c73_3:ACode := .seq (.ops [ oq 6 (.mv (.v (.bool false)))]) (.seq (.ops [ oq 7 (.mv (.t 2)),oq 8 (.mv (.t 0)),oq 9 (.lenS (.t 8)),oq 10 (.bin .add (.t 7) (.t 9)),oq 11 (.mv (.t 1)),oq 12 (.lenS (.t 11)),oq 13 (.bin .leq (.t 10) (.t 12)),oq 14 (.mv (.t 13)),⟨some 15,some (14,true),.q (.mv (.t 1)),[]⟩,⟨some 16,some (14,true),.q (.mv (.t 2)),[]⟩,⟨some 17,some (14,true),.q (.mv (.t 2)),[]⟩,⟨some 18,some (14,true),.q (.mv (.t 0)),[]⟩,⟨some 19,some (14,true),.q (.lenS (.t 18)),[]⟩,⟨some 20,some (14,true),.q (.bin .add (.t 17) (.t 19)),[]⟩,⟨some 21,some (14,true),.q (.sls (true,0) (.t 15) (.t 16) (.t 20)),[]⟩,⟨some 22,some (14,true),.q (.mv (.t 0)),[]⟩,⟨some 23,some (14,true),.q (.bin .eql (.t 21) (.t 22)),[]⟩,oq 24 (.pick (.t 14) (.t 23) (.v (.bool false))),oq 6 (.mv (.t 24))]) .ret)
@[go_sem] def c73_3_wp:=wp_of c73_3.eq_1
def c73:AFn:=⟨25,[.t 6],c73_3⟩
theorem c73_ok:compF Tryz.prog Tryz.f73=some c73:=by kernel_rfl
theorem a73 {args:List AV} {σ:ASt} {R:AV->ASt->Prop} (hl:args.length<=25) (h:c73_3.wp Tryz.prog (RetQ [.t 6] R) (init args) σ):ACalls Tryz.prog 73 args σ R:=acalls_of Tryz.func73 c73_ok hl h
end Go.A
namespace Go.A
open Go.Proofs Go.Lib
def standsP (what s:List UInt8) (p:Nat):Bool:=decide ((s.drop p).take what.length=what)
theorem rstands_ok (what s:List UInt8) (p:Nat) (hp:p<=s.length) (hs:s.length<=100000) (hw:what.length<=100000):Pure Tryz.prog 73 [.str what,.str s,.int .i64 p] (.bool (standsP what s p)):=by
 intro σ
 unfold standsP
 obtain ⟨q,hq⟩:∃ q,p+what.length=q:=⟨_,rfl⟩
 have eq:(p:Int)+what.length=q:=by omega
 refine a73 (by simp) ?_
 by_cases h:q<=s.length
 ·have h':(q:Int)<=s.length:=by omega
  have hpq:(p:Int)<=q:=by omega
  have e:(s.take q).drop p=(s.drop p).take what.length:=by rw [List.drop_take,show q-p=what.length by omega]
  by_cases hd:(s.drop p).take what.length=what
  ·rw [decide_eq_true hd]
   have e2:((s.take q).drop p=what)=True:=eq_true (e.trans hd)
   simp (disch:=first|assumption|omega|(simp only [List.length_append,List.length_cons,List.length_nil];omega)) only [go_sem,eq,h',hpq,e2]
   exact retC_by (by repeat' (first|exact Drop.refl _|with_reducible refine Drop.off ?_ (by assumption))) (.refl _) ⟨rfl,rfl⟩
  ·rw [decide_eq_false hd]
   have e2:((s.take q).drop p=what)=False:=eq_false (fun h=>hd (e.symm.trans h))
   simp (disch:=first|assumption|omega|(simp only [List.length_append,List.length_cons,List.length_nil];omega)) only [go_sem,eq,h',hpq,e2]
   exact retC_by (by repeat' (first|exact Drop.refl _|with_reducible refine Drop.off ?_ (by assumption))) (.refl _) ⟨rfl,rfl⟩
 ·have h':¬ (q:Int)<=s.length:=by omega
  have hd:¬ (s.drop p).take what.length=what:=by
   intro e
   have:=congrArg List.length e
   rw [List.length_take,List.length_drop] at this
   omega
  rw [decide_eq_false hd]
  simp (disch:=first|assumption|omega|(simp only [List.length_append,List.length_cons,List.length_nil];omega)) only [go_sem,eq,h']
  exact retC_by (by repeat' (first|exact Drop.refl _|with_reducible refine Drop.off ?_ (by assumption))) (.refl _) ⟨rfl,rfl⟩
def letterS (q:List UInt8):Bool:=if q = [] then false else letterB ((decodeL q).1:Int)
theorem let_great (c:UInt8):decide (65<=(greatC c).toNat/\(greatC c).toNat<=90)=letterB (c.toNat:Int):=by
 simpa using all256 (fun c=>decide (decide (65<=(greatC c).toNat/\(greatC c).toNat<=90)=letterB (c.toNat:Int))) (by decide +kernel) c
theorem hi_letter {c:Nat} (h:128<=c):letterB (c:Int)=false:=by unfold letterB;rw [decide_eq_false];omega
theorem vp_hi {p:List UInt8} (h:VP p) (hl:p.length≠1):128<=(decodeL p).1:=by
 have he:=vp_enc h
 have hv:=dec_valid p
 rcases encU_cases hv with ⟨h1,e⟩|⟨h1,h2,e⟩|⟨h1,h2,e⟩|⟨h1,h2,e⟩
 ·exact absurd (by rw [<-he,e];rfl) hl
 all_goals omega
theorem rletter_ok {q:List UInt8} (h:q = []\/VP q) (hl:q.length<=100):Pure Tryz.prog 72 [.str q] (.bool (letterS q)):=by
 intro σ
 have hG:=great_ok q (by omega)
 have hgl:=greatP_len q
 refine a72 (by simp) ?_
 unfold letterS
 simp (disch:=first|assumption|omega|(simp only [List.length_append,List.length_cons,List.length_nil];omega)) only [go_sem]
 refine hG.use ?_
 rcases h with rfl|h
 ·rw [if_pos rfl]
  have e0:greatP [] = []:=rfl
  rw [e0]
  simp (disch:=first|assumption|omega|(simp only [List.length_append,List.length_cons,List.length_nil];omega)) only [go_sem]
  exact retC_by (by repeat' (first|exact Drop.refl _|with_reducible refine Drop.off ?_ (by assumption))) (.refl _) ⟨rfl,rfl⟩
 rw [if_neg h.1]
 by_cases h1:q.length=1
 ·obtain ⟨c,rfl⟩:∃ c,q = [c]:=by
   match q,h1 with
   | [c],_=>exact ⟨c,rfl⟩
  have hc:c.toNat<128:=by
   rcases vp_cases h with ⟨d,e,hd⟩|hb
   ·injection e with e;rw [e];exact hd
   ·exact absurd (hb c List.mem_cons_self) (by
     intro h3
     have hd:=h.2.1
     have hv:=dec_valid [c]
     have he:=vp_enc h
     rcases encU_cases hv with ⟨h1,e⟩|⟨h1,h2,e⟩|⟨h1,h2,e⟩|⟨h1,h2,e⟩
     ·rw [e] at he
      injection he with he
      generalize (decodeL [c]).1=k at *
      have hu:=u8_nat (show k<256 by omega)
      rw [he] at hu
      omega
     all_goals (rw [e] at he;simp at he))
  rw [(vp_ascii hc).2,← let_great]
  have eg:greatP [c] = [greatC c]:=rfl
  rw [eg]
  generalize greatC c=g
  by_cases g1:65<=g.toNat
  ·have g1':(65:Int)<=g.toNat:=by omega
   by_cases g2:g.toNat<=90
   ·have g2':(g.toNat:Int)<=90:=by omega
    rw [decide_eq_true ⟨g1,g2⟩]
    simp (disch:=first|assumption|omega|(simp only [List.length_append,List.length_cons,List.length_nil];omega)) only [go_sem,g1',g2']
    exact retC_by (by repeat' (first|exact Drop.refl _|with_reducible refine Drop.off ?_ (by assumption))) (.refl _) ⟨rfl,rfl⟩
   ·have g2':¬ (g.toNat:Int)<=90:=by omega
    rw [decide_eq_false (fun h=>g2 h.2)]
    simp (disch:=first|assumption|omega|(simp only [List.length_append,List.length_cons,List.length_nil];omega)) only [go_sem,g1',g2']
    exact retC_by (by repeat' (first|exact Drop.refl _|with_reducible refine Drop.off ?_ (by assumption))) (.refl _) ⟨rfl,rfl⟩
  ·have g1':¬ (65:Int)<=g.toNat:=by omega
   rw [decide_eq_false (fun h=>g1 h.1)]
   simp (disch:=first|assumption|omega|(simp only [List.length_append,List.length_cons,List.length_nil];omega)) only [go_sem,g1']
   exact retC_by (by repeat' (first|exact Drop.refl _|with_reducible refine Drop.off ?_ (by assumption))) (.refl _) ⟨rfl,rfl⟩
 ·rw [hi_letter (vp_hi h h1)]
  have h1':¬ ((greatP q).length:Int)=1:=by omega
  generalize greatP q=G at *
  simp (disch:=first|assumption|omega|(simp only [List.length_append,List.length_cons,List.length_nil];omega)) only [go_sem,h1']
  exact retC_by (by repeat' (first|exact Drop.refl _|with_reducible refine Drop.off ?_ (by assumption))) (.refl _) ⟨rfl,rfl⟩
set_option maxHeartbeats 1000000 in
theorem rproper_ok {s:List UInt8} (hw:Whole s) (hs:s.length<=10000):Pure Tryz.prog 34 [.str s] (.str (propP s)):=by
 intro σ
 have hS:=rsigns17_ok hw (by omega)
 have hpl:=pcs_len s
 have hfl:=pcs_flat s
 have hres:propP s=propQ false (pcs s).flatten:=by rw [hfl];rfl
 have hle:∀ p∈pcs s,VP p:=hw
 rw [hres]
 have hfl2:(pcs s).flatten.length<=10000:=by rw [hfl];exact hs
 generalize pcs s=P at *
 have hlen:=strsA_len P
 refine a34 (by simp) ?_
 simp (disch:=first|assumption|omega|(simp only [List.length_append,List.length_cons,List.length_nil];omega)) only [go_sem]
 refine hS.use ?_
 simp (disch:=first|assumption|omega|(simp only [List.length_append,List.length_cons,List.length_nil];omega)) only [go_sem]
 refine wp_loop_on (fun (i:Nat) a s1=>i<=P.length/\(∃ (out last:List UInt8),out++propQ (letterS last) (P.drop i).flatten=propQ false P.flatten/\(last = []\/VP last)/\last.length<=4/\out.length=(P.take i).flatten.length/\(a 3 = .str out/\a 4 = .str last))/\(a 8 = .sl .shr (strsA P)/\a 9 = .int .i64 P.length/\a 10 = .int .i64 i)/\s1=σ) (fun i=>P.length-i) 0 ⟨Nat.zero_le _,⟨[],[],rfl,.inl rfl,by simp,rfl,?_⟩,?_,rfl⟩ ?_
 ·simp (disch:=first|assumption|omega|(simp only [List.length_append,List.length_cons,List.length_nil];omega)) only [go_sem]
 ·simp (disch:=first|assumption|omega|(simp only [List.length_append,List.length_cons,List.length_nil];omega)) only [go_sem,hlen]
 rintro i a s1 ⟨hi,⟨out,last,ho,hv,hl4,hol,hf3,hf4⟩,hf,rfl⟩
 by_cases hlt:i<P.length
 ·have hlt':(i:Int)<P.length:=by omega
  obtain ⟨x,hx⟩:∃ x,P[i]? = some x:=⟨_,List.getElem?_eq_getElem hlt⟩
  have hvx:=hle x (List.mem_of_getElem? hx)
  have hg:=strsA_get hx
  have hdr:P.drop i=x::P.drop (i+1):=by
   obtain ⟨_,rfl⟩:=List.getElem?_eq_some_iff.1 hx
   exact List.drop_eq_getElem_cons hlt
  have hxe:=vp_enc hvx
  have hx4:=(encU_len ((decodeL x).1:Int)).2
  rw [hxe] at hx4
  rw [hdr,List.flatten_cons,prop_vp hvx] at ho
  have hLt:=rletter_ok hv (by omega)
  have hlx:letterS x=letterB ((decodeL x).1:Int):=by unfold letterS;rw [if_neg hvx.1]
  rw [<-hlx] at ho
  have htk:(P.take (i+1)).flatten.length=(P.take i).flatten.length+x.length:=by rw [List.take_add_one,hx];simp
  have hle2:(P.take (i+1)).flatten.length<=P.flatten.length:=by
   conv=>rhs;rw [<-List.take_append_drop (i+1) P,List.flatten_append]
   simp
  have h1:=rsmall_ok x (by omega)
  have h2:=great_ok x (by omega)
  have l1:=smallP_len x
  have l2:=greatP_len x
  by_cases hb:letterS last=true
  ·rw [if_pos hb] at ho
   rw [hb] at hLt
   have e5:binS .add out (smallP x)=some (.str (out++smallP x)):=binS_add (by omega)
   simp (disch:=first|assumption|omega|(simp only [List.length_append,List.length_cons,List.length_nil];omega)) only [go_sem,hf,hf3,hf4,hlt',hg]
   refine hLt.use ?_
   simp (disch:=first|assumption|omega|(simp only [List.length_append,List.length_cons,List.length_nil];omega)) only [go_sem,hf,hf3,hf4,hlt',hg]
   refine h1.use ?_
   simp (disch:=first|assumption|omega|(simp only [List.length_append,List.length_cons,List.length_nil];omega)) only [go_sem,hf,hf3,hf4,e5]
   exact ⟨i+1,by omega,by omega,⟨out++smallP x,x,by rw [List.append_assoc];exact ho,.inr hvx,by omega,by rw [List.length_append];omega,rfl,rfl⟩,rfl⟩
  ·rw [if_neg hb] at ho
   have hb2:letterS last=false:=by simpa using hb
   rw [hb2] at hLt
   have e5:binS .add out (greatP x)=some (.str (out++greatP x)):=binS_add (by omega)
   simp (disch:=first|assumption|omega|(simp only [List.length_append,List.length_cons,List.length_nil];omega)) only [go_sem,hf,hf3,hf4,hlt',hg]
   refine hLt.use ?_
   simp (disch:=first|assumption|omega|(simp only [List.length_append,List.length_cons,List.length_nil];omega)) only [go_sem,hf,hf3,hf4,hlt',hg]
   refine h2.use ?_
   simp (disch:=first|assumption|omega|(simp only [List.length_append,List.length_cons,List.length_nil];omega)) only [go_sem,hf,hf3,hf4,e5]
   exact ⟨i+1,by omega,by omega,⟨out++greatP x,x,by rw [List.append_assoc];exact ho,.inr hvx,by omega,by rw [List.length_append];omega,rfl,rfl⟩,rfl⟩
 ·have hlt':¬ (i:Int)<P.length:=by omega
  rw [List.drop_eq_nil_of_le (by omega),List.flatten_nil,propQ_nil,List.append_nil] at ho
  rw [<-ho]
  simp (disch:=first|assumption|omega|(simp only [List.length_append,List.length_cons,List.length_nil];omega)) only [go_sem,hf,hf3,hlt']
  exact retC_by (by repeat' (first|exact Drop.refl _|with_reducible refine Drop.off ?_ (by assumption))) (.refl _) ⟨rfl,rfl⟩
end Go.A
namespace Go.A
open Go.Proofs
/-! 8: tabular/tabularref17.Has -/
def c8_5:ACode := .seq (.ops [ oq 2 (.mv (.v (.bool false)))]) (.seq (.ops [ oq 6 (.mv (.t 0)),oe 7 (.call 16 [(.t 6)]),oq 5 (.mv (.t 7)),oq 8 (.ext 0 (.t 5)),oq 9 (.ext 1 (.t 5)),oq 3 (.mv (.t 8)),oq 4 (.mv (.t 9))]) (.seq (.ops [ oq 10 (.mv (.t 4)),oq 11 (.bin .gtr (.t 10) (.v (.int .i64 0))),oq 2 (.mv (.t 11))]) .ret))
@[go_sem] def c8_5_wp:=wp_of c8_5.eq_1
def c8:AFn:=⟨12,[.t 2],c8_5⟩
theorem c8_ok:compF Tryz.prog Tryz.f8=some c8:=by kernel_rfl
theorem a8 {args:List AV} {σ:ASt} {R:AV->ASt->Prop} (hl:args.length<=12) (h:c8_5.wp Tryz.prog (RetQ [.t 2] R) (init args) σ):ACalls Tryz.prog 8 args σ R:=acalls_of Tryz.func8 c8_ok hl h
/-! 16: tabular/tabularref17.limits -/
def c16_18:ACode := .seq (.ops [ oq 15 (.bin .lss (.t 14) (.t 13))]) (.seq (.cond (.t 15) .skip (.exit 0)) (.seq (.block 1 (.seq (.ops [ oq 16 (.mv (.t 14)),oq 17 (.ia 1 (.t 12) (.t 14)),oq 18 (.ld none (.t 17)),oq 7 (.mv (.t 16)),oq 8 (.mv (.t 18))]) (.seq (.ops [ oq 19 (.mv (.t 8)),oq 20 (.mv (.t 0)),oq 21 (.bin .eql (.t 19) (.t 20))]) (.cond (.t 21) (.seq (.ops [ oq 22 (.mv (.t 5)),oq 23 (.mv (.t 7)),oq 24 (.ia 1 (.t 22) (.t 23)),oq 25 (.ld none (.t 24)),oq 26 (.mv (.t 6)),oq 27 (.mv (.t 7)),oq 28 (.ia 1 (.t 26) (.t 27)),oq 29 (.ld none (.t 28)),oq 2 (.mv (.t 25)),oq 3 (.mv (.t 29))]) .ret) .skip)))) (.ops [ oq 30 (.bin .add (.t 14) (.v (.int .i64 1))),oq 14 (.mv (.t 30))])))
def c16_28:ACode := .seq (.ops [ oq 2 (.mv (.v (.int .i64 0))),oq 3 (.mv (.v (.int .i64 0)))]) (.seq (.ops [ oq 9 (.bsl 1 [(.v (.str [76,69,78])),(.v (.str [85,80,80,69,82])),(.v (.str [76,79,87,69,82])),(.v (.str [80,82,79,80,69,82])),(.v (.str [84,82,73,77])),(.v (.str [86,65,76,85,69])),(.v (.str [67,72,65,82])),(.v (.str [67,79,68,69])),(.v (.str [84])),(.v (.str [82,69,86,69,82,83,69])),(.v (.str [76,69,70,84])),(.v (.str [82,73,71,72,84])),(.v (.str [70,73,88,69,68])),(.v (.str [82,69,80,84])),(.v (.str [69,88,65,67,84])),(.v (.str [70,73,78,68])),(.v (.str [83,69,65,82,67,72])),(.v (.str [77,73,68])),(.v (.str [83,85,66,83,84,73,84,85,84,69])),(.v (.str [82,69,80,76,65,67,69])),(.v (.str [67,79,78,67,65,84]))]),oq 4 (.mv (.t 9))]) (.seq (.ops [ oq 10 (.bsl 1 [(.v (.int .i64 1)),(.v (.int .i64 1)),(.v (.int .i64 1)),(.v (.int .i64 1)),(.v (.int .i64 1)),(.v (.int .i64 1)),(.v (.int .i64 1)),(.v (.int .i64 1)),(.v (.int .i64 1)),(.v (.int .i64 1)),(.v (.int .i64 1)),(.v (.int .i64 1)),(.v (.int .i64 1)),(.v (.int .i64 2)),(.v (.int .i64 2)),(.v (.int .i64 2)),(.v (.int .i64 2)),(.v (.int .i64 3)),(.v (.int .i64 3)),(.v (.int .i64 4)),(.v (.int .i64 1))]),oq 5 (.mv (.t 10))]) (.seq (.ops [ oq 11 (.bsl 1 [(.v (.int .i64 1)),(.v (.int .i64 1)),(.v (.int .i64 1)),(.v (.int .i64 1)),(.v (.int .i64 1)),(.v (.int .i64 1)),(.v (.int .i64 1)),(.v (.int .i64 1)),(.v (.int .i64 1)),(.v (.int .i64 1)),(.v (.int .i64 2)),(.v (.int .i64 2)),(.v (.int .i64 2)),(.v (.int .i64 2)),(.v (.int .i64 2)),(.v (.int .i64 3)),(.v (.int .i64 3)),(.v (.int .i64 3)),(.v (.int .i64 4)),(.v (.int .i64 4)),(.v (.int .i64 30))]),oq 6 (.mv (.t 11))]) (.seq (.seq (.ops [ oq 12 (.mv (.t 4)),oq 13 (.len (.t 12)),oq 14 (.mv (.v (.int .i64 0)))]) (.block 0 (.loop c16_18))) (.seq (.ops [ oq 2 (.mv (.v (.int .i64 0))),oq 3 (.mv (.v (.int .i64 0)))]) .ret)))))
@[go_sem] def c16_18_wp:=wp_of c16_18.eq_1
@[go_sem] def c16_28_wp:=wp_of c16_28.eq_1
def c16:AFn:=⟨31,[.t 2,.t 3],c16_28⟩
theorem c16_ok:compF Tryz.prog Tryz.f16=some c16:=by kernel_rfl
theorem a16 {args:List AV} {σ:ASt} {R:AV->ASt->Prop} (hl:args.length<=31) (h:c16_28.wp Tryz.prog (RetQ [.t 2,.t 3] R) (init args) σ):ACalls Tryz.prog 16 args σ R:=acalls_of Tryz.func16 c16_ok hl h
/-! 23: tabular/tabularref17.number -/
def c23_16:ACode := .seq (.ops [ oe 3 (.box (.t 0)),oe 6 (.alloc [(.sl .full []),(.int .i64 0)]),oq 7 (.mv (.v (.int .i64 0)))]) (.seq (.seq (.ops [ oq 10 (.mv (.t 1)),oq 11 (.fa 0 (.t 3)),oq 12 (.ld none (.t 11)),oq 13 (.len (.t 12)),oq 14 (.bin .geq (.t 10) (.t 13))]) (.cond (.t 14) (.seq (.ops [ oq 15 (.ld (some 2) (.t 3)),oq 16 (.mv (.t 2)),oz (.store 2 (.t 6) (.t 15)),oq 7 (.mv (.t 16))]) .ret) .skip)) (.seq (.ops [ oq 18 (.fa 0 (.t 3)),oq 19 (.ld none (.t 18)),oq 20 (.mv (.t 1)),oq 21 (.ia 3 (.t 19) (.t 20)),oq 22 (.ld (some 3) (.t 21)),oe 23 (.call 26 [(.t 22)]),oq 17 (.mv (.t 23)),oq 24 (.ext 0 (.t 17)),oq 25 (.ext 1 (.t 17)),oq 8 (.mv (.t 24)),oq 9 (.mv (.t 25))]) (.seq (.seq (.ops [ oq 26 (.fa 1 (.t 3)),oq 27 (.ld none (.t 26)),oq 28 (.bin .eql (.t 27) (.v (.int .i64 0)))]) (.cond (.t 28) (.ops [ oq 29 (.mv (.t 9)),oq 30 (.fa 1 (.t 3)),oz (.store 1 (.t 30) (.t 29))]) .skip)) (.seq (.ops [ oq 31 (.ld (some 2) (.t 3)),oq 32 (.mv (.t 8)),oq 33 (.bin .quo (.t 32) (.v (.int .i64 10000))),oq 34 (.mnx false (.t 33) (.v (.int .i64 2000000))),oq 35 (.mnx true (.t 34) (.v (.int .i64 (-2000000)))),oz (.store 2 (.t 6) (.t 31)),oq 7 (.mv (.t 35))]) .ret))))
@[go_sem] def c23_16_wp:=wp_of c23_16.eq_1
def c23:AFn:=⟨36,[.c 6 (some 2),.t 7],c23_16⟩
theorem c23_ok:compF Tryz.prog Tryz.f23=some c23:=by kernel_rfl
theorem a23 {args:List AV} {σ:ASt} {R:AV->ASt->Prop} (hl:args.length<=36) (h:c23_16.wp Tryz.prog (RetQ [.c 6 (some 2),.t 7] R) (init args) σ):ACalls Tryz.prog 23 args σ R:=acalls_of Tryz.func23 c23_ok hl h
/-! 25: tabular/tabularref17.told -/
def c25_9:ACode := .seq (.ops [ oe 2 (.box (.t 0)),oe 3 (.box (.t 1)),oe 4 (.alloc [(.int .i64 0),(.int .i64 0),(.str [])])]) (.seq (.seq (.ops [ oq 5 (.fa 1 (.t 2)),oq 6 (.ld none (.t 5)),oq 7 (.bin .neq (.t 6) (.v (.int .i64 0)))]) (.cond (.t 7) (.seq (.ops [ oq 8 (.fa 1 (.t 2)),oq 9 (.ld none (.t 8)),oe 10 (.call 21 [(.t 9)]),oz (.store 3 (.t 4) (.t 10))]) .ret) .skip)) (.seq (.ops [ oq 11 (.ld (some 3) (.t 3)),oz (.store 3 (.t 4) (.t 11))]) .ret))
@[go_sem] def c25_9_wp:=wp_of c25_9.eq_1
def c25:AFn:=⟨12,[.c 4 (some 3)],c25_9⟩
theorem c25_ok:compF Tryz.prog Tryz.f25=some c25:=by kernel_rfl
theorem a25 {args:List AV} {σ:ASt} {R:AV->ASt->Prop} (hl:args.length<=12) (h:c25_9.wp Tryz.prog (RetQ [.c 4 (some 3)] R) (init args) σ):ACalls Tryz.prog 25 args σ R:=acalls_of Tryz.func25 c25_ok hl h
/-! 29: tabular/tabularref15.Join -/
def c29_19:ACode := .seq (.ops [ oe 2 (.box (.t 0)),oe 3 (.box (.t 1)),oe 4 (.alloc [(.int .i64 0),(.int .i64 0),(.str [])])]) (.seq (.ops [ oq 10 (.ld (some 3) (.t 2)),oe 11 (.call 70 [(.t 10)]),oq 9 (.mv (.t 11)),oq 12 (.ext 0 (.t 9)),oq 13 (.ext 1 (.t 9)),oq 5 (.mv (.t 12)),oq 6 (.mv (.t 13))]) (.seq (.seq (.ops [ oq 14 (.mv (.t 6)),oq 15 (.bin .neq (.t 14) (.v (.int .i64 0)))]) (.cond (.t 15) (.seq (.ops [ oq 16 (.mv (.t 6)),oe 17 (.call 21 [(.t 16)]),oz (.store 3 (.t 4) (.t 17))]) .ret) .skip)) (.seq (.ops [ oq 19 (.ld (some 3) (.t 3)),oe 20 (.call 70 [(.t 19)]),oq 18 (.mv (.t 20)),oq 21 (.ext 0 (.t 18)),oq 22 (.ext 1 (.t 18)),oq 7 (.mv (.t 21)),oq 8 (.mv (.t 22))]) (.seq (.seq (.ops [ oq 23 (.mv (.t 8)),oq 24 (.bin .neq (.t 23) (.v (.int .i64 0)))]) (.cond (.t 24) (.seq (.ops [ oq 25 (.mv (.t 8)),oe 26 (.call 21 [(.t 25)]),oz (.store 3 (.t 4) (.t 26))]) .ret) .skip)) (.seq (.ops [ oq 27 (.mv (.t 5)),oq 28 (.mv (.t 7)),oq 29 (.bin .add (.t 27) (.t 28)),oe 30 (.call 42 [(.t 29)]),oz (.store 3 (.t 4) (.t 30))]) .ret)))))
@[go_sem] def c29_19_wp:=wp_of c29_19.eq_1
def c29:AFn:=⟨31,[.c 4 (some 3)],c29_19⟩
theorem c29_ok:compF Tryz.prog Tryz.f29=some c29:=by kernel_rfl
theorem a29 {args:List AV} {σ:ASt} {R:AV->ASt->Prop} (hl:args.length<=31) (h:c29_19.wp Tryz.prog (RetQ [.c 4 (some 3)] R) (init args) σ):ACalls Tryz.prog 29 args σ R:=acalls_of Tryz.func29 c29_ok hl h
/-! 42: tabular/tabularref15.Made -/
def c42_9:ACode := .seq (.ops [ oe 2 (.alloc [(.int .i64 0),(.int .i64 0),(.str [])])]) (.seq (.seq (.ops [ oq 3 (.mv (.t 0)),oq 4 (.lenS (.t 3)),oq 5 (.bin .gtr (.t 4) (.v (.int .i64 2000)))]) (.cond (.t 5) (.seq (.ops [ oe 6 (.call 21 [(.v (.int .i64 3))]),oz (.store 3 (.t 2) (.t 6))]) .ret) .skip)) (.seq (.ops [ oq 7 (.mv (.t 0)),oe 8 (.call 22 [(.t 7)]),oz (.store 3 (.t 2) (.t 8))]) .ret))
@[go_sem] def c42_9_wp:=wp_of c42_9.eq_1
def c42:AFn:=⟨9,[.c 2 (some 3)],c42_9⟩
theorem c42_ok:compF Tryz.prog Tryz.f42=some c42:=by kernel_rfl
theorem a42 {args:List AV} {σ:ASt} {R:AV->ASt->Prop} (hl:args.length<=9) (h:c42_9.wp Tryz.prog (RetQ [.c 2 (some 3)] R) (init args) σ):ACalls Tryz.prog 42 args σ R:=acalls_of Tryz.func42 c42_ok hl h
end Go.A
namespace Go.A
open Go.Proofs Go.Lib
def nmX:List (List UInt8) := [nLEN,nUPPER,nLOWER,nPROPER,nTRIM,nVALUE,nCHAR,nCODE,nT,nREVERSE,nLEFT,nRIGHT,nFIXED,nREPT,nEXACT,nFIND,nSEARCH,nMID,nSUBSTITUTE,nREPLACE,nCONCAT]
def leX:List Int := [1,1,1,1,1,1,1,1,1,1,1,1,1,2,2,2,2,3,3,4,1]
def moX:List Int := [1,1,1,1,1,1,1,1,1,1,2,2,2,2,2,3,3,3,4,4,30]
theorem limX_all:∀ i:Fin 21,limX (nmX[i.1]?.getD [])=(leX[i.1]?.getD 0,moX[i.1]?.getD 0):=by decide +kernel
theorem limX_at {s:List UInt8} {i:Nat} (h:nmX[i]? = some s):limX s=(leX[i]?.getD 0,moX[i]?.getD 0):=by
 have hi:i<21:=(List.getElem?_eq_some_iff.1 h).1
 have:=limX_all ⟨i,hi⟩
 rw [h,Option.getD_some] at this
 exact this
theorem limX_no {s:List UInt8} (h:∀ j:Nat,j<21->nmX[j]? ≠ some s):limX s=(0,0):=by
 have h1:s ∉ nmX:=by
  intro hm
  obtain ⟨j,hj,hs⟩:=List.mem_iff_getElem.1 hm
  exact h j hj (by rw [List.getElem?_eq_getElem hj,hs])
 simp only [nmX,List.mem_cons,List.not_mem_nil,or_false,not_or] at h1
 simp [limX,h1]
theorem strX_get {l:List (List UInt8)} {i:Nat} {x:List UInt8} (h:l[i]? = some x):(l.map AV.str)[i]? = some (.str x):=by rw [List.getElem?_map,h];rfl
theorem intX_get {l:List Int} {i:Nat} {x:Int} (h:l[i]? = some x):(l.map (AV.int .i64))[i]? = some (.int .i64 x):=by rw [List.getElem?_map,h];rfl
set_option maxHeartbeats 1000000 in
theorem r17limits_ok (s:List UInt8):Pure Tryz.prog 16 [.str s] (.tuple [.int .i64 (limX s).1,.int .i64 (limX s).2]):=by
 intro σ
 refine a16 (by simp) ?_
 simp (disch:=first|assumption|omega|(simp only [List.length_append,List.length_cons,List.length_nil];omega)) only [go_sem]
 refine wp_loop_on (fun (i:Nat) a s2=>i<=21/\(∀ j:Nat,j<i->nmX[j]? ≠ some s)/\(a 0 = .str s/\(∃ k1,a 5 = .sl k1 (leX.map (AV.int .i64)))/\(∃ k2,a 6 = .sl k2 (moX.map (AV.int .i64)))/\(∃ k,a 12 = .sl k (nmX.map AV.str))/\a 13 = .int .i64 21/\a 14 = .int .i64 i)/\s2=σ) (fun i=>21-i) 0 ⟨Nat.zero_le _,(fun j hj=>absurd hj (by omega)),?_,rfl⟩ ?_
 ·simp (disch:=first|assumption|omega|(simp only [List.length_append,List.length_cons,List.length_nil];omega)) only [go_sem]
  exact ⟨⟨_,rfl⟩,⟨_,rfl⟩,⟨_,rfl⟩⟩
 rintro i a s2 ⟨hi,hno,⟨f0,⟨k1,f5⟩,⟨k2,f6⟩,⟨k,f12⟩,f13,f14⟩,rfl⟩
 by_cases hlt:i<21
 ·have hlt':(i:Int)<21:=by omega
  obtain ⟨x,hx⟩:∃ x,nmX[i]? = some x:=⟨_,List.getElem?_eq_getElem (show i<nmX.length from hlt)⟩
  obtain ⟨y,hy⟩:∃ y,leX[i]? = some y:=⟨_,List.getElem?_eq_getElem (show i<leX.length from hlt)⟩
  obtain ⟨z,hz⟩:∃ z,moX[i]? = some z:=⟨_,List.getElem?_eq_getElem (show i<moX.length from hlt)⟩
  have hg:=strX_get hx
  have hgy:=intX_get hy
  have hgz:=intX_get hz
  by_cases he:x=s
  ·subst he
   have hl:=limX_at hx
   rw [hy,hz,Option.getD_some,Option.getD_some] at hl
   rw [hl]
   have he:(x=x)=True:=eq_self x
   generalize nmX.map AV.str=A1 at *
   generalize leX.map (AV.int .i64)=A2 at *
   generalize moX.map (AV.int .i64)=A3 at *
   simp (disch:=first|assumption|omega|(simp only [List.length_append,List.length_cons,List.length_nil];omega)) only [go_sem,f0,f5,f6,f12,f13,f14,hlt',hg,hgy,hgz]
   exact retC_by (by repeat' (first|exact Drop.refl _|with_reducible refine Drop.off ?_ (by assumption))) (.refl _) ⟨rfl,rfl⟩
  ·generalize nmX.map AV.str=A1 at *
   generalize leX.map (AV.int .i64)=A2 at *
   generalize moX.map (AV.int .i64)=A3 at *
   simp (disch:=first|assumption|omega|(simp only [List.length_append,List.length_cons,List.length_nil];omega)) only [go_sem,f0,f5,f6,f12,f13,f14,hlt',hg,he]
   refine ⟨i+1,by omega,by omega,?_,?_⟩
   ·intro j hj
    by_cases hji:j=i
    ·subst hji
     rw [hx]
     exact fun h=>he (Option.some.inj h)
    ·exact hno j (by omega)
   ·repeat' (first|exact ⟨_,rfl⟩|rfl|refine ⟨?_,?_⟩)
 ·have hlt':¬ (i:Int)<21:=by omega
  rw [limX_no fun j hj=>hno j (by omega)]
  simp (disch:=first|assumption|omega|(simp only [List.length_append,List.length_cons,List.length_nil];omega)) only [go_sem,f0,f5,f6,f12,f13,f14,hlt']
  exact retC_by (by repeat' (first|exact Drop.refl _|with_reducible refine Drop.off ?_ (by assumption))) (.refl _) ⟨rfl,rfl⟩
theorem r17has_ok (s:List UInt8):Pure Tryz.prog 8 [.str s] (.bool (decide (0<(limX s).2))):=by
 intro σ
 have hL:=r17limits_ok s
 generalize (limX s).1=x at *
 generalize (limX s).2=y at *
 refine a8 (by simp) ?_
 simp (disch:=first|assumption|omega|(simp only [List.length_append,List.length_cons,List.length_nil];omega)) only [go_sem]
 refine hL.use ?_
 simp (disch:=first|assumption|omega|(simp only [List.length_append,List.length_cons,List.length_nil];omega)) only [go_sem]
 exact retC_by (by repeat' (first|exact Drop.refl _|with_reducible refine Drop.off ?_ (by assumption))) (.refl _) ⟨rfl,rfl⟩
theorem r15made_ok (s:List UInt8):Pure Tryz.prog 42 [.str s] (tellAV (madeT s)):=by
 intro σ
 have hF:=rFail_ok 3 (by omega) (by omega)
 have hT:=rText_ok s
 unfold madeT
 refine a42 (by simp) ?_
 by_cases h:2000<s.length
 ·have h':(2000:Int)<s.length:=by omega
  rw [if_pos h]
  simp only [tellAV] at hF ⊢
  simp (disch:=first|assumption|omega|(simp only [List.length_append,List.length_cons,List.length_nil];omega)) only [go_sem]
  refine allocC_by fun c hc=>?_
  repeat (with_reducible replace hc:=set_none hc;obtain ⟨_,_,hc⟩:=hc)
  simp (disch:=first|assumption|omega|(simp only [List.length_append,List.length_cons,List.length_nil];omega)) only [go_sem,h']
  refine hF.use ?_
  simp (disch:=first|assumption|omega|(simp only [List.length_append,List.length_cons,List.length_nil];omega)) only [go_sem,ASt.set_set]
  exact retC_by (by repeat' (first|exact Drop.refl _|with_reducible refine Drop.off ?_ (by assumption))) (.refl _) ⟨rfl,rfl⟩
 ·have h':¬ (2000:Int)<s.length:=by omega
  rw [if_neg h]
  simp only [tellAV] at hT ⊢
  simp (disch:=first|assumption|omega|(simp only [List.length_append,List.length_cons,List.length_nil];omega)) only [go_sem]
  refine allocC_by fun c hc=>?_
  repeat (with_reducible replace hc:=set_none hc;obtain ⟨_,_,hc⟩:=hc)
  simp (disch:=first|assumption|omega|(simp only [List.length_append,List.length_cons,List.length_nil];omega)) only [go_sem,h']
  refine hT.use ?_
  simp (disch:=first|assumption|omega|(simp only [List.length_append,List.length_cons,List.length_nil];omega)) only [go_sem,ASt.set_set]
  exact retC_by (by repeat' (first|exact Drop.refl _|with_reducible refine Drop.off ?_ (by assumption))) (.refl _) ⟨rfl,rfl⟩
theorem r17told_ok {L:List PV} {f:Int} (v:PV) (h0 : -9223372036854775808<=f) (h1:f<=9223372036854775807):Pure Tryz.prog 25 [arAV L f,tellAV v] (tellAV (if f=0 then v else .fail f)):=by
 intro σ
 have hF:=rFail_ok f h0 h1
 obtain ⟨x1,x2,x3,ht⟩:=tell_agg v
 unfold arAV
 generalize L.map tellAV=LA at *
 by_cases h:f=0
 ·subst h
  rw [if_pos rfl]
  rw [ht]
  refine a25 (by simp) ?_
  simp (disch:=first|assumption|omega|(simp only [List.length_append,List.length_cons,List.length_nil];omega)) only [go_sem]
  refine boxC_by rfl fun b hb=>?_
  simp (disch:=first|assumption|omega|(simp only [List.length_append,List.length_cons,List.length_nil];omega)) only [go_sem]
  refine boxC_by rfl fun c hc=>?_
  repeat (with_reducible replace hc:=set_none hc;obtain ⟨_,_,hc⟩:=hc)
  simp (disch:=first|assumption|omega|(simp only [List.length_append,List.length_cons,List.length_nil];omega)) only [go_sem]
  refine allocC_by fun d hd=>?_
  repeat (with_reducible replace hd:=set_none hd;obtain ⟨_,_,hd⟩:=hd)
  simp (disch:=first|assumption|omega|(simp only [List.length_append,List.length_cons,List.length_nil];omega)) only [go_sem,ASt.set_set]
  exact retC_by (by repeat' (first|exact Drop.refl _|with_reducible refine Drop.off ?_ (by assumption))) (.refl _) ⟨rfl,rfl⟩
 ·rw [if_neg h,ht]
  simp only [tellAV] at hF ⊢
  refine a25 (by simp) ?_
  simp (disch:=first|assumption|omega|(simp only [List.length_append,List.length_cons,List.length_nil];omega)) only [go_sem]
  refine boxC_by rfl fun b hb=>?_
  simp (disch:=first|assumption|omega|(simp only [List.length_append,List.length_cons,List.length_nil];omega)) only [go_sem]
  refine boxC_by rfl fun c hc=>?_
  repeat (with_reducible replace hc:=set_none hc;obtain ⟨_,_,hc⟩:=hc)
  simp (disch:=first|assumption|omega|(simp only [List.length_append,List.length_cons,List.length_nil];omega)) only [go_sem]
  refine allocC_by fun d hd=>?_
  repeat (with_reducible replace hd:=set_none hd;obtain ⟨_,_,hd⟩:=hd)
  simp (disch:=first|assumption|omega|(simp only [List.length_append,List.length_cons,List.length_nil];omega)) only [go_sem,h]
  refine hF.use ?_
  simp (disch:=first|assumption|omega|(simp only [List.length_append,List.length_cons,List.length_nil];omega)) only [go_sem,ASt.set_set]
  exact retC_by (by repeat' (first|exact Drop.refl _|with_reducible refine Drop.off ?_ (by assumption))) (.refl _) ⟨rfl,rfl⟩
theorem r17number_none {L:List PV} {f:Int} (i:Nat) (o:Int) (hi:L.length<=i):Pure Tryz.prog 23 [arAV L f,.int .i64 i,.int .i64 o] (.tuple [arAV L f,.int .i64 o]):=by
 intro σ
 have hl:(L.map tellAV).length=L.length:=List.length_map _
 unfold arAV
 generalize L.map tellAV=LA at *
 have hi':((L.length:Nat):Int)<=i:=by omega
 refine a23 (by simp) ?_
 simp (disch:=first|assumption|omega|(simp only [List.length_append,List.length_cons,List.length_nil];omega)) only [go_sem]
 refine boxC_by rfl fun b hb=>?_
 simp (disch:=first|assumption|omega|(simp only [List.length_append,List.length_cons,List.length_nil];omega)) only [go_sem]
 refine allocC_by fun c hc=>?_
 repeat (with_reducible replace hc:=set_none hc;obtain ⟨_,_,hc⟩:=hc)
 simp (disch:=first|assumption|omega|(simp only [List.length_append,List.length_cons,List.length_nil];omega)) only [go_sem,hl,hi',ASt.set_set]
 exact retC_by (by repeat' (first|exact Drop.refl _|with_reducible refine Drop.off ?_ (by assumption))) (.refl _) ⟨rfl,rfl⟩
theorem r17number_ok {L:List PV} {f:Int} (i:Nat) (o:Int) {v:PV} (hi:L[i]? = some v) (hg:v.good) (hs:v.small):Pure Tryz.prog 23 [arAV L f,.int .i64 i,.int .i64 o] (.tuple [arAV L (seen f (asIntV v).2),.int .i64 (clampP (asIntV v).1)]):=by
 intro σ
 have h1:=r15asnumber_ok v hs (fun n e=>by subst e;obtain ⟨g1,g2⟩:1<=n/\n<=7:=hg;omega)
 have hrn:=asNum_rng v hg
 have h2:=tell_at hi
 obtain ⟨x1,x2,x3,ht⟩:=tell_agg v
 rw [ht] at h1 h2
 have hl:i<L.length:=(List.getElem?_eq_some_iff.1 hi).1
 have hll:(L.map tellAV).length=L.length:=List.length_map _
 have hl':¬ ((L.length:Nat):Int)<=i:=by omega
 unfold arAV seen asIntV clampP
 generalize L.map tellAV=LA at *
 generalize asNum v=W at *
 obtain ⟨w1,w2⟩:=W
 dsimp only at *
 have hd:(w1.tdiv 10000).natAbs<=w1.natAbs:=by rw [Int.natAbs_tdiv];exact Nat.div_le_self _ _
 have hw : -9223372036854775808<=w1.tdiv 10000/\w1.tdiv 10000<=9223372036854775807:=by omega
 refine a23 (by simp) ?_
 simp (disch:=first|assumption|omega|(simp only [List.length_append,List.length_cons,List.length_nil];omega)) only [go_sem]
 refine boxC_by rfl fun b hb=>?_
 simp (disch:=first|assumption|omega|(simp only [List.length_append,List.length_cons,List.length_nil];omega)) only [go_sem]
 refine allocC_by fun c hc=>?_
 repeat (with_reducible replace hc:=set_none hc;obtain ⟨_,_,hc⟩:=hc)
 simp (disch:=first|assumption|omega|(simp only [List.length_append,List.length_cons,List.length_nil];omega)) only [go_sem,hll,hl',h2]
 refine h1.use ?_
 by_cases hf:f=0
 ·rw [if_pos hf]
  simp (disch:=first|assumption|omega|(simp only [List.length_append,List.length_cons,List.length_nil];omega)) only [go_sem,hf,hw,ASt.set_set]
  exact retC_by (by repeat' (first|exact Drop.refl _|with_reducible refine Drop.off ?_ (by assumption))) (.refl _) ⟨rfl,rfl⟩
 ·rw [if_neg hf]
  simp (disch:=first|assumption|omega|(simp only [List.length_append,List.length_cons,List.length_nil];omega)) only [go_sem,hf,hw,ASt.set_set]
  exact retC_by (by repeat' (first|exact Drop.refl _|with_reducible refine Drop.off ?_ (by assumption))) (.refl _) ⟨rfl,rfl⟩
theorem r15join_ok (s t:List UInt8) (hs:s.length<=1000000) (ht:t.length<=1000000):Pure Tryz.prog 29 [tellAV (.text s),tellAV (.text t)] (tellAV (madeT (s++t))):=by
 intro σ
 have h1:=r15astext_ok (.text s) trivial
 have h2:=r15astext_ok (.text t) trivial
 have h3:=r15made_ok (s++t)
 have e5:binS .add s t=some (.str (s++t)):=binS_add (by omega)
 obtain ⟨x1,x2,x3,hm⟩:=tell_agg (madeT (s++t))
 rw [hm] at h3 ⊢
 simp only [tellAV,asTextP] at h1 h2 ⊢
 generalize s++t=r at *
 refine a29 (by simp) ?_
 simp (disch:=first|assumption|omega|(simp only [List.length_append,List.length_cons,List.length_nil];omega)) only [go_sem]
 refine boxC_by rfl fun b hb=>?_
 simp (disch:=first|assumption|omega|(simp only [List.length_append,List.length_cons,List.length_nil];omega)) only [go_sem]
 refine boxC_by rfl fun c hc=>?_
 repeat (with_reducible replace hc:=set_none hc;obtain ⟨_,_,hc⟩:=hc)
 simp (disch:=first|assumption|omega|(simp only [List.length_append,List.length_cons,List.length_nil];omega)) only [go_sem]
 refine allocC_by fun d hd=>?_
 repeat (with_reducible replace hd:=set_none hd;obtain ⟨_,_,hd⟩:=hd)
 simp (disch:=first|assumption|omega|(simp only [List.length_append,List.length_cons,List.length_nil];omega)) only [go_sem]
 refine h1.use ?_
 simp (disch:=first|assumption|omega|(simp only [List.length_append,List.length_cons,List.length_nil];omega)) only [go_sem]
 refine h2.use ?_
 simp (disch:=first|assumption|omega|(simp only [List.length_append,List.length_cons,List.length_nil];omega)) only [go_sem,e5]
 refine h3.use ?_
 simp (disch:=first|assumption|omega|(simp only [List.length_append,List.length_cons,List.length_nil];omega)) only [go_sem,ASt.set_set]
 exact retC_by (by repeat' (first|exact Drop.refl _|with_reducible refine Drop.off ?_ (by assumption))) (.refl _) ⟨rfl,rfl⟩
end Go.A
namespace Go.A
open Go.Proofs
/-! 11: tabular/tabularlaw16.Args -/
def c11_14:ACode := .seq (.ops [ oq 10 (.bin .lss (.t 9) (.t 8))]) (.seq (.cond (.t 10) .skip (.exit 0)) (.seq (.block 1 (.seq (.ops [ oq 11 (.ia 3 (.t 7) (.t 9)),oq 12 (.ld (some 3) (.t 11)),oe 5 (.alloc [(.int .i64 0),(.int .i64 0),(.str [])]),oz (.store 3 (.t 5) (.t 12))]) (.seq (.ops [ oq 13 (.fa 2 (.t 5)),oq 14 (.ld none (.t 13)),oe 15 (.call 4 [(.t 14),(.v (.int .i64 60))]),oq 16 (.fa 2 (.t 5)),oz (.store 1 (.t 16) (.t 15))]) (.ops [ oq 17 (.mv (.t 3)),oq 18 (.ld (some 3) (.t 5)),oe 19 (.call 20 [(.t 18)]),oe 20 (.call 19 [(.t 19)]),oq 21 (.bsl 4 [(.t 20)]),oe 22 (.app 53 4 48 [(.int .i64 0),(.int .i64 0),(.bool false),(.sl .full [])] (.t 17) (.t 21)),oq 3 (.mv (.t 22))])))) (.ops [ oq 23 (.bin .add (.t 9) (.v (.int .i64 1))),oq 9 (.mv (.t 23))])))
def c11_19:ACode := .seq (.ops [ oq 24 (.mv (.t 3)),oq 2 (.mv (.t 24))]) .ret
def c11_22:ACode := .seq (.ops [ oq 2 (.mv (.v (.sl .full [])))]) (.seq (.ops [ oq 6 (.bsl 4 []),oq 3 (.mv (.t 6))]) (.seq (.seq (.ops [ oq 7 (.mv (.t 0)),oq 8 (.len (.t 7)),oq 9 (.mv (.v (.int .i64 0)))]) (.block 0 (.loop c11_14))) c11_19))
@[go_sem] def c11_14_wp:=wp_of c11_14.eq_1
@[go_sem] def c11_19_wp:=wp_of c11_19.eq_1
@[go_sem] def c11_22_wp:=wp_of c11_22.eq_1
def c11:AFn:=⟨25,[.t 2],c11_22⟩
theorem c11_ok:compF Tryz.prog Tryz.f11=some c11:=by kernel_rfl
theorem a11 {args:List AV} {σ:ASt} {R:AV->ASt->Prop} (hl:args.length<=25) (h:c11_22.wp Tryz.prog (RetQ [.t 2] R) (init args) σ):ACalls Tryz.prog 11 args σ R:=acalls_of Tryz.func11 c11_ok hl h
end Go.A
namespace Go.A
open Go.Proofs
theorem Grown.u8 {σ0 σ:ASt} {k:SK} {n s:Nat} (h:Grown σ0 σ k n s) (hU:U8 σ0):U8 σ:=⟨h.at hU.1,h.at hU.2⟩
def argsP (L:List Pl):List PV:=L.map fun p=>ofP ⟨p.kind,p.n,p.s.take 60⟩
theorem pl_get {L:List Pl} {i:Nat} {p:Pl} (h:L[i]? = some p):(L.map plAV)[i]? = some (plAV p):=by rw [List.getElem?_map,h];rfl
set_option maxHeartbeats 1000000 in
theorem args_ok {σ:ASt} (h:U8 σ) (L:List Pl) (hn:L.length<=100000):ACalls Tryz.prog 11 [.sl .shr (L.map plAV)] σ fun v σ'=>v = .sl .shr ((argsP L).map argAV)/\σ'=σ:=by
 refine a11 (by simp) ?_
 obtain ⟨F,hF⟩:∃ F,F=ACode.wp Tryz.prog c11_19:=⟨_,rfl⟩
 simp (disch:=first|assumption|omega|(simp only [List.length_append,List.length_cons,List.length_nil];omega)) only [go_sem,←hF]
 refine wp_loop_by (fun (i:Nat) a σ'=>i<=L.length/\(a 7 = .sl .shr (L.map plAV)/\a 8 = .int .i64 L.length/\a 9 = .int .i64 i)/\∃ k,a 3 = .sl k ((argsP (L.take i)).map argAV)/\Grown σ σ' k ((argsP (L.take i)).map argAV).length 4)
  (fun i=>L.length-i) 0 (Dr.now ⟨Nat.zero_le _,?_,.full,?_,.inl ⟨rfl,by simp [argsP],rfl⟩⟩) ?_
 ·simp (disch:=first|assumption|omega|(simp only [List.length_append,List.length_cons,List.length_nil];omega)) only [go_sem]
 ·simp (disch:=first|assumption|omega|(simp only [List.length_append,List.length_cons,List.length_nil];omega)) only [go_sem,argsP]
 rintro i a σ1 ⟨hi,hf,k,h3,hg⟩
 by_cases hlt:i<L.length
 ·have hlt':(i:Int)<L.length:=by omega
  have hx : L[i]? = some (L[i]'hlt) := List.getElem?_eq_getElem hlt
  obtain ⟨p, hp⟩ : ∃ p, L[i]'hlt = p := ⟨_, rfl⟩
  rw [hp] at hx
  have hmx:=pl_get hx
  have hap:(argsP (L.take i)).map argAV ++ [argAV (ofP ⟨p.kind,p.n,p.s.take 60⟩)]=(argsP (L.take (i+1))).map argAV:=by
   obtain ⟨h1,h2⟩:=List.getElem?_eq_some_iff.1 hx
   rw [List.take_succ_eq_append_getElem h1,h2];simp [argsP]
  have hlen:((argsP (L.take i)).map argAV).length<=100000:=by simp [argsP];omega
  obtain ⟨kd,n,s⟩:=p
  dsimp only at hap
  have hC:=lcut_ok s 60
  rw [show (((60:Nat)):Int)=60 from rfl] at hC
  have htl:(s.take 60).length<=60:=by rw [List.length_take];omega
  generalize s.take 60=t at *
  have hO1:=vone_ok (ofP ⟨kd,n,t⟩)
  have hu1:=hg.u8 h
  unfold plAV at hmx hf
  dsimp only at hmx
  generalize (argsP (L.take i)).map argAV=A at *
  simp (disch:=first|assumption|omega|(simp only [List.length_append,List.length_cons,List.length_nil];omega)) only [go_sem,hf,h3,hlt',hmx,←hF]
  refine allocC_by fun c hc=>?_
  obtain ⟨hga,hc0⟩:=hg.upon hc (q := .obj [.int .i64 kd,.int .i64 n,.str t])
  have hOf:=of_ok (hu1.set hc (r:=some (.obj [.int .i64 kd,.int .i64 n,.str t]))) ⟨kd,n,t⟩ (show t.length<=4611686018427387904 by omega)
  unfold plAV at hOf
  dsimp only at hOf
  simp (disch:=first|assumption|omega|(simp only [List.length_append,List.length_cons,List.length_nil];omega)) only [go_sem,hf,h3,←hF]
  refine hC.use ?_
  simp (disch:=first|assumption|omega|(simp only [List.length_append,List.length_cons,List.length_nil];omega)) only [go_sem,hf,h3,ASt.set_set,←hF]
  refine hOf.mono ?_
  rintro v σ' ⟨rfl,rfl⟩
  simp (disch:=first|assumption|omega|(simp only [List.length_append,List.length_cons,List.length_nil];omega)) only [go_sem,hf,h3,←hF]
  refine hO1.use ?_
  simp (disch:=first|assumption|omega|(simp only [List.length_append,List.length_cons,List.length_nil];omega)) only [go_sem,hf,h3,argAV_any,argAV_len,←hF]
  refine appC_by (bytes:=48) (ys := [argAV (ofP ⟨kd,n,t⟩)]) hga rfl rfl (by simp only [List.length_cons,List.length_nil];omega) (by simp only [List.length_cons,List.length_nil];omega) fun k' σ' hg'=>?_
  rw [hap] at hg' ⊢
  obtain ⟨σ2,hd,hg2⟩:=hg'.off hc0
  simp (disch:=first|assumption|omega|(simp only [List.length_append,List.length_cons,List.length_nil];omega)) only [go_sem,hf,←hF]
  refine ⟨i+1,by dsimp only;omega,Dr.drop hd ⟨by omega,?_,k',?_,by simpa using hg2⟩⟩
  ·unfold plAV
   simp (disch:=first|assumption|omega|(simp only [List.length_append,List.length_cons,List.length_nil];omega)) only [go_sem,hf]
  ·rfl
 ·have hlt':¬ (i:Int)<L.length:=by omega
  have e:L.take i=L:=List.take_of_length_le (by omega)
  rw [e] at h3 hg
  simp (disch:=first|assumption|omega|(simp only [List.length_append,List.length_cons,List.length_nil];omega)) only [go_sem,hf,h3,hlt',←hF]
  rw [hF]
  simp (disch:=first|assumption|omega|(simp only [List.length_append,List.length_cons,List.length_nil];omega)) only [go_sem,h3]
  exact retC_by hg.drop (.sl _ _) ⟨rfl,rfl⟩
end Go.A
namespace Go.A
open Go.Proofs
/-! 6: tabular/tabularlaw17.awake -/
def c6_7:ACode := .seq (.ops [ oq 0 (.mv (.v (.bool false)))]) (.seq (.ops [ oq 3 (.build [(.int .i64 0),(.int .i64 0),(.str [])] [(0,1,(.v (.int .i64 2))),(2,1,(.v (.str [97,195,169,226,130,172])))]),oq 4 (.build [(.int .i64 0),(.int .i64 0),(.str [])] [(0,1,(.v (.int .i64 1))),(1,1,(.v (.int .i64 20000)))]),oq 5 (.bsl 3 [(.t 3),(.t 4)]),oe 6 (.call 11 [(.t 5)]),oe 7 (.call 10 [(.v (.str [82,73,71,72,84])),(.t 6)]),oq 1 (.mv (.t 7))]) (.seq (.ops [ oq 8 (.build [(.int .i64 0),(.int .i64 0),(.str [])] [(0,1,(.v (.int .i64 2))),(2,1,(.v (.str [97,98,45,99,68])))]),oq 9 (.bsl 3 [(.t 8)]),oe 10 (.call 11 [(.t 9)]),oe 11 (.call 10 [(.v (.str [80,82,79,80,69,82])),(.t 10)]),oq 2 (.mv (.t 11))]) (.seq (.ops [ oq 12 (.mv (.t 1)),oe 13 (.call 14 [(.t 12)]),oq 14 (.bin .eql (.t 13) (.v (.str [195,169,226,130,172]))),oq 15 (.mv (.t 14)),⟨some 16,some (15,true),.q (.mv (.t 2)),[]⟩,⟨some 17,some (15,true),.e (.call 14 [(.t 16)]),[]⟩,⟨some 18,some (15,true),.q (.bin .eql (.t 17) (.v (.str [65,98,45,67,100]))),[]⟩,oq 19 (.pick (.t 15) (.t 18) (.v (.bool false))),oq 0 (.mv (.t 19))]) .ret)))
@[go_sem] def c6_7_wp:=wp_of c6_7.eq_1
def c6:AFn:=⟨20,[.t 0],c6_7⟩
theorem c6_ok:compF Tryz.prog Tryz.f6=some c6:=by kernel_rfl
theorem a6 {args:List AV} {σ:ASt} {R:AV->ASt->Prop} (hl:args.length<=20) (h:c6_7.wp Tryz.prog (RetQ [.t 0] R) (init args) σ):ACalls Tryz.prog 6 args σ R:=acalls_of Tryz.func6 c6_ok hl h
end Go.A
namespace Go.A
open Go.Proofs Go.Lib
def plsA:List Pl := [⟨2,0,[97,195,169,226,130,172]⟩,⟨1,20000,[]⟩]
def plsB:List Pl := [⟨2,0,[97,98,45,99,68]⟩]
theorem xaw1:argsP plsA = [.text [97,195,169,226,130,172],.num 20000]:=by decide +kernel
theorem xaw2:argsP plsB = [.text [97,98,45,99,68]]:=by decide +kernel
theorem xaw3:sidesP nRIGHT [97,195,169,226,130,172] (clampP (asIntV (.num 20000)).1) = .text [195,169,226,130,172]:=by decide +kernel
theorem xaw4:propP [97,98,45,99,68] = [65,98,45,67,100]:=by decide +kernel
theorem xawake_ok {σ:ASt} (hT:Tab σ) (hU:U8 σ):ACalls Tryz.prog 6 [] σ fun v σ'=>v = .bool true/\σ'=σ:=by
 have hA:=args_ok hU plsA (by decide)
 have hB:=args_ok hU plsB (by decide)
 rw [xaw1] at hA
 rw [xaw2] at hB
 have hC:=xcall_of hT nRIGHT [.text [97,195,169,226,130,172],.num 20000] _ _ (by decide) (by decide) (by decide) (fun b τ hT hb _=>rc_RIGHT hT [97,195,169,226,130,172] (.num 20000) (by decide) hb (by show _<=_;decide) trivial)
 have hD:=xcall_of hT nPROPER [.text [97,98,45,99,68]] _ _ (by decide) (by decide) (by decide) (fun b τ hT hb _=>rc_PROPER hT [97,98,45,99,68] (by decide) hb)
 rw [xaw3] at hC
 rw [xaw4] at hD
 rw [if_pos (by decide)] at hC hD
 have h1:=show_ok hT (.text [195,169,226,130,172]) trivial
 have h2:=show_ok hT (.text [65,98,45,67,100]) trivial
 simp only [PV.av,showP,asTextP] at hC hD h1 h2
 generalize hLA : [PV.text [97,195,169,226,130,172],.num 20000].map argAV=LA at *
 generalize hLB : [PV.text [97,98,45,99,68]].map argAV=LB at *
 unfold plsA plsB plAV at *
 simp only [List.map_cons,List.map_nil] at hA hB
 unfold nRIGHT nPROPER at *
 refine a6 (by simp) ?_
 simp (disch:=first|assumption|omega|(simp only [List.length_append,List.length_cons,List.length_nil];omega)) only [go_sem]
 refine ACalls.shr rfl (hA.mono ?_)
 rintro v σ' ⟨rfl,rfl⟩
 simp (disch:=first|assumption|omega|(simp only [List.length_append,List.length_cons,List.length_nil];omega)) only [go_sem]
 refine hC.mono ?_
 rintro v σ' ⟨rfl,rfl⟩
 simp (disch:=first|assumption|omega|(simp only [List.length_append,List.length_cons,List.length_nil];omega)) only [go_sem]
 refine ACalls.shr rfl (hB.mono ?_)
 rintro v σ' ⟨rfl,rfl⟩
 simp (disch:=first|assumption|omega|(simp only [List.length_append,List.length_cons,List.length_nil];omega)) only [go_sem]
 refine hD.mono ?_
 rintro v σ' ⟨rfl,rfl⟩
 simp (disch:=first|assumption|omega|(simp only [List.length_append,List.length_cons,List.length_nil];omega)) only [go_sem]
 refine h1.mono ?_
 rintro v σ' ⟨rfl,rfl⟩
 simp (disch:=first|assumption|omega|(simp only [List.length_append,List.length_cons,List.length_nil];omega)) only [go_sem,eq_self]
 refine h2.mono ?_
 rintro v σ' ⟨rfl,rfl⟩
 simp (disch:=first|assumption|omega|(simp only [List.length_append,List.length_cons,List.length_nil];omega)) only [go_sem,eq_self]
 exact retC_by (.refl _) (.refl _) ⟨rfl,rfl⟩
end Go.A
namespace Go.A
open Go.Proofs Go.Lib
section
variable {σ:ASt} (hT:Tab σ) (s:List UInt8) (hs:s.length<=200000)
include hT hs
end
end Go.A
namespace Go.A
open Go.Proofs Go.Lib
def MaxL (σ:ASt):Prop:=∃ m:Int,σ 0=some (.fix ([m].map (AV.int .i64)))
end Go.A
namespace Go.A
open Go.Proofs
/-! 57: tabular/texts.find -/
def c57_19:ACode := .seq (.ops [ oq 6 (.mv (.v .nili))]) (.seq (.seq (.ops [ oq 9 (.mv (.t 2)),oq 10 (.bin .lss (.t 9) (.v (.int .i64 1))),oq 11 (.mv (.t 10)),⟨some 12,some (11,false),.q (.mv (.t 2)),[]⟩,⟨some 13,some (11,false),.q (.mv (.t 1)),[]⟩,⟨some 14,some (11,false),.e (.call 83 [(.t 13)]),[]⟩,⟨some 15,some (11,false),.q (.bin .add (.t 14) (.v (.int .i64 1))),[]⟩,⟨some 16,some (11,false),.q (.bin .gtr (.t 12) (.t 15)),[]⟩,oq 17 (.pick (.t 11) (.v (.bool true)) (.t 16))]) (.cond (.t 17) (.seq (.ops [ oq 18 (.mki 46 (.v (.int .i64 3))),oq 6 (.mv (.t 18))]) .ret) .skip)) (.seq (.ops [ oq 19 (.mv (.t 1)),oq 20 (.mv (.t 2)),oq 21 (.bin .sub (.t 20) (.v (.int .i64 1))),oe 22 (.call 82 [(.t 19),(.t 21)]),oq 7 (.mv (.t 22))]) (.seq (.ops [ oq 23 (.mv (.t 1)),oq 24 (.mv (.t 7)),oq 25 (.slfrom (true,0) (.t 23) (.t 24)),oq 26 (.mv (.t 0)),oe 27 (.call 85 [(.t 25),(.t 26)]),oq 8 (.mv (.t 27))]) (.seq (.seq (.ops [ oq 28 (.mv (.t 8)),oq 29 (.bin .lss (.t 28) (.v (.int .i64 0)))]) (.cond (.t 29) (.seq (.ops [ oq 30 (.mki 46 (.v (.int .i64 3))),oq 6 (.mv (.t 30))]) .ret) .skip)) (.seq (.ops [ oq 31 (.mv (.t 2)),oq 32 (.mv (.t 1)),oq 33 (.mv (.t 7)),oq 34 (.mv (.t 7)),oq 35 (.mv (.t 8)),oq 36 (.bin .add (.t 34) (.t 35)),oq 37 (.sls (true,0) (.t 32) (.t 33) (.t 36)),oe 38 (.call 83 [(.t 37)]),oq 39 (.bin .add (.t 31) (.t 38)),oe 40 (.call 87 [(.t 39)]),oq 41 (.ext 0 (.t 40)),oq 42 (.ext 1 (.t 40)),oe 43 (.call 86 [(.t 41),(.t 42)]),oq 6 (.mv (.t 43))]) .ret)))))
@[go_sem] def c57_19_wp:=wp_of c57_19.eq_1
def c57:AFn:=⟨44,[.t 6],c57_19⟩
theorem c57_ok:compF Tryz.prog Tryz.f57=some c57:=by kernel_rfl
theorem a57 {args:List AV} {σ:ASt} {R:AV->ASt->Prop} (hl:args.length<=44) (h:c57_19.wp Tryz.prog (RetQ [.t 6] R) (init args) σ):ACalls Tryz.prog 57 args σ R:=acalls_of Tryz.func57 c57_ok hl h
end Go.A
namespace Go.A
open Go.Proofs Go.Lib
theorem sindexg_ok {σ:ASt} (hM:MaxL σ) (s t:List UInt8) (hs:s.length<=1000000000):ACalls Tryz.prog 85 [.str s,.str t] σ fun v σ'=>v = .int .i64 (Lib.index s t)/\σ'=σ:=by
 obtain ⟨m,hm⟩:=hM
 refine ACalls.of_below (u := .int .i64 (Lib.index s t)) (fun w vs hsim ha=>?_) fun w => .int _ _
 cases ha with
 | cons h1 h2=>
 cases h2 with
 | cons h2 h3=>
 cases h3;cases h1;cases h2
 have hcell:=fix_ints hsim hm 0 m rfl
 have e1:(⟨⟨s⟩⟩:ByteArray).size=s.length:=rfl
 refine (Tryz.strings_Index ⟨⟨s⟩⟩ ⟨⟨t⟩⟩ m w (by rw [e1];omega) hcell).mono ?_
 rintro e w' ⟨rfl,rfl⟩
 exact ⟨rfl,.refl _ _⟩
def findP (what s:List UInt8) (f:Int):PV:=
 if f<1\/(pcs s).length+1<f then .fail 3 else
 if Lib.index (s.drop (skipP s (f-1))) what<0 then .fail 3 else
 cntP (intP (f+(pcs ((s.drop (skipP s (f-1))).take (Lib.index (s.drop (skipP s (f-1))) what).toNat)).length))
theorem xfind_ok {σ:ASt} (hM:MaxL σ) (what s:List UInt8) (f:Int) (hf:f.natAbs<=2000000) (hs:s.length<=1000000) :
  ACalls Tryz.prog 57 [.str what,.str s,.int .i64 f] σ fun v σ'=>v=(findP what s f).av/\σ'=σ:=by
 have h1:=xcount_ok s (by omega)
 have h2:=xskip_ok s (f-1) (by omega)
 have hk:=skipP_le s (f-1)
 have hpl:=pcs_len s
 obtain ⟨R,hR⟩:∃ R,findP what s f=R:=⟨_,rfl⟩
 rw [hR]
 unfold findP at hR
 have hl1:(s.drop (skipP s (f-1))).length=s.length-skipP s (f-1):=List.length_drop
 have h3:=sindexg_ok hM (s.drop (skipP s (f-1))) what (by omega)
 have hroom:=Lib.index_room (s.drop (skipP s (f-1))) what
 generalize hK:skipP s (f-1)=K at *
 by_cases c1:f<1
 ·rw [if_pos (.inl c1)] at hR
  subst hR
  refine a57 (by simp) ?_
  simp only [PV.av]
  simp (disch:=first|assumption|omega|(simp only [List.length_append,List.length_cons,List.length_nil];omega)) only [go_sem,c1]
  exact retC_by (.refl _) (.refl _) ⟨rfl,rfl⟩
 by_cases c2:((pcs s).length:Int)+1<f
 ·rw [if_pos (.inr c2)] at hR
  subst hR
  refine a57 (by simp) ?_
  simp only [PV.av]
  simp (disch:=first|assumption|omega|(simp only [List.length_append,List.length_cons,List.length_nil];omega)) only [go_sem,c1]
  refine h1.use ?_
  simp (disch:=first|assumption|omega|(simp only [List.length_append,List.length_cons,List.length_nil];omega)) only [go_sem,c1,c2]
  exact retC_by (.refl _) (.refl _) ⟨rfl,rfl⟩
 rw [if_neg (by omega)] at hR
 have hKi:(K:Int)<=s.length:=by omega
 by_cases c3:Lib.index (s.drop K) what<0
 ·rw [if_pos c3] at hR
  subst hR
  generalize Lib.index (s.drop K) what=I at *
  refine a57 (by simp) ?_
  simp only [PV.av]
  simp (disch:=first|assumption|omega|(simp only [List.length_append,List.length_cons,List.length_nil];omega)) only [go_sem,c1]
  refine h1.use ?_
  simp (disch:=first|assumption|omega|(simp only [List.length_append,List.length_cons,List.length_nil];omega)) only [go_sem,c1,c2]
  refine h2.use ?_
  simp (disch:=first|assumption|omega|(simp only [List.length_append,List.length_cons,List.length_nil];omega)) only [go_sem,hKi,List.take_length]
  refine h3.mono ?_
  rintro v σ' ⟨rfl,rfl⟩
  simp (disch:=first|assumption|omega|(simp only [List.length_append,List.length_cons,List.length_nil];omega)) only [go_sem,c3]
  exact retC_by (.refl _) (.refl _) ⟨rfl,rfl⟩
 ·rw [if_neg c3] at hR
  have hr:=hroom (by omega)
  obtain ⟨i,hi⟩:∃ i:Nat,Lib.index (s.drop K) what=i:=⟨(Lib.index (s.drop K) what).toNat,by omega⟩
  rw [hi] at hR h3 hr
  rw [Int.toNat_natCast] at hR
  have hpl2:=pcs_len ((s.drop K).take i)
  have hl2:((s.drop K).take i).length<=s.length:=by rw [List.length_take,hl1];omega
  have h4:=xcount_ok ((s.drop K).take i) (by omega)
  have h5:=int_ok (f+(pcs ((s.drop K).take i)).length) (by omega) (by omega)
  have h6:=counted_ok (intP (f+(pcs ((s.drop K).take i)).length))
  have e1:((K:Int)+i).toNat=K+i:=by omega
  have e2:(K:Int)<=(K:Int)+i:=by omega
  have e3:(K:Int)+i<=s.length:=by omega
  have e4:(s.take (K+i)).drop K=(s.drop K).take i:=by rw [List.drop_take];congr 1;omega
  have e5:¬ ((i:Int)<0):=by omega
  unfold resAV at h5
  generalize hQ:(s.drop K).take i=Q at *
  generalize intP (f+(pcs Q).length)=O at *
  subst hR
  refine a57 (by simp) ?_
  simp (disch:=first|assumption|omega|(simp only [List.length_append,List.length_cons,List.length_nil];omega)) only [go_sem,c1]
  refine h1.use ?_
  simp (disch:=first|assumption|omega|(simp only [List.length_append,List.length_cons,List.length_nil];omega)) only [go_sem,c1,c2]
  refine h2.use ?_
  simp (disch:=first|assumption|omega|(simp only [List.length_append,List.length_cons,List.length_nil];omega)) only [go_sem,hKi,List.take_length]
  refine h3.mono ?_
  rintro v σ' ⟨rfl,rfl⟩
  simp (disch:=first|assumption|omega|(simp only [List.length_append,List.length_cons,List.length_nil];omega)) only [go_sem,e1,e2,e3,e4,e5]
  refine h4.use ?_
  simp (disch:=first|assumption|omega|(simp only [List.length_append,List.length_cons,List.length_nil];omega)) only [go_sem]
  refine h5.use ?_
  simp (disch:=first|assumption|omega|(simp only [List.length_append,List.length_cons,List.length_nil];omega)) only [go_sem]
  refine h6.use ?_
  simp (disch:=first|assumption|omega|(simp only [List.length_append,List.length_cons,List.length_nil];omega)) only [go_sem]
  exact retC_by (.refl _) (.refl _) ⟨rfl,rfl⟩
/-! Boundaries of signs. -/
theorem dec_cont (c:UInt8) (t:List UInt8) (h:c.toNat / 64=2):decodeL (c::t)=(65533,1):=by
 rw [decodeL_N]
 have e:((c::t).getD 0 0).toNat=c.toNat:=rfl
 rw [e]
 unfold decodeN
 rw [if_neg (by omega),if_neg (by omega),if_neg (by omega),if_neg (by omega)]
theorem vp_head {q:List UInt8} (h:VP q):Stop q:=by
 intro c y e hc
 subst e
 exact h.2.1 (dec_cont c y hc)
theorem vp_mid {q:List UInt8} (h:VP q) {r:Nat} (h0:0<r) (hr:r<q.length):¬ Stop (q.drop r):=by
 intro hs
 have hne:q.take r ≠ []:=by
  intro e
  have:=congrArg List.length e
  rw [List.length_take,List.length_nil] at this
  omega
 have hd:=decode_local hne hs
 rw [List.take_append_drop] at hd
 have hle:=decodeL_le (q.take r) hne
 rw [<-hd,h.2.2,List.length_take] at hle
 omega
theorem stop_app {x y:List UInt8} (hx:x ≠ []) (h:Stop (x++y)):Stop x:=by
 intro c t e
 exact h c (t++y) (by rw [e];rfl)
theorem bound:∀ (P:List (List UInt8)) (p:Nat),(∀ q∈P,VP q)->p<=P.flatten.length->Stop (P.flatten.drop p)->∃ j,j<=P.length/\p=(P.take j).flatten.length
 | [],p,_,hp,_=>⟨0,Nat.le_refl _,by simpa using hp⟩
 | q::P,p,hP,hp,hs=>by
   rcases Nat.eq_zero_or_pos p with h0|h0
   ·exact ⟨0,Nat.zero_le _,by simpa using h0⟩
   rcases Nat.lt_or_ge p q.length with h1|h1
   ·exfalso
    rw [List.flatten_cons,List.drop_append_of_le_length (by omega)] at hs
    refine vp_mid (hP q (by simp)) h0 h1 (stop_app ?_ hs)
    intro e
    have:=congrArg List.length e
    rw [List.length_drop] at this
    simp at this
    omega
   ·obtain ⟨p',rfl⟩:∃ p',p=q.length+p':=⟨p-q.length,by omega⟩
    rw [List.flatten_cons,List.drop_append,List.drop_of_length_le (by omega),List.nil_append,show q.length+p'-q.length=p' by omega] at hs
    rw [List.flatten_cons,List.length_append] at hp
    obtain ⟨j,hj,e⟩:=bound P p' (fun x hx=>hP x (by simp [hx])) (by omega) hs
    refine ⟨j+1,by simp only [List.length_cons];omega,?_⟩
    rw [List.take_succ_cons,List.flatten_cons,List.length_append]
    omega
theorem whole_stop {s:List UInt8} (h:Whole s) (y:List UInt8) (hs:s ≠ []):Stop (s++y):=by
 have e:=pcs_step hs
 have hv:=h (s.take (decodeL s).2) (by rw [e];exact List.mem_cons_self)
 have hst:=vp_head hv
 intro c t he
 obtain ⟨d,u,rfl⟩:∃ d u,s=d::u:=by
  cases s with
  | nil=>exact absurd rfl hs
  | cons d u=>exact ⟨d,u,rfl⟩
 rw [List.cons_append] at he
 injection he with h1 h2
 subst h1
 have hw:=decodeL_width (d::u)
 obtain ⟨w,hw'⟩:∃ w,(decodeL (d::u)).2=w+1:=⟨(decodeL (d::u)).2-1,by omega⟩
 rw [hw',List.take_succ_cons] at hst
 exact hst d _ rfl
theorem skip_lt {t:List UInt8} {j k:Nat} (hjk:j<k) (hk:k<=(pcs t).length):skipP t j<skipP t k:=by
 unfold skipP
 rw [Int.toNat_natCast,Int.toNat_natCast]
 have hj:j<(pcs t).length:=by omega
 have e:(pcs t).take k=(pcs t).take (j+1)++((pcs t).drop (j+1)).take (k-(j+1)):=by
  rw [<-List.take_add]
  congr 1
  omega
 rw [e,List.take_succ_eq_append_getElem hj,List.flatten_append,List.flatten_append,List.length_append,List.length_append]
 have hne:=pcs_ne t (pcs t)[j] (List.getElem_mem _)
 have:0<([(pcs t)[j]].flatten).length:=by
  rw [List.flatten_cons,List.flatten_nil,List.append_nil]
  exact List.length_pos_iff.2 hne
 omega
end Go.A
namespace Go.A
open Go.Proofs
/-! 24: tabular/tabularref17.Bytes -/
def c24_26:ACode := .seq (.seq (.ops [ oq 3 (.mv (.t 0)),oq 4 (.bin .lss (.t 3) (.v (.int .i64 1))),oq 5 (.mv (.t 4)),⟨some 6,some (5,false),.q (.mv (.t 0)),[]⟩,⟨some 7,some (5,false),.q (.bin .gtr (.t 6) (.v (.int .i64 1114111))),[]⟩,oq 8 (.pick (.t 5) (.v (.bool true)) (.t 7)),oq 9 (.mv (.t 8)),⟨some 10,some (9,false),.q (.mv (.t 0)),[]⟩,⟨some 11,some (9,false),.q (.bin .geq (.t 10) (.v (.int .i64 55296))),[]⟩,⟨some 12,some (9,false),.q (.mv (.t 11)),[]⟩,⟨some 13,some (12,true),.q (.mv (.t 0)),[]⟩,⟨some 14,some (12,true),.q (.bin .leq (.t 13) (.v (.int .i64 57343))),[]⟩,⟨some 15,some (9,false),.q (.pick (.t 12) (.t 14) (.v (.bool false))),[]⟩,oq 16 (.pick (.t 9) (.v (.bool true)) (.t 15))]) (.cond (.t 16) (.seq (.ops [ oq 2 (.mv (.v (.str [])))]) .ret) .skip)) (.seq (.seq (.ops [ oq 17 (.mv (.t 0)),oq 18 (.bin .lss (.t 17) (.v (.int .i64 128)))]) (.cond (.t 18) (.seq (.ops [ oq 19 (.mv (.t 0)),oq 20 (.conv .u8 (.t 19)),oq 21 (.bsl 1 [(.t 20)]),oq 22 (.b2s (.t 21)),oq 2 (.mv (.t 22))]) .ret) .skip)) (.seq (.seq (.ops [ oq 23 (.mv (.t 0)),oq 24 (.bin .lss (.t 23) (.v (.int .i64 2048)))]) (.cond (.t 24) (.seq (.ops [ oq 25 (.mv (.t 0)),oq 26 (.bin .quo (.t 25) (.v (.int .i64 64))),oq 27 (.bin .add (.v (.int .i64 192)) (.t 26)),oq 28 (.conv .u8 (.t 27)),oq 29 (.mv (.t 0)),oq 30 (.bin .rem (.t 29) (.v (.int .i64 64))),oq 31 (.bin .add (.v (.int .i64 128)) (.t 30)),oq 32 (.conv .u8 (.t 31)),oq 33 (.bsl 1 [(.t 28),(.t 32)]),oq 34 (.b2s (.t 33)),oq 2 (.mv (.t 34))]) .ret) .skip)) (.seq (.seq (.ops [ oq 35 (.mv (.t 0)),oq 36 (.bin .lss (.t 35) (.v (.int .i64 65536)))]) (.cond (.t 36) (.seq (.ops [ oq 37 (.mv (.t 0)),oq 38 (.bin .quo (.t 37) (.v (.int .i64 4096))),oq 39 (.bin .add (.v (.int .i64 224)) (.t 38)),oq 40 (.conv .u8 (.t 39)),oq 41 (.mv (.t 0)),oq 42 (.bin .quo (.t 41) (.v (.int .i64 64))),oq 43 (.bin .rem (.t 42) (.v (.int .i64 64))),oq 44 (.bin .add (.v (.int .i64 128)) (.t 43)),oq 45 (.conv .u8 (.t 44)),oq 46 (.mv (.t 0)),oq 47 (.bin .rem (.t 46) (.v (.int .i64 64))),oq 48 (.bin .add (.v (.int .i64 128)) (.t 47)),oq 49 (.conv .u8 (.t 48)),oq 50 (.bsl 1 [(.t 40),(.t 45),(.t 49)]),oq 51 (.b2s (.t 50)),oq 2 (.mv (.t 51))]) .ret) .skip)) (.seq (.ops [ oq 52 (.mv (.t 0)),oq 53 (.bin .quo (.t 52) (.v (.int .i64 262144))),oq 54 (.bin .add (.v (.int .i64 240)) (.t 53)),oq 55 (.conv .u8 (.t 54)),oq 56 (.mv (.t 0)),oq 57 (.bin .quo (.t 56) (.v (.int .i64 4096))),oq 58 (.bin .rem (.t 57) (.v (.int .i64 64))),oq 59 (.bin .add (.v (.int .i64 128)) (.t 58)),oq 60 (.conv .u8 (.t 59)),oq 61 (.mv (.t 0)),oq 62 (.bin .quo (.t 61) (.v (.int .i64 64))),oq 63 (.bin .rem (.t 62) (.v (.int .i64 64))),oq 64 (.bin .add (.v (.int .i64 128)) (.t 63)),oq 65 (.conv .u8 (.t 64)),oq 66 (.mv (.t 0)),oq 67 (.bin .rem (.t 66) (.v (.int .i64 64))),oq 68 (.bin .add (.v (.int .i64 128)) (.t 67)),oq 69 (.conv .u8 (.t 68)),oq 70 (.bsl 1 [(.t 55),(.t 60),(.t 65),(.t 69)]),oq 71 (.b2s (.t 70)),oq 2 (.mv (.t 71))]) .ret))))
def c24_27:ACode := .seq (.ops [ oq 2 (.mv (.v (.str [])))]) c24_26
@[go_sem] def c24_26_wp:=wp_of c24_26.eq_1
@[go_sem] def c24_27_wp:=wp_of c24_27.eq_1
def c24:AFn:=⟨72,[.t 2],c24_27⟩
theorem c24_ok:compF Tryz.prog Tryz.f24=some c24:=by kernel_rfl
theorem a24 {args:List AV} {σ:ASt} {R:AV->ASt->Prop} (hl:args.length<=72) (h:c24_27.wp Tryz.prog (RetQ [.t 2] R) (init args) σ):ACalls Tryz.prog 24 args σ R:=acalls_of Tryz.func24 c24_ok hl h
/-! 35: tabular/tabularref17.trim -/
def c35_13:ACode := .seq (.seq (.ops [ oq 5 (.mv (.t 4)),oq 6 (.mv (.t 0)),oq 7 (.lenS (.t 6)),oq 8 (.bin .lss (.t 5) (.t 7))]) (.cond (.t 8) .skip (.exit 0))) (.seq (.block 1 (.seq (.ops [ oq 11 (.mv (.t 0)),oq 12 (.mv (.t 4)),oq 13 (.idx (.t 11) (.t 12)),oq 14 (.bin .neq (.t 13) (.v (.int .u8 32))),oq 15 (.mv (.t 14)),⟨some 16,some (15,false),.q (.mv (.t 4)),[]⟩,⟨some 17,some (15,false),.q (.bin .gtr (.t 16) (.v (.int .i64 0))),[]⟩,⟨some 18,some (15,false),.q (.mv (.t 17)),[]⟩,⟨some 19,some (18,true),.q (.mv (.t 0)),[]⟩,⟨some 20,some (18,true),.q (.mv (.t 4)),[]⟩,⟨some 21,some (18,true),.q (.bin .sub (.t 20) (.v (.int .i64 1))),[]⟩,⟨some 22,some (18,true),.q (.idx (.t 19) (.t 21)),[]⟩,⟨some 23,some (18,true),.q (.bin .neq (.t 22) (.v (.int .u8 32))),[]⟩,⟨some 24,some (15,false),.q (.pick (.t 18) (.t 23) (.v (.bool false))),[]⟩,oq 25 (.pick (.t 15) (.v (.bool true)) (.t 24))]) (.cond (.t 25) (.ops [ oq 26 (.mv (.t 3)),oq 27 (.mv (.t 0)),oq 28 (.mv (.t 4)),oq 29 (.mv (.t 4)),oq 30 (.bin .add (.t 29) (.v (.int .i64 1))),oq 31 (.sls (true,0) (.t 27) (.t 28) (.t 30)),oq 32 (.bin .add (.t 26) (.t 31)),oq 3 (.mv (.t 32))]) .skip))) (.ops [ oq 9 (.mv (.t 4)),oq 10 (.bin .add (.t 9) (.v (.int .i64 1))),oq 4 (.mv (.t 10))]))
def c35_21:ACode := .seq (.ops [ oq 2 (.mv (.v (.str [])))]) (.seq (.ops [ oq 3 (.mv (.v (.str [])))]) (.seq (.seq (.ops [ oq 4 (.mv (.v (.int .i64 0)))]) (.block 0 (.loop c35_13))) (.seq (.ops [ oq 33 (.mv (.t 3)),oe 34 (.call 66 [(.t 33)]),oq 2 (.mv (.t 34))]) .ret)))
@[go_sem] def c35_13_wp:=wp_of c35_13.eq_1
@[go_sem] def c35_21_wp:=wp_of c35_21.eq_1
def c35:AFn:=⟨35,[.t 2],c35_21⟩
theorem c35_ok:compF Tryz.prog Tryz.f35=some c35:=by kernel_rfl
theorem a35 {args:List AV} {σ:ASt} {R:AV->ASt->Prop} (hl:args.length<=35) (h:c35_21.wp Tryz.prog (RetQ [.t 2] R) (init args) σ):ACalls Tryz.prog 35 args σ R:=acalls_of Tryz.func35 c35_ok hl h
/-! 36: tabular/tabularref17.code -/
def c36_24:ACode := .seq (.seq (.ops [ oq 25 (.mv (.t 5)),oq 26 (.mv (.t 0)),oq 27 (.lenS (.t 26)),oq 28 (.bin .lss (.t 25) (.t 27))]) (.cond (.t 28) .skip (.exit 0))) (.seq (.block 1 (.ops [ oq 31 (.mv (.t 4)),oq 32 (.bin .mul (.v (.int .i64 64)) (.t 31)),oq 33 (.mv (.t 0)),oq 34 (.mv (.t 5)),oq 35 (.idx (.t 33) (.t 34)),oq 36 (.conv .i64 (.t 35)),oq 37 (.bin .rem (.t 36) (.v (.int .i64 64))),oq 38 (.bin .add (.t 32) (.t 37)),oq 4 (.mv (.t 38))])) (.ops [ oq 29 (.mv (.t 5)),oq 30 (.bin .add (.t 29) (.v (.int .i64 1))),oq 5 (.mv (.t 30))]))
def c36_30:ACode := .seq (.seq (.ops [ oq 5 (.mv (.v (.int .i64 1)))]) (.block 0 (.loop c36_24))) (.seq (.ops [ oq 39 (.mv (.t 4)),oq 2 (.mv (.t 39))]) .ret)
def c36_36:ACode := .seq (.ops [ oq 2 (.mv (.v (.int .i64 0)))]) (.seq (.ops [ oq 6 (.mv (.t 0)),oq 7 (.idx (.t 6) (.v (.int .i64 0))),oq 8 (.conv .i64 (.t 7)),oq 3 (.mv (.t 8))]) (.seq (.seq (.ops [ oq 9 (.mv (.t 0)),oq 10 (.lenS (.t 9)),oq 11 (.bin .eql (.t 10) (.v (.int .i64 1)))]) (.cond (.t 11) (.seq (.ops [ oq 12 (.mv (.t 3)),oq 2 (.mv (.t 12))]) .ret) .skip)) (.seq (.ops [ oq 13 (.mv (.t 3)),oq 14 (.bin .rem (.t 13) (.v (.int .i64 32))),oq 4 (.mv (.t 14))]) (.seq (.seq (.ops [ oq 15 (.mv (.t 0)),oq 16 (.lenS (.t 15)),oq 17 (.bin .eql (.t 16) (.v (.int .i64 3)))]) (.cond (.t 17) (.ops [ oq 18 (.mv (.t 3)),oq 19 (.bin .rem (.t 18) (.v (.int .i64 16))),oq 4 (.mv (.t 19))]) .skip)) (.seq (.seq (.ops [ oq 20 (.mv (.t 0)),oq 21 (.lenS (.t 20)),oq 22 (.bin .eql (.t 21) (.v (.int .i64 4)))]) (.cond (.t 22) (.ops [ oq 23 (.mv (.t 3)),oq 24 (.bin .rem (.t 23) (.v (.int .i64 8))),oq 4 (.mv (.t 24))]) .skip)) c36_30)))))
@[go_sem] def c36_24_wp:=wp_of c36_24.eq_1
@[go_sem] def c36_30_wp:=wp_of c36_30.eq_1
@[go_sem] def c36_36_wp:=wp_of c36_36.eq_1
def c36:AFn:=⟨40,[.t 2],c36_36⟩
theorem c36_ok:compF Tryz.prog Tryz.f36=some c36:=by kernel_rfl
theorem a36 {args:List AV} {σ:ASt} {R:AV->ASt->Prop} (hl:args.length<=40) (h:c36_36.wp Tryz.prog (RetQ [.t 2] R) (init args) σ):ACalls Tryz.prog 36 args σ R:=acalls_of Tryz.func36 c36_ok hl h
end Go.A
namespace Go.A
open Go.Proofs Go.Lib
theorem wr8 {k:Nat} (hk:k<256):IntKind.u8.wrap (k:Int)=((UInt8.ofNat k).toNat:Int):=by
 rw [u8_nat hk,IntKind.wrap_u8];omega
theorem wr8s {x k:Nat} (hk:x+k<256):IntKind.u8.wrap ((x:Int)+k)=((UInt8.ofNat (x+k)).toNat:Int):=by
 rw [u8_nat hk,IntKind.wrap_u8];omega
set_option maxHeartbeats 1000000 in
theorem rbytes_ok (n:Int):Pure Tryz.prog 24 [.int .i64 n] (.str (if noSign n then [] else encU n)):=by
 intro σ
 refine a24 (by simp) ?_
 by_cases c1:n<1
 ·rw [if_pos (.inl c1)]
  simp (disch:=first|assumption|omega|(simp only [List.length_append,List.length_cons,List.length_nil];omega)) only [go_sem,c1]
  exact retC_by (by repeat' (first|exact Drop.refl _|with_reducible refine Drop.off ?_ (by assumption))) (.refl _) ⟨rfl,rfl⟩
 by_cases c2:1114111<n
 ·rw [if_pos (.inr (.inl c2))]
  simp (disch:=first|assumption|omega|(simp only [List.length_append,List.length_cons,List.length_nil];omega)) only [go_sem,c1,c2]
  exact retC_by (by repeat' (first|exact Drop.refl _|with_reducible refine Drop.off ?_ (by assumption))) (.refl _) ⟨rfl,rfl⟩
 by_cases c3:55296<=n/\n<=57343
 ·rw [if_pos (.inr (.inr c3))]
  obtain ⟨c4,c5⟩:=c3
  simp (disch:=first|assumption|omega|(simp only [List.length_append,List.length_cons,List.length_nil];omega)) only [go_sem,c1,c2,c4,c5]
  exact retC_by (by repeat' (first|exact Drop.refl _|with_reducible refine Drop.off ?_ (by assumption))) (.refl _) ⟨rfl,rfl⟩
 rw [if_neg (fun h=>by rcases h with h|h|h;exact c1 h;exact c2 h;exact c3 h)]
 obtain ⟨c,rfl⟩:∃ c:Nat,n=c:=⟨n.toNat,by omega⟩
 have hv:c<55296\/(57343<c/\c<=1114111):=by omega
 have q1:(c:Int).tdiv 64=((c / 64:Nat):Int):=rfl
 have q2:(c:Int).tdiv 4096=((c / 4096:Nat):Int):=rfl
 have q3:(c:Int).tdiv 262144=((c / 262144:Nat):Int):=rfl
 have q4:(c:Int).tmod 64=((c % 64:Nat):Int):=rfl
 have q5:((c / 64:Nat):Int).tmod 64=((c / 64 % 64:Nat):Int):=rfl
 have q6:((c / 4096:Nat):Int).tmod 64=((c / 4096 % 64:Nat):Int):=rfl
 have hh:((55296<=(c:Int))=False)\/((55296<=(c:Int))=True/\((c:Int)<=57343)=False):=by
  by_cases h:55296<=(c:Int)
  ·exact .inr ⟨eq_true h,eq_false (by omega)⟩
  ·exact .inl (eq_false h)
 rcases encU_cases hv with ⟨h1,e⟩|⟨h1,h2,e⟩|⟨h1,h2,e⟩|⟨h1,h2,e⟩
 ·rw [e]
  have g1:(c:Int)<128:=by omega
  have g4:¬ 55296<=(c:Int):=by omega
  have w1:=wr8 (k:=c) (by omega)
  have hb:=bytesOf_bytesAV [UInt8.ofNat c]
  simp only [bytesAV,List.map_cons,List.map_nil] at hb
  generalize UInt8.ofNat c=b1 at *
  simp (disch:=first|assumption|omega|(simp only [List.length_append,List.length_cons,List.length_nil];omega)) only [go_sem,c1,c2,g4,g1,w1,hb]
  exact retC_by (by repeat' (first|exact Drop.refl _|with_reducible refine Drop.off ?_ (by assumption))) (.refl _) ⟨rfl,rfl⟩
 ·rw [e]
  have g1:¬ (c:Int)<128:=by omega
  have g2:(c:Int)<2048:=by omega
  have g4:¬ 55296<=(c:Int):=by omega
  have w1:=wr8s (x:=192) (k:=c / 64) (by omega)
  have w2:=wr8s (x:=128) (k:=c % 64) (by omega)
  rw [show ((192:Nat):Int)=192 from rfl] at w1
  rw [show ((128:Nat):Int)=128 from rfl] at w2
  have hb:=bytesOf_bytesAV [UInt8.ofNat (192+c / 64),UInt8.ofNat (128+c % 64)]
  simp only [bytesAV,List.map_cons,List.map_nil] at hb
  generalize UInt8.ofNat (192+c / 64)=b1 at *
  generalize UInt8.ofNat (128+c % 64)=b2 at *
  simp (disch:=first|assumption|omega|(simp only [List.length_append,List.length_cons,List.length_nil];omega)) only [go_sem,c1,c2,g4,g1,g2,q1,q4,w1,w2,hb]
  exact retC_by (by repeat' (first|exact Drop.refl _|with_reducible refine Drop.off ?_ (by assumption))) (.refl _) ⟨rfl,rfl⟩
 ·rw [e]
  have g1:¬ (c:Int)<128:=by omega
  have g2:¬ (c:Int)<2048:=by omega
  have g3:(c:Int)<65536:=by omega
  have w1:=wr8s (x:=224) (k:=c / 4096) (by omega)
  have w2:=wr8s (x:=128) (k:=c / 64 % 64) (by omega)
  have w3:=wr8s (x:=128) (k:=c % 64) (by omega)
  rw [show ((224:Nat):Int)=224 from rfl] at w1
  rw [show ((128:Nat):Int)=128 from rfl] at w2 w3
  have hb:=bytesOf_bytesAV [UInt8.ofNat (224+c / 4096),UInt8.ofNat (128+c / 64 % 64),UInt8.ofNat (128+c % 64)]
  simp only [bytesAV,List.map_cons,List.map_nil] at hb
  generalize UInt8.ofNat (224+c / 4096)=b1 at *
  generalize UInt8.ofNat (128+c / 64 % 64)=b2 at *
  generalize UInt8.ofNat (128+c % 64)=b3 at *
  rcases hh with hh|⟨hh,hh2⟩
  ·simp (disch:=first|assumption|omega|(simp only [List.length_append,List.length_cons,List.length_nil];omega)) only [go_sem,c1,c2,hh,g1,g2,g3,q1,q2,q4,q5,w1,w2,w3,hb]
   exact retC_by (by repeat' (first|exact Drop.refl _|with_reducible refine Drop.off ?_ (by assumption))) (.refl _) ⟨rfl,rfl⟩
  ·simp (disch:=first|assumption|omega|(simp only [List.length_append,List.length_cons,List.length_nil];omega)) only [go_sem,c1,c2,hh,hh2,g1,g2,g3,q1,q2,q4,q5,w1,w2,w3,hb]
   exact retC_by (by repeat' (first|exact Drop.refl _|with_reducible refine Drop.off ?_ (by assumption))) (.refl _) ⟨rfl,rfl⟩
 ·rw [e]
  have g1:¬ (c:Int)<128:=by omega
  have g2:¬ (c:Int)<2048:=by omega
  have g3:¬ (c:Int)<65536:=by omega
  have w0:=wr8s (x:=240) (k:=c / 262144) (by omega)
  have w1:=wr8s (x:=128) (k:=c / 4096 % 64) (by omega)
  have w2:=wr8s (x:=128) (k:=c / 64 % 64) (by omega)
  have w3:=wr8s (x:=128) (k:=c % 64) (by omega)
  rw [show ((240:Nat):Int)=240 from rfl] at w0
  rw [show ((128:Nat):Int)=128 from rfl] at w1 w2 w3
  have hb:=bytesOf_bytesAV [UInt8.ofNat (240+c / 262144),UInt8.ofNat (128+c / 4096 % 64),UInt8.ofNat (128+c / 64 % 64),UInt8.ofNat (128+c % 64)]
  simp only [bytesAV,List.map_cons,List.map_nil] at hb
  generalize UInt8.ofNat (240+c / 262144)=b0 at *
  generalize UInt8.ofNat (128+c / 4096 % 64)=b1 at *
  generalize UInt8.ofNat (128+c / 64 % 64)=b2 at *
  generalize UInt8.ofNat (128+c % 64)=b3 at *
  rcases hh with hh|⟨hh,hh2⟩
  ·exact absurd (show 55296<=(c:Int) by omega) (of_eq_false hh)
  ·simp (disch:=first|assumption|omega|(simp only [List.length_append,List.length_cons,List.length_nil];omega)) only [go_sem,c1,c2,hh,hh2,g1,g2,g3,q1,q2,q3,q4,q5,q6,w0,w1,w2,w3,hb]
   exact retC_by (by repeat' (first|exact Drop.refl _|with_reducible refine Drop.off ?_ (by assumption))) (.refl _) ⟨rfl,rfl⟩
/-! The code point of a sign. -/
def codeM (m:Nat) (q:List UInt8):Nat:=q.foldl (fun n b=>64*n+b.toNat % 64) m
theorem codeM_snoc (m:Nat) (q:List UInt8) (b:UInt8):codeM m (q ++ [b])=64*codeM m q+b.toNat % 64:=by simp [codeM]
theorem codeM_lt:∀ (q:List UInt8) (m:Nat),codeM m q<(m+1)*64 ^ q.length
 | [],m=>by simp [codeM]
 | b::q,m=>by
   have ih:=codeM_lt q (64*m+b.toNat % 64)
   have e:codeM m (b::q)=codeM (64*m+b.toNat % 64) q:=rfl
   rw [e,List.length_cons,Nat.pow_succ,Nat.mul_comm (64 ^ q.length) 64,← Nat.mul_assoc]
   exact Nat.lt_of_lt_of_le ih (Nat.mul_le_mul_right _ (by omega))
def headM (q:List UInt8):Nat:=((q.headD 0).toNat) % (if q.length=3 then 16 else if q.length=4 then 8 else 32)
theorem code_enc {c:Nat} (hv:c<55296\/(57343<c/\c<=1114111)):(encU c).length=1/\encU c = [UInt8.ofNat c]/\c<128\/(2<=(encU c).length/\(encU c).length<=4/\codeM (headM (encU c)) ((encU c).drop 1)=c):=by
 have u:∀ k,k<256->(UInt8.ofNat k).toNat=k:=fun k hk=>by have:=u8_nat hk;omega
 rcases encU_cases hv with ⟨h1,e⟩|⟨h1,h2,e⟩|⟨h1,h2,e⟩|⟨h1,h2,e⟩
 ·left
  rw [e]
  exact ⟨rfl,rfl,h1⟩
 all_goals
  right
  rw [e]
  refine ⟨by simp,by simp,?_⟩
  simp only [headM,codeM,List.headD_cons,List.length_cons,List.length_nil,List.drop_succ_cons,List.drop_zero,List.foldl_cons,List.foldl_nil,Nat.reduceAdd,Nat.reduceEqDiff,↓reduceIte]
 ·rw [u _ (by omega),u _ (by omega)];omega
 ·rw [u _ (by omega),u _ (by omega),u _ (by omega)];omega
 ·rw [u _ (by omega),u _ (by omega),u _ (by omega),u _ (by omega)];omega
set_option maxHeartbeats 1000000 in
theorem rcode_ok {q:List UInt8} (h:VP q):Pure Tryz.prog 36 [.str q] (.int .i64 ((decodeL q).1:Nat)):=by
 intro σ
 have he:=vp_enc h
 have hv:=dec_valid q
 generalize (decodeL q).1=c at *
 have hc:=code_enc hv
 rw [he] at hc
 refine a36 (by simp) ?_
 rcases hc with ⟨h1,e,hlt⟩|⟨h2,h4,hcd⟩
 ·subst e
  have hx : [UInt8.ofNat c][0]? = some (UInt8.ofNat c):=rfl
  have hn:((UInt8.ofNat c).toNat:Int)=c:=u8_nat (by omega)
  have hw:IntKind.i64.wrap (c:Int)=c:=by rw [IntKind.wrap_i64];omega
  have hl:(([UInt8.ofNat c].length:Nat):Int)=1:=rfl
  generalize [UInt8.ofNat c]=q at *
  simp (disch:=first|assumption|omega|(simp only [List.length_append,List.length_cons,List.length_nil];omega)) only [go_sem,hx,hn,hw,hl]
  exact retC_by (by repeat' (first|exact Drop.refl _|with_reducible refine Drop.off ?_ (by assumption))) (.refl _) ⟨rfl,rfl⟩
 obtain ⟨b,hx⟩:∃ b,q[0]? = some b:=⟨_,List.getElem?_eq_getElem (by omega)⟩
 obtain ⟨m,hm⟩:∃ m,headM q=m:=⟨_,rfl⟩
 rw [hm] at hcd
 have hbl:=u8_lt b
 have hm2:m=b.toNat % (if q.length=3 then 16 else if q.length=4 then 8 else 32):=by
  rw [<-hm]
  unfold headM
  cases q with
  | nil=>simp at h2
  | cons d t=>
    simp only [List.getElem?_cons_zero,Option.some.injEq] at hx
    subst hx
    rfl
 have hml:m<32:=by
  rw [hm2]
  split
  ·omega
  ·split<;>omega
 have hw:IntKind.i64.wrap (b.toNat:Int)=b.toNat:=by rw [IntKind.wrap_i64];omega
 have l1:¬ (q.length:Int)=1:=by omega
 have t32:(b.toNat:Int).tmod 32=((b.toNat % 32:Nat):Int):=rfl
 have t16:(b.toNat:Int).tmod 16=((b.toNat % 16:Nat):Int):=rfl
 have t8:(b.toNat:Int).tmod 8=((b.toNat % 8:Nat):Int):=rfl
 obtain ⟨G,hG⟩:∃ G,G=ACode.wp Tryz.prog c36_30:=⟨_,rfl⟩
 have hgo:∀ a:AFr,(a 0 = .str q/\a 4 = .int .i64 (m:Int))->G (RetQ [.t 2] fun v σ'=>v = .int .i64 (c:Int)/\σ'=σ) a σ:=by
  intro a hf
  rw [hG]
  simp (disch:=first|assumption|omega|(simp only [List.length_append,List.length_cons,List.length_nil];omega)) only [go_sem,hf]
  refine wp_loop_on (fun (i:Nat) a s1=>1<=i/\i<=q.length/\(a 0 = .str q/\a 4 = .int .i64 (codeM m ((q.take i).drop 1):Nat)/\a 5 = .int .i64 i)/\s1=σ) (fun i=>q.length-i) 1 ⟨Nat.le_refl _,by omega,?_,rfl⟩ ?_
  ·have e1:(q.take 1).drop 1 = []:=List.drop_eq_nil_of_le (by rw [List.length_take];omega)
   rw [e1]
   simp (disch:=first|assumption|omega|(simp only [List.length_append,List.length_cons,List.length_nil];omega)) only [go_sem,hf]
   rfl
  rintro i a1 s1 ⟨hi1,hi,hf,rfl⟩
  by_cases hlt:i<q.length
  ·have hlt':(i:Int)<q.length:=by omega
   obtain ⟨d,hd⟩:∃ d,q[i]? = some d:=⟨_,List.getElem?_eq_getElem hlt⟩
   have e1:(q.take (i+1)).drop 1=(q.take i).drop 1 ++ [d]:=by
    rw [List.take_add_one,hd,List.drop_append_of_le_length (by rw [List.length_take];omega)]
    rfl
   have hcl:=codeM_lt ((q.take (i+1)).drop 1) m
   have hll:((q.take (i+1)).drop 1).length<=3:=by rw [List.length_drop,List.length_take];omega
   have hpw:64 ^ ((q.take (i+1)).drop 1).length<=64 ^ 3:=Nat.pow_le_pow_right (by decide) hll
   have hmul:(m+1)*64 ^ ((q.take (i+1)).drop 1).length<=32*64 ^ 3:=Nat.mul_le_mul (by omega) hpw
   have hnum:32*64 ^ 3=8388608:=by decide
   have hsn:=codeM_snoc m ((q.take i).drop 1) d
   rw [<-e1] at hsn
   have hdl:=u8_lt d
   have hw2:IntKind.i64.wrap (d.toNat:Int)=d.toNat:=by rw [IntKind.wrap_i64];omega
   have td:(d.toNat:Int).tmod 64=((d.toNat % 64:Nat):Int):=rfl
   obtain ⟨B,hB⟩:∃ B,codeM m ((q.take (i+1)).drop 1)=B:=⟨_,rfl⟩
   rw [hB] at hcl hsn
   generalize codeM m ((q.take i).drop 1)=A at *
   have hsum:64*(A:Int)+((d.toNat % 64:Nat):Int)=B:=by omega
   simp (disch:=first|assumption|omega|(simp only [List.length_append,List.length_cons,List.length_nil];omega)) only [go_sem,hf,hlt',hd,hw2,td,hsum]
   refine ⟨i+1,by omega,by omega,by omega,?_,rfl⟩
   rw [hB]
  ·have hlt':¬ (i:Int)<q.length:=by omega
   rw [List.take_of_length_le (by omega),hcd] at hf
   simp (disch:=first|assumption|omega|(simp only [List.length_append,List.length_cons,List.length_nil];omega)) only [go_sem,hf,hlt']
   exact retC_by (by repeat' (first|exact Drop.refl _|with_reducible refine Drop.off ?_ (by assumption))) (.refl _) ⟨rfl,rfl⟩
 by_cases l3:q.length=3
 ·have l3':(q.length:Int)=3:=by omega
  have l4':¬ (q.length:Int)=4:=by omega
  rw [if_pos l3] at hm2
  simp (disch:=first|assumption|omega|(simp only [List.length_append,List.length_cons,List.length_nil];omega)) only [go_sem,hx,hw,l1,l3',l4',t32,t16,t8,←hG]
  refine hgo _ ?_
  rw [hm2]
  simp (disch:=first|assumption|omega|(simp only [List.length_append,List.length_cons,List.length_nil];omega)) only [go_sem]
 ·rw [if_neg l3] at hm2
  have l3':¬ (q.length:Int)=3:=by omega
  by_cases l4:q.length=4
  ·rw [if_pos l4] at hm2
   have l4':(q.length:Int)=4:=by omega
   simp (disch:=first|assumption|omega|(simp only [List.length_append,List.length_cons,List.length_nil];omega)) only [go_sem,hx,hw,l1,l3',l4',t32,t16,t8,←hG]
   refine hgo _ ?_
   rw [hm2]
   simp (disch:=first|assumption|omega|(simp only [List.length_append,List.length_cons,List.length_nil];omega)) only [go_sem]
  ·rw [if_neg l4] at hm2
   have l4':¬ (q.length:Int)=4:=by omega
   simp (disch:=first|assumption|omega|(simp only [List.length_append,List.length_cons,List.length_nil];omega)) only [go_sem,hx,hw,l1,l3',l4',t32,t16,t8,←hG]
   refine hgo _ ?_
   rw [hm2]
   simp (disch:=first|assumption|omega|(simp only [List.length_append,List.length_cons,List.length_nil];omega)) only [go_sem]
/-! Blanks: the document drops one behind one,then those at the ends. -/
def dupT:Bool->List UInt8->List UInt8
 | _,[] => []
 | p,c::r=>if c≠32\/p=true then c::dupT (decide (c≠32)) r else dupT (decide (c≠32)) r
theorem dupT_len:∀ (p:Bool) (s:List UInt8),(dupT p s).length<=s.length
 | _,[]=>Nat.le_refl _
 | p,c::r=>by
   rw [dupT]
   have:=dupT_len (decide (c≠32)) r
   split<;>simp only [List.length_cons]<;>omega
theorem dupT_word:∀ (w:List UInt8) (p:Bool),(∀ b∈w,b≠32)->dupT p w=w
 | [],_,_=>rfl
 | c::r,p,h=>by
   rw [dupT,if_pos (.inl (h c List.mem_cons_self)),dupT_word r _ fun b hb=>h b (List.mem_cons_of_mem _ hb)]
theorem dupT_app:∀ (w x:List UInt8) (p:Bool),(∀ b∈w,b≠32)->dupT p (w++32::x)=w++if w ≠ []\/p=true then 32::dupT false x else dupT false x
 | [],x,p,_=>by
   rw [List.nil_append,List.nil_append,dupT]
   by_cases hp:p=true
   ·rw [if_pos (.inr hp),if_pos (.inr hp)];rfl
   ·rw [if_neg (by simp [hp]),if_neg (by simp [hp])];rfl
 | c::r,x,p,h=>by
   have hc:=h c List.mem_cons_self
   rw [List.cons_append,dupT,if_pos (.inl hc),dupT_app r x _ fun b hb=>h b (List.mem_cons_of_mem _ hb),decide_eq_true hc,if_pos (.inr rfl),if_pos (.inl (by simp))]
   rfl
theorem split_back:∀ s:List UInt8,Lib.join (splitP s) [32]=s
 | []=>rfl
 | c::l=>by
   have ih:=split_back l
   rw [splitP]
   split
   ·rename_i h
    obtain ⟨x,r,e⟩:∃ x r,splitP l=x::r:=by
     cases hs:splitP l with
     | nil=>exact absurd hs (splitP_ne l)
     | cons x r=>exact ⟨x,r,rfl⟩
    rw [e,Lib.join_cons] at ih
    rw [e,h,Lib.join_cons]
    simp [Lib.joinTail,← ih]
   ·split
    ·rename_i e
     exact absurd e (splitP_ne l)
    ·rename_i h t e
     rw [e,Lib.join_cons] at ih
     rw [Lib.join_cons,List.cons_append,ih]
theorem dupT_join:∀ (r:List (List UInt8)) (x:List UInt8),(∀ p∈x::r,∀ b∈p,b≠32) →
  (dupT false (x++Lib.joinTail [32] r)=Lib.join (keptP (x::r)) [32]\/(keptP (x::r) ≠ []/\dupT false (x++Lib.joinTail [32] r)=Lib.join (keptP (x::r)) [32] ++ [32]))
 | [],x,h=>by
   left
   rw [show Lib.joinTail [32] [] = [] from rfl,List.append_nil,dupT_word x false (h x List.mem_cons_self)]
   by_cases hx:x = []
   ·subst hx;rfl
   ·rw [show keptP [x] = [x] by simp [keptP,hx],Lib.join_one]
 | y::r,x,h=>by
   have e:Lib.joinTail [32] (y::r)=32::(y++Lib.joinTail [32] r):=by simp [Lib.joinTail]
   have ih:=dupT_join r y fun p hp=>h p (List.mem_cons_of_mem _ hp)
   rw [e,dupT_app x _ false (h x List.mem_cons_self)]
   by_cases hx:x = []
   ·subst hx
    rw [if_neg (by simp),List.nil_append,show keptP ([]::y::r)=keptP (y::r) by simp [keptP]]
    exact ih
   ·have ek:keptP (x::y::r)=x::keptP (y::r):=by simp [keptP,hx]
    rw [if_pos (.inl hx),ek]
    cases hK:keptP (y::r) with
    | nil=>
      right
      rw [hK] at ih
      rcases ih with ih|⟨h1,_⟩
      ·rw [ih]
       exact ⟨by simp,by rw [Lib.join_one];rfl⟩
      ·exact absurd rfl h1
    | cons z K=>
      rw [hK] at ih
      have ej:Lib.join (x::z::K) [32]=x++32::Lib.join (z::K) [32]:=by
       rw [Lib.join_cons,Lib.join_cons]
       simp [Lib.joinTail]
      rcases ih with ih|⟨_,ih⟩
      ·left
       rw [ih,ej]
      ·right
       refine ⟨by simp,?_⟩
       rw [ih,ej]
       simp
theorem join_last:∀ (r:List (List UInt8)) (x:List UInt8),(∀ p∈x::r,p ≠ []/\∀ b∈p,b≠32)->∃ d,(x++Lib.joinTail [32] r).getLast? = some d/\d≠32
 | [],x,h=>by
   obtain ⟨h1,h2⟩:=h x List.mem_cons_self
   rw [show Lib.joinTail [32] [] = [] from rfl,List.append_nil]
   cases hg:x.getLast? with
   | none=>exact absurd (List.getLast?_eq_none_iff.1 hg) h1
   | some d=>exact ⟨d,rfl,h2 d (List.mem_of_getLast? hg)⟩
 | y::r,x,h=>by
   have e:Lib.joinTail [32] (y::r)=32::(y++Lib.joinTail [32] r):=by simp [Lib.joinTail]
   obtain ⟨d,h1,h2⟩:=join_last r y fun p hp=>h p (List.mem_cons_of_mem _ hp)
   refine ⟨d,?_,h2⟩
   rw [e,List.getLast?_append,List.getLast?_cons,h1]
   rfl
theorem trim_join (K:List (List UInt8)) (h:∀ p∈K,p ≠ []/\∀ b∈p,b≠32):Lib.trimB (Lib.join K [32]) 32=Lib.join K [32]:=by
 cases K with
 | nil=>rfl
 | cons x r=>
   obtain ⟨d,h1,h2⟩:=join_last r x h
   obtain ⟨g1,g2⟩:=h x List.mem_cons_self
   rw [Lib.join_cons]
   cases x with
   | nil=>exact absurd rfl g1
   | cons c t=>
     rw [List.cons_append] at *
     exact trimB_id (g2 c List.mem_cons_self) h1 h2
theorem dup_trim (s:List UInt8):Lib.trimB (dupT false s) 32=trimT s:=by
 unfold trimT
 have h2:=splitP_no s
 have hb:=split_back s
 cases hs:splitP s with
 | nil=>exact absurd hs (splitP_ne s)
 | cons x r=>
   rw [hs] at h2 hb
   rw [Lib.join_cons] at hb
   have hj:=dupT_join r x h2
   rw [hb] at hj
   have hK:∀ p∈keptP (x::r),p ≠ []/\∀ b∈p,b≠32:=fun p hp=>⟨by have:=(List.mem_filter.1 hp).2;simpa using this,h2 p (List.mem_filter.1 hp).1⟩
   rcases hj with hj|⟨_,hj⟩
   ·rw [hj,trim_join _ hK]
   ·rw [hj,trimB_snoc,trim_join _ hK]
def prevT (s:List UInt8) (i:Nat):Bool:=decide (0<i/\s[i-1]? ≠ some 32)
set_option maxHeartbeats 1000000 in
theorem r17trim_ok (s:List UInt8) (hs:s.length<=100000):Pure Tryz.prog 35 [.str s] (.str (trimT s)):=by
 intro σ
 have hdl:=dupT_len false s
 have hT:=r15trim_ok (dupT false s) (by omega)
 rw [dup_trim] at hT
 generalize trimT s=T at *
 obtain ⟨D,hD⟩:∃ D,dupT false s=D:=⟨_,rfl⟩
 rw [hD] at hT hdl
 have u32:∀ c:UInt8,((c.toNat:Int)=32)↔c=32:=fun c=>⟨fun h=>UInt8.toNat_inj.1 (by show c.toNat=32;omega),fun h=>by rw [h];rfl⟩
 refine a35 (by simp) ?_
 simp (disch:=first|assumption|omega|(simp only [List.length_append,List.length_cons,List.length_nil];omega)) only [go_sem]
 refine wp_loop_on (fun (i:Nat) a s1=>i<=s.length/\(∃ out:List UInt8,out.length<=i/\out++dupT (prevT s i) (s.drop i)=D/\a 3 = .str out)/\(a 0 = .str s/\a 4 = .int .i64 i)/\s1=σ) (fun i=>s.length-i) 0 ⟨Nat.zero_le _,⟨[],Nat.le_refl _,by rw [<-hD];rfl,?_⟩,?_,rfl⟩ ?_
 ·simp (disch:=first|assumption|omega|(simp only [List.length_append,List.length_cons,List.length_nil];omega)) only [go_sem]
 ·simp (disch:=first|assumption|omega|(simp only [List.length_append,List.length_cons,List.length_nil];omega)) only [go_sem]
 rintro i a s1 ⟨hi,⟨out,hol,ho,h3⟩,hf,rfl⟩
 by_cases hlt:i<s.length
 ·have hlt':(i:Int)<s.length:=by omega
  obtain ⟨c,hc⟩:∃ c,s[i]? = some c:=⟨_,List.getElem?_eq_getElem hlt⟩
  have hdr:s.drop i=c::s.drop (i+1):=by
   obtain ⟨_,rfl⟩:=List.getElem?_eq_some_iff.1 hc
   exact List.drop_eq_getElem_cons hlt
  have hpv:prevT s (i+1)=decide (c≠32):=by
   unfold prevT
   rw [Nat.add_sub_cancel,hc]
   by_cases h:c=32<;>simp [h]
  obtain ⟨q,hq⟩:∃ q,i+1=q:=⟨_,rfl⟩
  have eq:(i:Int)+1=q:=by omega
  have hqs:(q:Int)<=s.length:=by omega
  have hiq:(i:Int)<=q:=by omega
  have hsl:(s.take q).drop i = [c]:=by
   rw [<-hq,List.take_add_one,hc,List.drop_append,List.drop_eq_nil_of_le (by rw [List.length_take];omega),List.length_take,show i-min i s.length=0 by omega]
   rfl
  have e5:binS .add out [c]=some (.str (out ++ [c])):=binS_add (by simp;omega)
  rw [hdr,dupT,← hpv,hq] at ho
  by_cases hc1:c=32
  ·have hc':(c.toNat:Int)=32:=(u32 c).2 hc1
   by_cases hp:prevT s i=true
   ·rw [if_pos (.inr hp)] at ho
    unfold prevT at hp
    obtain ⟨p1,p2⟩:=of_decide_eq_true hp
    obtain ⟨j,hj⟩:∃ j,i-1=j:=⟨_,rfl⟩
    obtain ⟨d,hd⟩:∃ d,s[j]? = some d:=⟨_,List.getElem?_eq_getElem (by omega)⟩
    have ej:(i:Int)-1=j:=by omega
    rw [hj,hd] at p2
    have hd':¬ (d.toNat:Int)=32:=fun h=>p2 (by rw [(u32 d).1 h])
    have p1':(0:Int)<i:=by omega
    simp (disch:=first|assumption|omega|(simp only [List.length_append,List.length_cons,List.length_nil];omega)) only [go_sem,hf,h3,hlt',hc,hc',p1',ej,hd,hd',eq,hqs,hiq,hsl,e5]
    refine ⟨q,by omega,by omega,⟨out ++ [c],by rw [List.length_append,List.length_singleton];omega,by rw [List.append_assoc];exact ho,rfl⟩,?_⟩
    first|rfl|exact ⟨rfl,rfl⟩|exact ⟨⟨rfl,rfl⟩,rfl⟩
   ·rw [if_neg (by simp [hc1,hp])] at ho
    by_cases p1:0<i
    ·obtain ⟨j,hj⟩:∃ j,i-1=j:=⟨_,rfl⟩
     obtain ⟨d,hd⟩:∃ d,s[j]? = some d:=⟨_,List.getElem?_eq_getElem (by omega)⟩
     have ej:(i:Int)-1=j:=by omega
     have hd32:d=32:=by
      apply Classical.byContradiction
      intro h
      apply hp
      unfold prevT
      rw [hj,hd]
      simp [p1,h]
     have hd':(d.toNat:Int)=32:=(u32 d).2 hd32
     have p1':(0:Int)<i:=by omega
     simp (disch:=first|assumption|omega|(simp only [List.length_append,List.length_cons,List.length_nil];omega)) only [go_sem,hf,h3,hlt',hc,hc',p1',ej,hd,hd',eq]
     refine ⟨q,by omega,by omega,⟨out,by omega,ho,rfl⟩,?_⟩
     first|rfl|exact ⟨rfl,rfl⟩|exact ⟨⟨rfl,rfl⟩,rfl⟩
    ·have p1':¬ (0:Int)<i:=by omega
     simp (disch:=first|assumption|omega|(simp only [List.length_append,List.length_cons,List.length_nil];omega)) only [go_sem,hf,h3,hlt',hc,hc',p1',eq]
     refine ⟨q,by omega,by omega,⟨out,by omega,ho,rfl⟩,?_⟩
     first|rfl|exact ⟨rfl,rfl⟩|exact ⟨⟨rfl,rfl⟩,rfl⟩
  ·have hc':¬ (c.toNat:Int)=32:=fun h=>hc1 ((u32 c).1 h)
   rw [if_pos (.inl hc1)] at ho
   simp (disch:=first|assumption|omega|(simp only [List.length_append,List.length_cons,List.length_nil];omega)) only [go_sem,hf,h3,hlt',hc,hc',eq,hqs,hiq,hsl,e5]
   refine ⟨q,by omega,by omega,⟨out ++ [c],by rw [List.length_append,List.length_singleton];omega,by rw [List.append_assoc];exact ho,rfl⟩,?_⟩
   first|rfl|exact ⟨rfl,rfl⟩|exact ⟨⟨rfl,rfl⟩,rfl⟩
 ·have hlt':¬ (i:Int)<s.length:=by omega
  rw [List.drop_eq_nil_of_le (by omega),show dupT (prevT s i) [] = [] from by cases prevT s i<;>rfl,List.append_nil] at ho
  subst ho
  simp (disch:=first|assumption|omega|(simp only [List.length_append,List.length_cons,List.length_nil];omega)) only [go_sem,hf,h3,hlt']
  refine hT.use ?_
  simp (disch:=first|assumption|omega|(simp only [List.length_append,List.length_cons,List.length_nil];omega)) only [go_sem]
  exact retC_by (by repeat' (first|exact Drop.refl _|with_reducible refine Drop.off ?_ (by assumption))) (.refl _) ⟨rfl,rfl⟩
end Go.A
namespace Go.A
open Go.Proofs
/-! 40: tabular/tabularref17.find -/
def c40_25:ACode := .seq (.seq (.ops [ oq 29 (.mv (.t 9)),oq 30 (.mv (.t 7)),oq 31 (.len (.t 30)),oq 32 (.bin .add (.t 31) (.v (.int .i64 1))),oq 33 (.bin .leq (.t 29) (.t 32))]) (.cond (.t 33) .skip (.exit 0))) (.seq (.block 1 (.seq (.seq (.ops [ oq 36 (.mv (.t 0)),oq 37 (.mv (.t 1)),oq 38 (.mv (.t 8)),oe 39 (.call 73 [(.t 36),(.t 37),(.t 38)])]) (.cond (.t 39) (.seq (.ops [ oq 40 (.mv (.t 9)),oq 41 (.bin .mul (.t 40) (.v (.int .i64 10000))),oe 42 (.call 31 [(.t 41)]),oz (.store 3 (.t 6) (.t 42))]) .ret) .skip)) (.seq (.ops [ oq 43 (.mv (.t 9)),oq 44 (.mv (.t 7)),oq 45 (.len (.t 44)),oq 46 (.bin .leq (.t 43) (.t 45))]) (.cond (.t 46) (.ops [ oq 47 (.mv (.t 8)),oq 48 (.mv (.t 7)),oq 49 (.mv (.t 9)),oq 50 (.bin .sub (.t 49) (.v (.int .i64 1))),oq 51 (.ia 1 (.t 48) (.t 50)),oq 52 (.ld none (.t 51)),oq 53 (.lenS (.t 52)),oq 54 (.bin .add (.t 47) (.t 53)),oq 8 (.mv (.t 54))]) .skip)))) (.ops [ oq 34 (.mv (.t 9)),oq 35 (.bin .add (.t 34) (.v (.int .i64 1))),oq 9 (.mv (.t 35))]))
def c40_35:ACode := .seq (.ops [ oe 6 (.alloc [(.int .i64 0),(.int .i64 0),(.str [])])]) (.seq (.ops [ oq 10 (.mv (.t 1)),oe 11 (.call 30 [(.t 10)]),oq 7 (.mv (.t 11))]) (.seq (.seq (.ops [ oq 12 (.mv (.t 2)),oq 13 (.bin .lss (.t 12) (.v (.int .i64 1))),oq 14 (.mv (.t 13)),⟨some 15,some (14,false),.q (.mv (.t 2)),[]⟩,⟨some 16,some (14,false),.q (.mv (.t 7)),[]⟩,⟨some 17,some (14,false),.q (.len (.t 16)),[]⟩,⟨some 18,some (14,false),.q (.bin .add (.t 17) (.v (.int .i64 1))),[]⟩,⟨some 19,some (14,false),.q (.bin .gtr (.t 15) (.t 18)),[]⟩,oq 20 (.pick (.t 14) (.v (.bool true)) (.t 19))]) (.cond (.t 20) (.seq (.ops [ oe 21 (.call 21 [(.v (.int .i64 3))]),oz (.store 3 (.t 6) (.t 21))]) .ret) .skip)) (.seq (.ops [ oq 22 (.mv (.t 7)),oq 23 (.mv (.t 2)),oq 24 (.bin .sub (.t 23) (.v (.int .i64 1))),oq 25 (.slto (false,1) (.t 22) (.t 24)),oe 26 (.call 37 [(.t 25)]),oq 27 (.lenS (.t 26)),oq 8 (.mv (.t 27))]) (.seq (.seq (.ops [ oq 28 (.mv (.t 2)),oq 9 (.mv (.t 28))]) (.block 0 (.loop c40_25))) (.seq (.ops [ oe 55 (.call 21 [(.v (.int .i64 3))]),oz (.store 3 (.t 6) (.t 55))]) .ret)))))
@[go_sem] def c40_25_wp:=wp_of c40_25.eq_1
@[go_sem] def c40_35_wp:=wp_of c40_35.eq_1
def c40:AFn:=⟨56,[.c 6 (some 3)],c40_35⟩
theorem c40_ok:compF Tryz.prog Tryz.f40=some c40:=by kernel_rfl
theorem a40 {args:List AV} {σ:ASt} {R:AV->ASt->Prop} (hl:args.length<=56) (h:c40_35.wp Tryz.prog (RetQ [.c 6 (some 3)] R) (init args) σ):ACalls Tryz.prog 40 args σ R:=acalls_of Tryz.func40 c40_ok hl h
/-! 41: tabular/tabularref17.substitute -/
def c41_26:ACode := .seq (.seq (.ops [ oq 36 (.mv (.t 3)),oq 37 (.bin .eql (.t 36) (.v (.int .i64 0))),oq 38 (.mv (.t 37)),⟨some 39,some (38,false),.q (.mv (.t 3)),[]⟩,⟨some 40,some (38,false),.q (.mv (.t 10)),[]⟩,⟨some 41,some (38,false),.q (.bin .eql (.t 39) (.t 40)),[]⟩,oq 42 (.pick (.t 38) (.v (.bool true)) (.t 41))]) (.cond (.t 42) (.ops [ oq 43 (.mv (.t 9)),oq 44 (.mv (.t 2)),oq 45 (.bin .add (.t 43) (.t 44)),oq 9 (.mv (.t 45))]) (.ops [ oq 46 (.mv (.t 9)),oq 47 (.mv (.t 1)),oq 48 (.bin .add (.t 46) (.t 47)),oq 9 (.mv (.t 48))]))) (.ops [ oq 49 (.mv (.t 11)),oq 50 (.mv (.t 1)),oq 51 (.lenS (.t 50)),oq 52 (.bin .add (.t 49) (.t 51)),oq 11 (.mv (.t 52))])
def c41_30:ACode := .seq (.seq (.ops [ oq 16 (.mv (.t 11)),oq 17 (.mv (.t 0)),oq 18 (.lenS (.t 17)),oq 19 (.bin .lss (.t 16) (.t 18))]) (.cond (.t 19) .skip (.exit 0))) (.block 1 (.seq (.seq (.ops [ oq 20 (.mv (.t 1)),oq 21 (.mv (.t 0)),oq 22 (.mv (.t 11)),oe 23 (.call 73 [(.t 20),(.t 21),(.t 22)]),oq 24 (.un .not (.t 23))]) (.cond (.t 24) (.seq (.ops [ oq 25 (.mv (.t 9)),oq 26 (.mv (.t 0)),oq 27 (.mv (.t 11)),oq 28 (.mv (.t 11)),oq 29 (.bin .add (.t 28) (.v (.int .i64 1))),oq 30 (.sls (true,0) (.t 26) (.t 27) (.t 29)),oq 31 (.bin .add (.t 25) (.t 30)),oq 9 (.mv (.t 31))]) (.seq (.ops [ oq 32 (.mv (.t 11)),oq 33 (.bin .add (.t 32) (.v (.int .i64 1))),oq 11 (.mv (.t 33))]) (.exit 1))) .skip)) (.seq (.ops [ oq 34 (.mv (.t 10)),oq 35 (.bin .add (.t 34) (.v (.int .i64 1))),oq 10 (.mv (.t 35))]) c41_26)))
def c41_40:ACode := .seq (.ops [ oe 8 (.alloc [(.int .i64 0),(.int .i64 0),(.str [])])]) (.seq (.seq (.ops [ oq 12 (.mv (.t 1)),oq 13 (.bin .eql (.t 12) (.v (.str [])))]) (.cond (.t 13) (.seq (.ops [ oq 14 (.mv (.t 0)),oe 15 (.call 22 [(.t 14)]),oz (.store 3 (.t 8) (.t 15))]) .ret) .skip)) (.seq (.ops [ oq 9 (.mv (.v (.str [])))]) (.seq (.ops [ oq 10 (.mv (.v (.int .i64 0)))]) (.seq (.seq (.ops [ oq 11 (.mv (.v (.int .i64 0)))]) (.block 0 (.loop c41_30))) (.seq (.ops [ oq 53 (.mv (.t 9)),oe 54 (.call 42 [(.t 53)]),oz (.store 3 (.t 8) (.t 54))]) .ret)))))
@[go_sem] def c41_26_wp:=wp_of c41_26.eq_1
@[go_sem] def c41_30_wp:=wp_of c41_30.eq_1
@[go_sem] def c41_40_wp:=wp_of c41_40.eq_1
def c41:AFn:=⟨55,[.c 8 (some 3)],c41_40⟩
theorem c41_ok:compF Tryz.prog Tryz.f41=some c41:=by kernel_rfl
theorem a41 {args:List AV} {σ:ASt} {R:AV->ASt->Prop} (hl:args.length<=55) (h:c41_40.wp Tryz.prog (RetQ [.c 8 (some 3)] R) (init args) σ):ACalls Tryz.prog 41 args σ R:=acalls_of Tryz.func41 c41_ok hl h
end Go.A
namespace Go.A
open Go.Proofs Go.Lib
def offN (s:List UInt8) (j:Nat):Nat:=((pcs s).take j).flatten.length
theorem offN_skip (s:List UInt8) (j:Nat):skipP s (j:Int)=offN s j:=by unfold skipP offN;rw [Int.toNat_natCast]
theorem offN_le (s:List UInt8) (j:Nat):offN s j<=s.length:=by rw [<-offN_skip];exact skipP_le s j
theorem stands_occ {what s:List UInt8} {p:Nat}:standsP what s p=occAt s what p:=by
 unfold standsP occAt
 rw [Bool.eq_iff_iff,decide_eq_true_iff,List.isPrefixOf_iff_prefix]
 constructor
 ·intro h
  rw [<-h]
  exact List.take_prefix _ _
 ·rintro ⟨y,hy⟩
  rw [<-hy,List.take_left]
theorem find17 {what s:List UInt8} (hw:Whole what) (hs:Whole s) (hl:s.length<=100000) {F:Nat} (hF:F<=(pcs s).length) :
  (findP what s ((F:Int)+1) = .fail 3/\∀ j,F<=j->j<=(pcs s).length->standsP what s (offN s j)=false) ∨
  ∃ j0,F<=j0/\j0<=(pcs s).length/\findP what s ((F:Int)+1) = .num (((j0:Int)+1)*10000)/\standsP what s (offN s j0)=true/\∀ j,F<=j->j<j0->standsP what s (offN s j)=false:=by
 have hpl:=pcs_len s
 have e0:skipP s ((F:Int)+1-1)=offN s F:=by rw [show (F:Int)+1-1=F by omega,offN_skip]
 have hoF:=offN_le s F
 have hdF:s.drop (offN s F)=((pcs s).drop F).flatten:=skipP_at rfl
 have hps:pcs (s.drop (offN s F))=(pcs s).drop F:=by rw [hdF,pcs_skip]
 have hoff:∀ j,F<=j->offN s j=offN s F+(((pcs s).drop F).take (j-F)).flatten.length:=by
  intro j hj
  unfold offN
  rw [<-List.length_append,← List.flatten_append,← List.take_add,show F+(j-F)=j by omega]
 have hst:∀ j,F<=j->standsP what s (offN s j)=occAt (s.drop (offN s F)) what (((pcs s).drop F).take (j-F)).flatten.length:=by
  intro j hj
  rw [stands_occ,hoff j hj]
  unfold occAt
  rw [List.drop_drop]
 have hlt:∀ j k,F<=j->j<k->k<=(pcs s).length->(((pcs s).drop F).take (j-F)).flatten.length<(((pcs s).drop F).take (k-F)).flatten.length:=by
  intro j k hj hjk hk
  have h:=skip_lt (t:=s) hjk hk
  rw [offN_skip,offN_skip,hoff j hj,hoff k (by omega)] at h
  omega
 have hwt:Whole (s.drop (offN s F)):=fun p hp=>hs p (List.mem_of_mem_drop (hps▸hp))
 unfold findP
 rw [if_neg (by omega),e0]
 generalize ht:s.drop (offN s F)=t at *
 have htl:∀ j,(((pcs s).drop F).take (j-F)).flatten.length<=t.length:=by
  intro j
  rw [hdF]
  conv=>rhs;rw [<-List.take_append_drop (j-F) ((pcs s).drop F),List.flatten_append]
  simp
 rcases index_spec t what with ⟨h1,h2⟩|⟨p,h1,h2,h3,h4⟩
 ·left
  rw [h1,if_pos (by decide)]
  exact ⟨rfl,fun j hj _=>by rw [hst j hj];exact h2 _ (htl j)⟩
 ·right
  rw [h1,if_neg (by omega),Int.toNat_natCast]
  obtain ⟨d,hd,hp⟩:∃ d,d<=((pcs s).drop F).length/\p=(((pcs s).drop F).take d).flatten.length:=by
   by_cases hne:what = []
   ·subst hne
    have:Lib.index t []=0:=index_empty t
    rw [this] at h1
    exact ⟨0,Nat.zero_le _,by simp;omega⟩
   ·have hb:=bound (pcs t) p hwt (by rw [pcs_flat];exact h2) (by
     rw [pcs_flat]
     unfold occAt at h3
     rw [List.isPrefixOf_iff_prefix] at h3
     obtain ⟨y,hy⟩:=h3
     rw [<-hy]
     exact whole_stop hw y hne)
    rw [hps] at hb
    exact hb
  rw [List.length_drop] at hd
  have htk:t.take p=(((pcs s).drop F).take d).flatten:=by
   rw [hdF,hp]
   conv=>lhs;rw [<-List.take_append_drop d ((pcs s).drop F),List.flatten_append]
   rw [List.take_append_drop]
   exact List.take_left
  have hcount:(pcs (t.take p)).length=d:=by
   rw [htk,pcs_of (fun q hq=>hs q (List.mem_of_mem_drop (List.mem_of_mem_take hq))),List.length_take,List.length_drop]
   omega
  have hFd:F+d-F=d:=by omega
  refine ⟨F+d,by omega,by omega,?_,?_,?_⟩
  ·rw [hcount]
   unfold intP
   rw [if_pos (by omega)]
   show PV.num (((F:Int)+1+(d:Int))*10000)=PV.num (((F+d:Nat)+1:Int)*10000)
   congr 1
   omega
  ·rw [hst _ (by omega),hFd,← hp]
   exact h3
  ·intro j hj hjd
   have h5:=hlt j (F+d) hj hjd (by omega)
   rw [hFd,← hp] at h5
   rw [hst j hj]
   exact h4 _ h5
theorem strsA_take (l:List (List UInt8)) (n:Nat):(strsA l).take n=strsA (l.take n):=by unfold strsA;rw [List.map_take]
set_option maxHeartbeats 1000000 in
theorem r17find_ok {what s:List UInt8} (hw:Whole what) (hs:Whole s) (hl:s.length<=10000) (hwl:what.length<=10000) (f:Int) (hf0:f.natAbs<=2000000):Pure Tryz.prog 40 [.str what,.str s,.int .i64 f] (tellAV (findP what s f)):=by
 intro σ
 have hS:=rsigns17_ok hs (by omega)
 have hpl:=pcs_len s
 have hF3:=rFail_ok 3 (by omega) (by omega)
 have hlen:=strsA_len (pcs s)
 obtain ⟨R,hR⟩:∃ R,findP what s f=R:=⟨_,rfl⟩
 rw [hR]
 refine a40 (by simp) ?_
 by_cases c1:f<1
 ·have hR2:R = .fail 3:=by rw [<-hR];unfold findP;rw [if_pos (.inl c1)]
  subst hR2
  simp only [tellAV] at hF3 ⊢
  simp (disch:=first|assumption|omega|(simp only [List.length_append,List.length_cons,List.length_nil];omega)) only [go_sem]
  refine allocC_by fun b hb=>?_
  simp (disch:=first|assumption|omega|(simp only [List.length_append,List.length_cons,List.length_nil];omega)) only [go_sem]
  refine hS.use ?_
  simp (disch:=first|assumption|omega|(simp only [List.length_append,List.length_cons,List.length_nil];omega)) only [go_sem,c1]
  refine hF3.use ?_
  simp (disch:=first|assumption|omega|(simp only [List.length_append,List.length_cons,List.length_nil];omega)) only [go_sem,ASt.set_set]
  exact retC_by (by repeat' (first|exact Drop.refl _|with_reducible refine Drop.off ?_ (by assumption))) (.refl _) ⟨rfl,rfl⟩
 by_cases c2:((pcs s).length:Int)+1<f
 ·have hR2:R = .fail 3:=by rw [<-hR];unfold findP;rw [if_pos (.inr c2)]
  subst hR2
  simp only [tellAV] at hF3 ⊢
  simp (disch:=first|assumption|omega|(simp only [List.length_append,List.length_cons,List.length_nil];omega)) only [go_sem]
  refine allocC_by fun b hb=>?_
  simp (disch:=first|assumption|omega|(simp only [List.length_append,List.length_cons,List.length_nil];omega)) only [go_sem]
  refine hS.use ?_
  simp (disch:=first|assumption|omega|(simp only [List.length_append,List.length_cons,List.length_nil];omega)) only [go_sem,hlen,c1,c2]
  refine hF3.use ?_
  simp (disch:=first|assumption|omega|(simp only [List.length_append,List.length_cons,List.length_nil];omega)) only [go_sem,ASt.set_set]
  exact retC_by (by repeat' (first|exact Drop.refl _|with_reducible refine Drop.off ?_ (by assumption))) (.refl _) ⟨rfl,rfl⟩
 obtain ⟨F,rfl⟩:∃ F:Nat,f=(F:Int)+1:=⟨(f-1).toNat,by omega⟩
 have hFl:F<=(pcs s).length:=by omega
 have hfind:=find17 hw hs (by omega) hFl
 rw [hR] at hfind
 have eF:(F:Int)+1-1=F:=by omega
 have hFi:(F:Int)<=(pcs s).length:=by omega
 have hst:=strsA_take (pcs s) F
 have hA:=rall_ok .shr ((pcs s).take F) (by have:=offN_le s F;unfold offN at this;omega) (by rw [List.length_take];omega)
 rw [<-hst] at hA
 have hoF:((pcs s).take F).flatten.length=offN s F:=rfl
 generalize ((pcs s).take F).flatten=AF at *
 have hstd:=fun j=>rstands_ok what s (offN s j) (offN_le s j) (by omega) (by omega)
 obtain ⟨L,hL⟩:∃ L,(pcs s).length=L:=⟨_,rfl⟩
 have hget:∀ i,i<L->∃ x,(strsA (pcs s))[i]? = some (.str x)/\offN s (i+1)=offN s i+x.length:=by
  intro i hi
  obtain ⟨x,hx⟩:∃ x,(pcs s)[i]? = some x:=⟨_,List.getElem?_eq_getElem (by omega)⟩
  refine ⟨x,strsA_get hx,?_⟩
  unfold offN
  rw [List.take_add_one,hx]
  simp
 have hend:offN s (L+1)=offN s L:=by
  unfold offN
  rw [List.take_of_length_le (by omega),List.take_of_length_le (by omega)]
 rw [hL] at hlen hfind hpl hFl hFi c2
 generalize strsA (pcs s)=LA at *
 simp (disch:=first|assumption|omega|(simp only [List.length_append,List.length_cons,List.length_nil];omega)) only [go_sem]
 refine allocC_by fun b hb=>?_
 simp (disch:=first|assumption|omega|(simp only [List.length_append,List.length_cons,List.length_nil];omega)) only [go_sem]
 refine hS.use ?_
 simp (disch:=first|assumption|omega|(simp only [List.length_append,List.length_cons,List.length_nil];omega)) only [go_sem,hlen,c1,c2,eF,hFi]
 refine hA.use ?_
 simp (disch:=first|assumption|omega|(simp only [List.length_append,List.length_cons,List.length_nil];omega)) only [go_sem,hoF]
 refine wp_loop_on (fun (j:Nat) a s1=>F<=j/\j<=L+1/\(∀ k,F<=k->k<j->standsP what s (offN s k)=false)/\(a 0 = .str what/\a 1 = .str s/\a 6 = .ptr b 0/\a 7 = .sl .shr LA/\a 8 = .int .i64 (offN s j)/\a 9 = .int .i64 ((j:Int)+1))/\s1=σ.set b (some (.obj [.int .i64 0,.int .i64 0,.str []]))) (fun j=>L+1-j) F ⟨Nat.le_refl _,by omega,(fun k h1 h2=>absurd h2 (by omega)),?_,?_⟩ ?_
 ·simp (disch:=first|assumption|omega|(simp only [List.length_append,List.length_cons,List.length_nil];omega)) only [go_sem]
 ·rfl
 rintro j a s1 ⟨hj0,hj,hno,hf,rfl⟩
 by_cases hlt:j<=L
 ·have hlt':(j:Int)+1<=(L:Int)+1:=by omega
  have hsj:=hstd j
  by_cases hst2:standsP what s (offN s j)=true
  ·rw [hst2] at hsj
   have hR2:R = .num (((j:Int)+1)*10000):=by
    rcases hfind with ⟨_,h2⟩|⟨j0,g1,g2,g3,g4,g5⟩
    ·rw [h2 j hj0 hlt] at hst2;cases hst2
    ·have:j=j0:=by
      rcases Nat.lt_trichotomy j j0 with h|h|h
      ·rw [g5 j hj0 h] at hst2;cases hst2
      ·exact h
      ·rw [hno j0 g1 h] at g4;cases g4
     rw [g3,this]
   have hN:=rNum_ok (((j:Int)+1)*10000)
   rw [<-hR2] at hN
   have hN':Pure Tryz.prog 31 [.int .i64 (((j:Int)+1)*10000)] (tellAV R):=hN
   rw [hR2] at hN' ⊢
   simp only [tellAV] at hN' ⊢
   simp (disch:=first|assumption|omega|(simp only [List.length_append,List.length_cons,List.length_nil];omega)) only [go_sem,hf,hlen,hlt']
   refine hsj.use ?_
   simp (disch:=first|assumption|omega|(simp only [List.length_append,List.length_cons,List.length_nil];omega)) only [go_sem,hf,hlen]
   refine hN'.use ?_
   simp (disch:=first|assumption|omega|(simp only [List.length_append,List.length_cons,List.length_nil];omega)) only [go_sem,hf,ASt.set_set]
   exact retC_by (by repeat' (first|exact Drop.refl _|with_reducible refine Drop.off ?_ (by assumption))) (.refl _) ⟨rfl,rfl⟩
  ·have hst3:standsP what s (offN s j)=false:=by simpa using hst2
   rw [hst3] at hsj
   have hno2:∀ k,F<=k->k<j+1->standsP what s (offN s k)=false:=by
    intro k h1 h2
    by_cases h3:k=j
    ·subst h3;exact hst3
    ·exact hno k h1 (by omega)
   by_cases hl2:j<L
   ·have hl2':(j:Int)+1<=L:=by omega
    obtain ⟨x,hx,hoj⟩:=hget j hl2
    have ej:(j:Int)+1-1=j:=by omega
    have eo:(offN s j:Int)+x.length=(offN s (j+1):Nat):=by omega
    have hol:=offN_le s (j+1)
    simp (disch:=first|assumption|omega|(simp only [List.length_append,List.length_cons,List.length_nil];omega)) only [go_sem,hf,hlen,hlt']
    refine hsj.use ?_
    simp (disch:=first|assumption|omega|(simp only [List.length_append,List.length_cons,List.length_nil];omega)) only [go_sem,hf,hlen,hl2',ej,hx,eo]
    refine ⟨j+1,by omega,by omega,by omega,hno2,?_,rfl⟩
    first|rfl|exact ⟨rfl,rfl⟩
   ·have hjL:j=L:=by omega
    have hl2':¬ (j:Int)+1<=L:=by omega
    have eo:offN s j=offN s (j+1):=by rw [hjL];exact hend.symm
    simp (disch:=first|assumption|omega|(simp only [List.length_append,List.length_cons,List.length_nil];omega)) only [go_sem,hf,hlen,hlt']
    refine hsj.use ?_
    simp (disch:=first|assumption|omega|(simp only [List.length_append,List.length_cons,List.length_nil];omega)) only [go_sem,hf,hlen,hl2']
    refine ⟨j+1,by omega,by omega,by omega,hno2,?_,rfl⟩
    rw [<-eo]
 ·have hlt':¬ (j:Int)+1<=(L:Int)+1:=by omega
  have hR2:R = .fail 3:=by
   rcases hfind with ⟨h,_⟩|⟨j0,g1,g2,g3,g4,g5⟩
   ·exact h
   ·rw [hno j0 g1 (by omega)] at g4;cases g4
  subst hR2
  simp only [tellAV] at hF3 ⊢
  simp (disch:=first|assumption|omega|(simp only [List.length_append,List.length_cons,List.length_nil];omega)) only [go_sem,hf,hlen,hlt']
  refine hF3.use ?_
  simp (disch:=first|assumption|omega|(simp only [List.length_append,List.length_cons,List.length_nil];omega)) only [go_sem,hf,ASt.set_set]
  exact retC_by (by repeat' (first|exact Drop.refl _|with_reducible refine Drop.off ?_ (by assumption))) (.refl _) ⟨rfl,rfl⟩
/-! SUBSTITUTE: a text in the place of all of another one,or of the n-th. -/
def subQ (old wth:List UInt8) (n:Int):Nat->Nat->List UInt8->List UInt8
 | 0,_,_ => []
 | m+1,k,s=>if s = [] then [] else if standsP old s 0=true then (if n=0\/n=((k+1:Nat):Int) then wth else old)++subQ old wth n m (k+1) (s.drop old.length) else s.take 1++subQ old wth n m k (s.drop 1)
theorem subQ_fuel (old wth:List UInt8) (n:Int) (h0:old ≠ []):∀ (m m' k:Nat) (s:List UInt8),s.length<=m->s.length<=m'->subQ old wth n m k s=subQ old wth n m' k s
 | 0,0,_,_,_,_=>rfl
 | 0,m'+1,k,s,h,_=>by
   have hs:s = []:=List.eq_nil_of_length_eq_zero (by omega)
   rw [subQ,subQ,if_pos hs]
 | m+1,0,k,s,_,h=>by
   have hs:s = []:=List.eq_nil_of_length_eq_zero (by omega)
   rw [subQ,subQ,if_pos hs]
 | m+1,m'+1,k,s,h,h'=>by
   rw [subQ,subQ]
   by_cases hs:s = []
   ·rw [if_pos hs,if_pos hs]
   have hsl:=List.length_pos_iff.2 hs
   have hol:=List.length_pos_iff.2 h0
   rw [if_neg hs,if_neg hs,subQ_fuel old wth n h0 m m' (k+1) (s.drop old.length) (by rw [List.length_drop];omega) (by rw [List.length_drop];omega),subQ_fuel old wth n h0 m m' k (s.drop 1) (by rw [List.length_drop];omega) (by rw [List.length_drop];omega)]
def subR (old wth:List UInt8) (n:Int) (k:Nat) (s:List UInt8):List UInt8:=subQ old wth n s.length k s
theorem subR_nil (old wth:List UInt8) (n:Int) (k:Nat):subR old wth n k [] = []:=rfl
theorem subR_step {old wth:List UInt8} {n:Int} (h0:old ≠ []) (k:Nat) {s:List UInt8} (hs:s ≠ []) :
  subR old wth n k s=if standsP old s 0=true then (if n=0\/n=((k+1:Nat):Int) then wth else old)++subR old wth n (k+1) (s.drop old.length) else s.take 1++subR old wth n k (s.drop 1):=by
 have hsl:=List.length_pos_iff.2 hs
 have hol:=List.length_pos_iff.2 h0
 unfold subR
 obtain ⟨m,hm⟩:∃ m,s.length=m+1:=⟨s.length-1,by omega⟩
 conv=>lhs;rw [hm,subQ,if_neg hs]
 rw [subQ_fuel old wth n h0 m (s.drop old.length).length (k+1) (s.drop old.length) (by rw [List.length_drop];omega) (Nat.le_refl _),subQ_fuel old wth n h0 m (s.drop 1).length k (s.drop 1) (by rw [List.length_drop];omega) (Nat.le_refl _)]
theorem stands_drop (what s:List UInt8) (p:Nat):standsP what s p=standsP what (s.drop p) 0:=by unfold standsP;rw [List.drop_zero]
def substV (s old wth:List UInt8) (n:Int):PV:=if old = [] then .text s else madeT (subR old wth n 0 s)
theorem r15madeT (s:List UInt8):Pure Tryz.prog 42 [.str s] (tellAV (madeT s)):=r15made_ok s
set_option maxHeartbeats 1000000 in
theorem r17subst_ok (s old wth:List UInt8) (n:Int) (hs:s.length<=10000) (ho:old.length<=10000) (hw:wth.length<=10000):Pure Tryz.prog 41 [.str s,.str old,.str wth,.int .i64 n] (tellAV (substV s old wth n)):=by
 intro σ
 unfold substV
 by_cases h0:old = []
 ·rw [if_pos h0]
  have hT:=rText_ok s
  subst h0
  simp only [tellAV] at hT ⊢
  refine a41 (by simp) ?_
  simp (disch:=first|assumption|omega|(simp only [List.length_append,List.length_cons,List.length_nil];omega)) only [go_sem]
  refine allocC_by fun b hb=>?_
  simp (disch:=first|assumption|omega|(simp only [List.length_append,List.length_cons,List.length_nil];omega)) only [go_sem]
  refine hT.use ?_
  simp (disch:=first|assumption|omega|(simp only [List.length_append,List.length_cons,List.length_nil];omega)) only [go_sem,ASt.set_set]
  exact retC_by (by repeat' (first|exact Drop.refl _|with_reducible refine Drop.off ?_ (by assumption))) (.refl _) ⟨rfl,rfl⟩
 rw [if_neg h0]
 have hol:=List.length_pos_iff.2 h0
 have hM:=r15madeT (subR old wth n 0 s)
 obtain ⟨x1,x2,x3,hm⟩:=tell_agg (madeT (subR old wth n 0 s))
 rw [hm] at hM ⊢
 obtain ⟨D,hD⟩:∃ D,subR old wth n 0 s=D:=⟨_,rfl⟩
 rw [hD] at hM
 have hstd:=fun p hp=>rstands_ok old s p hp (by omega) (by omega)
 refine a41 (by simp) ?_
 obtain ⟨G,hG⟩:∃ G,G=ACode.wp Tryz.prog c41_26:=⟨_,rfl⟩
 simp (disch:=first|assumption|omega|(simp only [List.length_append,List.length_cons,List.length_nil];omega)) only [go_sem,h0,←hG]
 refine allocC_by fun b hb=>?_
 simp (disch:=first|assumption|omega|(simp only [List.length_append,List.length_cons,List.length_nil];omega)) only [go_sem,h0,←hG]
 refine wp_loop_on (fun (p:Nat) a s1=>p<=s.length/\(∃ (out:List UInt8) (k:Nat),k<=p/\out.length<=10000*p/\out++subR old wth n k (s.drop p)=D/\a 9 = .str out/\a 10 = .int .i64 k)/\(a 0 = .str s/\a 1 = .str old/\a 2 = .str wth/\a 3 = .int .i64 n/\a 8 = .ptr b 0/\a 11 = .int .i64 p)/\s1=σ.set b (some (.obj [.int .i64 0,.int .i64 0,.str []]))) (fun p=>s.length-p) 0 ⟨Nat.zero_le _,⟨[],0,Nat.le_refl _,Nat.zero_le _,by rw [<-hD];rfl,?_,?_⟩,?_,?_⟩ ?_
 ·simp (disch:=first|assumption|omega|(simp only [List.length_append,List.length_cons,List.length_nil];omega)) only [go_sem]
 ·simp (disch:=first|assumption|omega|(simp only [List.length_append,List.length_cons,List.length_nil];omega)) only [go_sem]
 ·simp (disch:=first|assumption|omega|(simp only [List.length_append,List.length_cons,List.length_nil];omega)) only [go_sem]
 ·rfl
 rintro p a s1 ⟨hp,⟨out,k,hk,hol2,hout,h9,h10⟩,hf,rfl⟩
 by_cases hlt:p<s.length
 ·have hlt':(p:Int)<s.length:=by omega
  have hne:s.drop p ≠ []:=by
   intro e
   have:=congrArg List.length e
   rw [List.length_drop,List.length_nil] at this
   omega
  have hsp:=hstd p hp
  rw [subR_step h0 k hne,← stands_drop,List.drop_drop,List.drop_drop] at hout
  by_cases hst:standsP old s p=true
  ·rw [if_pos hst] at hout
   rw [hst] at hsp
   obtain ⟨q,hq⟩:∃ q,p+old.length=q:=⟨_,rfl⟩
   have eq:(p:Int)+old.length=q:=by omega
   have hqs:q<=s.length:=by
    unfold standsP at hst
    have:=congrArg List.length (of_decide_eq_true hst)
    rw [List.length_take,List.length_drop] at this
    omega
   rw [hq] at hout
   obtain ⟨k',hk'⟩:∃ k',k+1=k':=⟨_,rfl⟩
   have ek:(k:Int)+1=k':=by omega
   rw [hk'] at hout
   by_cases hn0:n=0
   ·rw [if_pos (.inl hn0)] at hout
    have e5:binS .add out wth=some (.str (out++wth)):=binS_add (by omega)
    simp (disch:=first|assumption|omega|(simp only [List.length_append,List.length_cons,List.length_nil];omega)) only [go_sem,hf,h9,h10,hlt',←hG]
    refine hsp.use ?_
    simp (disch:=first|assumption|omega|(simp only [List.length_append,List.length_cons,List.length_nil];omega)) only [go_sem,hf,h9,h10,←hG]
    rw [hG]
    simp (disch:=first|assumption|omega|(simp only [List.length_append,List.length_cons,List.length_nil];omega)) only [go_sem,hf,h9,h10,hn0,ek,eq,e5]
    refine ⟨q,by omega,by omega,⟨out++wth,k',by omega,by rw [List.length_append];omega,by rw [List.append_assoc];rw [hn0] at hout;exact hout,rfl,rfl⟩,rfl⟩
   ·by_cases hnk:n=(k':Int)
    ·rw [if_pos (.inr hnk)] at hout
     have e5:binS .add out wth=some (.str (out++wth)):=binS_add (by omega)
     have hnk':(n=(k':Int))=True:=eq_true hnk
     simp (disch:=first|assumption|omega|(simp only [List.length_append,List.length_cons,List.length_nil];omega)) only [go_sem,hf,h9,h10,hlt',←hG]
     refine hsp.use ?_
     simp (disch:=first|assumption|omega|(simp only [List.length_append,List.length_cons,List.length_nil];omega)) only [go_sem,hf,h9,h10,←hG]
     rw [hG]
     simp (disch:=first|assumption|omega|(simp only [List.length_append,List.length_cons,List.length_nil];omega)) only [go_sem,hf,h9,h10,hn0,hnk',ek,eq,e5]
     refine ⟨q,by omega,by omega,⟨out++wth,k',by omega,by rw [List.length_append];omega,by rw [List.append_assoc];exact hout,rfl,rfl⟩,rfl⟩
    ·rw [if_neg (by rintro (h|h);exact hn0 h;exact hnk h)] at hout
     have e5:binS .add out old=some (.str (out++old)):=binS_add (by omega)
     simp (disch:=first|assumption|omega|(simp only [List.length_append,List.length_cons,List.length_nil];omega)) only [go_sem,hf,h9,h10,hlt',←hG]
     refine hsp.use ?_
     simp (disch:=first|assumption|omega|(simp only [List.length_append,List.length_cons,List.length_nil];omega)) only [go_sem,hf,h9,h10,←hG]
     rw [hG]
     simp (disch:=first|assumption|omega|(simp only [List.length_append,List.length_cons,List.length_nil];omega)) only [go_sem,hf,h9,h10,hn0,hnk,ek,eq,e5]
     refine ⟨q,by omega,by omega,⟨out++old,k',by omega,by rw [List.length_append];omega,by rw [List.append_assoc];exact hout,rfl,rfl⟩,rfl⟩
  ·have hst2:standsP old s p=false:=by simpa using hst
   rw [if_neg hst] at hout
   rw [hst2] at hsp
   obtain ⟨q,hq⟩:∃ q,p+1=q:=⟨_,rfl⟩
   have eq:(p:Int)+1=q:=by omega
   have hqs:(q:Int)<=s.length:=by omega
   have hpq:(p:Int)<=q:=by omega
   rw [hq] at hout
   have hsl:(s.take q).drop p=(s.drop p).take 1:=by rw [List.drop_take,show q-p=1 by omega]
   have hl1:((s.drop p).take 1).length<=1:=by rw [List.length_take];omega
   have e5:binS .add out ((s.drop p).take 1)=some (.str (out++(s.drop p).take 1)):=binS_add (by omega)
   generalize (s.drop p).take 1=x at *
   simp (disch:=first|assumption|omega|(simp only [List.length_append,List.length_cons,List.length_nil];omega)) only [go_sem,hf,h9,h10,hlt',←hG]
   refine hsp.use ?_
   simp (disch:=first|assumption|omega|(simp only [List.length_append,List.length_cons,List.length_nil];omega)) only [go_sem,hf,h9,h10,eq,hqs,hpq,hsl,e5,←hG]
   refine ⟨q,by omega,by omega,⟨out++x,k,by omega,by rw [List.length_append];omega,by rw [List.append_assoc];exact hout,rfl,rfl⟩,rfl⟩
 ·have hlt':¬ (p:Int)<s.length:=by omega
  rw [List.drop_eq_nil_of_le (by omega),subR_nil,List.append_nil] at hout
  subst hout
  simp (disch:=first|assumption|omega|(simp only [List.length_append,List.length_cons,List.length_nil];omega)) only [go_sem,hf,h9,h10,hlt',←hG]
  refine hM.use ?_
  simp (disch:=first|assumption|omega|(simp only [List.length_append,List.length_cons,List.length_nil];omega)) only [go_sem,hf,ASt.set_set]
  exact retC_by (by repeat' (first|exact Drop.refl _|with_reducible refine Drop.off ?_ (by assumption))) (.refl _) ⟨rfl,rfl⟩
end Go.A
namespace Go.A
open Go.Proofs
/-! 96: tabular/texts.reverse -/
def c96_10:ACode := .seq (.seq (.ops [ oq 11 (.mv (.t 4)),oq 12 (.mv (.t 5)),oq 13 (.bin .lss (.t 11) (.t 12))]) (.cond (.t 13) .skip (.exit 0))) (.seq (.block 1 (.ops [ oq 18 (.mv (.t 3)),oq 19 (.mv (.t 4)),oq 20 (.mv (.t 3)),oq 21 (.mv (.t 5)),oq 22 (.mv (.t 3)),oq 23 (.mv (.t 5)),oq 24 (.ia 1 (.t 22) (.t 23)),oq 25 (.ld none (.t 24)),oq 26 (.mv (.t 3)),oq 27 (.mv (.t 4)),oq 28 (.ia 1 (.t 26) (.t 27)),oq 29 (.ld none (.t 28)),oq 30 (.ia 1 (.t 18) (.t 19)),oz (.store 1 (.t 30) (.t 25)),oq 31 (.ia 1 (.t 20) (.t 21)),oz (.store 1 (.t 31) (.t 29))])) (.ops [ oq 14 (.mv (.t 4)),oq 15 (.bin .add (.t 14) (.v (.int .i64 1))),oq 16 (.mv (.t 5)),oq 17 (.bin .sub (.t 16) (.v (.int .i64 1))),oq 4 (.mv (.t 15)),oq 5 (.mv (.t 17))]))
def c96_18:ACode := .seq (.ops [ oq 2 (.mv (.v (.str [])))]) (.seq (.ops [ oq 6 (.mv (.t 0)),oe 7 (.s2r (.t 6)),oq 3 (.mv (.t 7))]) (.seq (.seq (.ops [ oq 8 (.mv (.t 3)),oq 9 (.len (.t 8)),oq 10 (.bin .sub (.t 9) (.v (.int .i64 1))),oq 4 (.mv (.v (.int .i64 0))),oq 5 (.mv (.t 10))]) (.block 0 (.loop c96_10))) (.seq (.ops [ oq 32 (.mv (.t 3)),oq 33 (.r2s (.t 32)),oq 2 (.mv (.t 33))]) .ret)))
@[go_sem] def c96_10_wp:=wp_of c96_10.eq_1
@[go_sem] def c96_18_wp:=wp_of c96_18.eq_1
def c96:AFn:=⟨34,[.t 2],c96_18⟩
theorem c96_ok:compF Tryz.prog Tryz.f96=some c96:=by kernel_rfl
theorem a96 {args:List AV} {σ:ASt} {R:AV->ASt->Prop} (hl:args.length<=34) (h:c96_18.wp Tryz.prog (RetQ [.t 2] R) (init args) σ):ACalls Tryz.prog 96 args σ R:=acalls_of Tryz.func96 c96_ok hl h
end Go.A
namespace Go.A
open Go.Proofs Go.Lib
theorem i32_get {M:List Int} {i:Nat} {x:Int} (h:M[i]? = some x):(M.map (AV.int .i32))[i]? = some (.int .i32 x):=by rw [List.getElem?_map,h];rfl
theorem i32_set {M:List Int} {i:Nat} (x:Int) (h:i<M.length):(M.map (AV.int .i32)).take i ++ [AV.int .i32 x]++(M.map (AV.int .i32)).drop (i+1)=(M.set i x).map (AV.int .i32):=by
 rw [List.map_set,List.set_eq_take_append_cons_drop,if_pos (by rw [List.length_map];exact h),List.append_assoc]
 rfl
set_option maxHeartbeats 1000000 in
theorem xreverse_ok (s:List UInt8) (hs:s.length<=200000):Pure Tryz.prog 96 [.str s] (.str (revP s)):=by
 intro σ
 have hn:=runesOf_len s
 unfold revP
 obtain ⟨L,hL⟩:∃ L,runesOf s=L:=⟨_,rfl⟩
 obtain ⟨n,hn2⟩:∃ n,L.length=n:=⟨_,rfl⟩
 rw [hL,hn2] at hn
 rw [hL]
 refine a96 (by simp) ?_
 simp (disch:=first|assumption|omega|(simp only [List.length_append,List.length_cons,List.length_nil];omega)) only [go_sem]
 refine s2r_own (by omega) fun b cp hb hcp=>?_
 rw [hL] at hcp ⊢
 rw [hn2] at hcp ⊢
 simp (disch:=first|assumption|omega|(simp only [List.length_append,List.length_cons,List.length_nil];omega)) only [go_sem]
 refine wp_loop_on (fun (i:Nat) a σ'=>2*i<=n/\(∃ M:List Int,M.length=n/\(∀ j,M[j]? = if j<i\/n<j+1+i then (if j<n then L[n-1-j]? else none) else L[j]?)/\σ'=σ.set b (some (.obj (M.map (AV.int .i32)))))/\(a 3 = .msl b 0 n cp/\a 4 = .int .i64 i/\a 5 = .int .i64 ((n:Int)-1-i))) (fun i=>n-i) 0 ⟨by omega,⟨L,hn2,?_,rfl⟩,?_⟩ ?_
 ·intro j
  by_cases h:n<j+1+0
  ·rw [if_pos (.inr h),if_neg (by omega),List.getElem?_eq_none (by omega)]
  ·rw [if_neg (by omega)]
 ·simp (disch:=first|assumption|omega|(simp only [List.length_append,List.length_cons,List.length_nil];omega)) only [go_sem]
  simp
 rintro i a σ1 ⟨hi,⟨M,hMl,hM,rfl⟩,hf⟩
 have lm:(M.map (AV.int .i32)).length=n:=by rw [List.length_map];exact hMl
 by_cases hlt:2*i+1<n
 ·obtain ⟨k,hk⟩:∃ k:Nat,n=k+1+i:=⟨n-1-i,by omega⟩
  have ek:(n:Int)-1-i=k:=by omega
  rw [ek] at hf
  have hlt':(i:Int)<k:=by omega
  obtain ⟨x,hx⟩:∃ x,M[i]? = some x:=⟨_,List.getElem?_eq_getElem (by omega)⟩
  obtain ⟨y,hy⟩:∃ y,M[k]? = some y:=⟨_,List.getElem?_eq_getElem (by omega)⟩
  have gx:=i32_get hx
  have gy:=i32_get hy
  have s1:=i32_set (M:=M) y (show i<M.length by omega)
  have s2:=i32_set (M:=M.set i y) x (show k<(M.set i y).length by rw [List.length_set];omega)
  have l1:i+1<=M.length:=by omega
  have l2:k+1<=M.length:=by omega
  have l3:k+1<=(M.set i y).length:=by rw [List.length_set];omega
  have ei:(i:Int)+1=((i+1:Nat):Int):=by omega
  have hM2:∀ j,((M.set i y).set k x)[j]? = if j<i+1\/n<j+1+(i+1) then (if j<n then L[n-1-j]? else none) else L[j]? := by
   intro j
   have hxl:=hM i
   have hyl:=hM k
   rw [hx,if_neg (by omega)] at hxl
   rw [hy,if_neg (by omega)] at hyl
   by_cases j1:j=k
   ·subst j1
    rw [List.getElem?_set_self (by rw [List.length_set];omega),if_pos (by omega),if_pos (by omega),show n-1-j=i by omega,← hxl]
   ·rw [List.getElem?_set_ne (by omega)]
    by_cases j2:j=i
    ·subst j2
     rw [List.getElem?_set_self (by omega),if_pos (by omega),if_pos (by omega),show n-1-j=k by omega,← hyl]
    ·rw [List.getElem?_set_ne (by omega),hM j]
     by_cases c:j<i\/n<j+1+i
     ·rw [if_pos c,if_pos (show j<i+1\/n<j+1+(i+1) by omega)]
     ·rw [if_neg c,if_neg (show ¬ (j<i+1\/n<j+1+(i+1)) by omega)]
  simp (disch:=first|assumption|omega|(simp only [List.length_append,List.length_cons,List.length_nil];omega)) only [go_sem,hf,hlt',gx,gy,s1,s2,l1,l2,l3,ASt.set_set]
  exact ⟨i+1,by omega,by omega,⟨_,by simp [hMl],hM2,rfl⟩,rfl,by congr 1;omega⟩
 ·have hlt':¬ (i:Int)<(n:Int)-1-i:=by omega
  have hrev:M=L.reverse:=by
   apply List.ext_getElem?
   intro j
   rw [hM j]
   by_cases hj:j<n
   ·rw [List.getElem?_reverse (by omega),hn2]
    by_cases c:j<i\/n<j+1+i
    ·rw [if_pos c,if_pos hj]
    ·rw [if_neg c]
     congr 1
     omega
   ·rw [if_pos (by omega),if_neg hj,List.getElem?_eq_none (by rw [List.length_reverse];omega)]
  have tk:(M.map (AV.int .i32)).take n=M.map (AV.int .i32):=List.take_of_length_le (by omega)
  have hio:=intsOf_map M
  have ln:n<=M.length:=by omega
  rw [<-hrev]
  simp (disch:=first|assumption|omega|(simp only [List.length_append,List.length_cons,List.length_nil];omega)) only [go_sem,hf,hlt',tk,hio,ln,List.drop_zero]
  exact retC_by (by repeat' (first|exact Drop.refl _|with_reducible refine Drop.off ?_ (by assumption))) (.refl _) ⟨rfl,rfl⟩
theorem trim_ok17 {σ:ASt} (hM:MaxL σ) (s:List UInt8) (hs:s.length<=1000000):ACalls Tryz.prog 94 [.str s] σ fun v σ'=>v = .str (trimT s)/\σ'=σ:=by
 obtain ⟨m,hm⟩:=hM
 refine ACalls.of_below (u := .string ⟨⟨trimT s⟩⟩) (fun w vs hsim ha=>?_) fun w => .str _
 cases ha with
 | cons h1 h2=>
 cases h2;cases h1
 exact trim_world s hs w m (fix_ints hsim hm 0 m rfl)
theorem xone_REVERSE (s:List UInt8) (hs:s.length<=200000):Pure Tryz.prog 62 [.str nREVERSE,.str s] (PV.text (revP s)).av:=by
 intro σ
 have h1:=xreverse_ok s (by omega)
 simp only [PV.av]
 unfold nREVERSE
 refine a62 (by simp) ?_
 simp (disch:=first|assumption|omega|(simp only [List.length_append,List.length_cons,List.length_nil];omega)) only [go_sem,nes_REVERSE]
 refine h1.use ?_
 simp (disch:=first|assumption|omega|(simp only [List.length_append,List.length_cons,List.length_nil];omega)) only [go_sem,nes_REVERSE]
 exact retC_by (.refl _) (.refl _) ⟨rfl,rfl⟩
theorem xone_TRIM {σ:ASt} (hM:MaxL σ) (s:List UInt8) (hs:s.length<=200000):ACalls Tryz.prog 62 [.str nTRIM,.str s] σ fun v σ'=>v=(PV.text (trimT s)).av/\σ'=σ:=by
 have h1:=trim_ok17 hM s (by omega)
 simp only [PV.av]
 unfold nTRIM
 refine a62 (by simp) ?_
 simp (disch:=first|assumption|omega|(simp only [List.length_append,List.length_cons,List.length_nil];omega)) only [go_sem,nes_TRIM]
 refine h1.mono ?_
 rintro v σ' ⟨rfl,rfl⟩
 simp (disch:=first|assumption|omega|(simp only [List.length_append,List.length_cons,List.length_nil];omega)) only [go_sem,nes_TRIM]
 exact retC_by (.refl _) (.refl _) ⟨rfl,rfl⟩
theorem maxl_keep {σ τ:ASt} (h:MaxL σ) (hk:∀ x r,σ x=some r->τ x=some r):MaxL τ:=by
 obtain ⟨m,hm⟩:=h
 exact ⟨m,hk _ _ hm⟩
section
variable {σ:ASt} (hT:Tab σ) (s:List UInt8) (hs:s.length<=200000)
include hT hs
end
end Go.A
end
