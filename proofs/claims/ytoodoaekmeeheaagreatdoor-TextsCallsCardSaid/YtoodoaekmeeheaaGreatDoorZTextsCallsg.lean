/- Part 7 of what TextsCalls leans on: Ud CodeUe Ue CodeTca Tca Zd Zg CodeZw Zw CodeUf Uf Jq CodeUg Ug CodeUh Uh Uk Tm Tn Up CodeGi. -/
import Derived.Test.YtoodoaekmeeheaaGreatDoorProg
import Derived.KernelRfl
import Derived.Lib.LaidU8
import Derived.RangeFuncBox
import Derived.RangeFuncLeaves
import Derived.Shelf.Abstract
import Derived.WalkKit
import Derived.OwnWalkIn
import Derived.TacticsInMore
import Derived.LoopNIn
import Derived.LoopIn
import Derived.Maps.AppendAt
import Derived.RangeFuncKeeps
import Derived.RangeFuncBound
import Derived.Lib.Join
import Derived.Test.YtoodoaekmeeheaaGreatDoorZTextsCallsf
set_option linter.defProp false
set_option linter.unusedSimpArgs false
set_option linter.unusedVariables false
set_option maxRecDepth 100000
section
attribute [local go_sem] reduceCtorEq Nat.reduceEqDiff Nat.reduceAdd Nat.reduceSub Nat.reduceMul Nat.reduceLeDiff Int.reduceLT Int.reduceLE Int.reduceEq Int.reduceNeg Int.reduceAdd Int.reduceSub Int.reduceMul true_imp_iff forall_const Nat.mul_one Int.reduceToNat Nat.reducePow Int.reducePow Bool.true_and Bool.false_and Bool.and_false
attribute [local go_sem ↓] reduceIte
namespace Go.A
open Go.Proofs Go.Lib
def asIntV (v:PV):Int×Int:=((asNum v).1.tdiv 10000,(asNum v).2)
theorem xparseQ_rng {m d:Bool} {w p:List UInt8} {v:Int} (h:parseQ m w p d=some v):v.natAbs<=999999999999999999:=by
 unfold parseQ at h
 split at h
 ·cases h
 ·obtain ⟨n,_,hn⟩:=Option.bind_eq_some_iff.1 h
  unfold madeP at hn
  split at hn
  ·injection hn with hn
   split at hn<;>omega
  ·cases hn
theorem xparseD_rng {s:List UInt8} {v:Int} (h:parseD s=some v):v.natAbs<=999999999999999999:=xparseQ_rng h
theorem asNum_rng (v:PV) (hv:v.good):(asNum v).1.natAbs<=999999999999999999:=by
 cases v with
 | num n=>exact hv
 | text s=>
   simp only [asNum]
   cases h:parseD (Lib.trimB s 32) with
   | none=>decide
   | some n=>exact xparseD_rng h
 | blank=>decide
 | bool b=>cases b<;>decide
 | fail n=>show (0:Int).natAbs<=_;decide
theorem asint_ok (v:PV) (hv:v.small) (hg:v.good):Pure Tryz.prog 76 [v.av] (.tuple [.int .i64 (asIntV v).1,.int .i64 (asIntV v).2]):=by
 intro σ
 have h:=asNumber_ok v hv
 unfold asIntV
 have hr:=asNum_rng v hg
 have hw:∀ n:Int,n.natAbs<=999999999999999999->Pure Tryz.prog 106 [.int .i64 n] (.int .i64 (n.tdiv 10000)):=fun n hn σ=>by
  have hd:(n.tdiv 10000).natAbs<=n.natAbs:=by rw [Int.natAbs_tdiv];exact Nat.div_le_self _ _
  have hd3 : -9223372036854775808<=n.tdiv 10000/\n.tdiv 10000<=9223372036854775807:=by omega
  obtain ⟨hd4,hd5⟩:=hd3
  refine a106 (by simp) ?_
  simp (disch:=first|assumption|omega|(simp only [List.length_append,List.length_cons,List.length_nil];omega)) only [go_sem]
  exact retC_by (.refl _) (.refl _) ⟨rfl,rfl⟩
 generalize asNum v=w at *
 generalize v.av=x at *
 refine a76 (by simp) ?_
 simp (disch:=first|assumption|omega|(simp only [List.length_append,List.length_cons,List.length_nil];omega)) only [go_sem]
 refine h.use ?_
 simp (disch:=first|assumption|omega|(simp only [List.length_append,List.length_cons,List.length_nil];omega)) only [go_sem]
 refine (hw _ hr).use ?_
 simp (disch:=first|assumption|omega|(simp only [List.length_append,List.length_cons,List.length_nil];omega)) only [go_sem]
 exact retC_by (.refl _) (.refl _) ⟨rfl,rfl⟩
def madeT (s:List UInt8):PV:=if 2000<s.length then .fail 3 else .text s
theorem vmade_ok (s:List UInt8):Pure Tryz.prog 77 [.str s] (madeT s).av:=by
 intro σ
 refine a77 (by simp) ?_
 unfold madeT
 by_cases h:2000<s.length
 ·have h':(2000:Int)<s.length:=by omega
  rw [if_pos h]
  simp only [PV.av]
  simp (disch:=first|assumption|omega|(simp only [List.length_append,List.length_cons,List.length_nil];omega)) only [go_sem,h']
  exact retC_by (.refl _) (.refl _) ⟨rfl,rfl⟩
 ·have h':¬ (2000:Int)<s.length:=by omega
  rw [if_neg h]
  simp only [PV.av]
  simp (disch:=first|assumption|omega|(simp only [List.length_append,List.length_cons,List.length_nil];omega)) only [go_sem,h']
  exact retC_by (.refl _) (.refl _) ⟨rfl,rfl⟩
def replP (s:List UInt8) (f n:Int) (w:List UInt8):PV:=
 if f<1\/n<0 then .fail 3 else madeT (s.take (skipP s (f-1))++w++(s.drop (skipP s (f-1))).drop (skipP (s.drop (skipP s (f-1))) n))
theorem xrepl_ok (s:List UInt8) (f n:Int) (w:List UInt8) (hf:f<=9000000000000000000) (hs:s.length<=1000000) (hw:w.length<=1000000):Pure Tryz.prog 61 [.str s,.int .i64 f,.int .i64 n,.str w] (replP s f n w).av:=by
 intro σ
 have h1:=xskip_ok s (f-1) (by omega)
 have h2:=xskip_ok (s.drop (skipP s (f-1))) n (by rw [List.length_drop];omega)
 have k1:=skipP_le s (f-1)
 have k2:=skipP_le (s.drop (skipP s (f-1))) n
 obtain ⟨R,hR⟩:∃ R,replP s f n w=R:=⟨_,rfl⟩
 rw [hR]
 unfold replP at hR
 generalize skipP (s.drop (skipP s (f-1))) n=B at *
 generalize skipP s (f-1)=A at *
 rw [List.length_drop] at k2
 have h3:=vmade_ok (s.take A++w++(s.drop A).drop B)
 refine a61 (by simp) ?_
 by_cases c1:f<1
 ·rw [if_pos (.inl c1)] at hR
  subst hR
  simp only [PV.av]
  simp (disch:=first|assumption|omega|(simp only [List.length_append,List.length_cons,List.length_nil];omega)) only [go_sem,c1]
  exact retC_by (.refl _) (.refl _) ⟨rfl,rfl⟩
 by_cases c2:n<0
 ·rw [if_pos (.inr c2)] at hR
  subst hR
  simp only [PV.av]
  simp (disch:=first|assumption|omega|(simp only [List.length_append,List.length_cons,List.length_nil];omega)) only [go_sem,c1,c2]
  exact retC_by (.refl _) (.refl _) ⟨rfl,rfl⟩
 rw [if_neg (by omega)] at hR
 subst hR
 have l1:(s.take A).length<=1000000:=by rw [List.length_take];omega
 have l2:(s.take A++w).length<=2000000:=by rw [List.length_append];omega
 have l3:((s.drop A).drop B).length<=1000000:=by rw [List.length_drop,List.length_drop];omega
 have k3:(B:Int)<=((List.drop A s).length:Int):=by rw [List.length_drop];omega
 have k4:(s.drop A).take ((s.length-A))=s.drop A:=List.take_of_length_le (by rw [List.length_drop];omega)
 simp (disch:=first|assumption|omega|(simp only [List.length_append,List.length_cons,List.length_nil];omega)) only [go_sem,c1,c2]
 refine h1.use ?_
 simp (disch:=first|assumption|omega|(simp only [List.length_append,List.length_cons,List.length_nil];omega)) only [go_sem,List.take_length]
 refine h2.use ?_
 simp (disch:=first|assumption|omega|(simp only [List.length_append,List.length_cons,List.length_nil];omega)) only [go_sem,List.take_length,k4]
 refine h3.use ?_
 simp (disch:=first|assumption|omega|(simp only [List.length_append,List.length_cons,List.length_nil];omega)) only [go_sem]
 exact retC_by (.refl _) (.refl _) ⟨rfl,rfl⟩
end Go.A
namespace Go.A
open Go.Proofs
/-! 47: tabular/texts.sign -/
def c47_9:ACode := .seq (.ops [ oq 2 (.mv (.v .nili))]) (.seq (.seq (.ops [ oq 3 (.mv (.t 0)),oq 4 (.bin .lss (.t 3) (.v (.int .i64 1))),oq 5 (.mv (.t 4)),⟨some 6,some (5,false),.q (.mv (.t 0)),[]⟩,⟨some 7,some (5,false),.q (.bin .gtr (.t 6) (.v (.int .i64 1114111))),[]⟩,oq 8 (.pick (.t 5) (.v (.bool true)) (.t 7)),oq 9 (.mv (.t 8)),⟨some 10,some (9,false),.q (.mv (.t 0)),[]⟩,⟨some 11,some (9,false),.q (.conv .i32 (.t 10)),[]⟩,⟨some 12,some (9,false),.e (.call 75 [(.t 11)]),[]⟩,⟨some 13,some (9,false),.q (.un .not (.t 12)),[]⟩,oq 14 (.pick (.t 9) (.v (.bool true)) (.t 13))]) (.cond (.t 14) (.seq (.ops [ oq 15 (.mki 46 (.v (.int .i64 3))),oq 2 (.mv (.t 15))]) .ret) .skip)) (.seq (.ops [ oq 16 (.mv (.t 0)),oq 17 (.conv .i32 (.t 16)),oq 18 (.i2s (.t 17)),oq 19 (.mki 89 (.t 18)),oq 2 (.mv (.t 19))]) .ret))
@[go_sem] def c47_9_wp:=wp_of c47_9.eq_1
def c47:AFn:=⟨20,[.t 2],c47_9⟩
theorem c47_ok:compF Tryz.prog Tryz.f47=some c47:=by kernel_rfl
theorem a47 {args:List AV} {σ:ASt} {R:AV->ASt->Prop} (hl:args.length<=20) (h:c47_9.wp Tryz.prog (RetQ [.t 2] R) (init args) σ):ACalls Tryz.prog 47 args σ R:=acalls_of Tryz.func47 c47_ok hl h
/-! 48: (*tabular/texts.reader).int -/
def c48_16:ACode := .seq (.ops [ oq 6 (.mv (.v (.int .i64 0)))]) (.seq (.seq (.ops [ oq 9 (.mv (.t 0)),oq 10 (.mv (.t 1)),oe 11 (.call 59 [(.t 9),(.t 10)]),oq 12 (.un .not (.t 11))]) (.cond (.t 12) (.seq (.ops [ oq 13 (.mv (.t 2)),oq 6 (.mv (.t 13))]) .ret) .skip)) (.seq (.ops [ oq 15 (.mv (.t 0)),oq 16 (.nc (.t 15)),oq 17 (.fa 0 (.t 16)),oq 18 (.ld none (.t 17)),oq 19 (.mv (.t 1)),oq 20 (.ia 4 (.t 18) (.t 19)),oq 21 (.ld (some 4) (.t 20)),oe 22 (.call 43 [(.t 21)]),oe 23 (.call 76 [(.t 22)]),oq 14 (.mv (.t 23)),oq 24 (.ext 0 (.t 14)),oq 25 (.ext 1 (.t 14)),oq 7 (.mv (.t 24)),oq 8 (.mv (.t 25))]) (.seq (.seq (.ops [ oq 26 (.mv (.t 0)),oq 27 (.nc (.t 26)),oq 28 (.fa 1 (.t 27)),oq 29 (.ld none (.t 28)),oq 30 (.bin .eql (.t 29) (.v (.int .i64 0)))]) (.cond (.t 30) (.ops [ oq 31 (.mv (.t 0)),oq 32 (.mv (.t 8)),oq 33 (.nc (.t 31)),oq 34 (.fa 1 (.t 33)),oz (.store 1 (.t 34) (.t 32))]) .skip)) (.seq (.ops [ oq 35 (.mv (.t 7)),oq 36 (.mnx false (.t 35) (.v (.int .i64 2000000))),oq 37 (.mnx true (.t 36) (.v (.int .i64 (-2000000)))),oq 6 (.mv (.t 37))]) .ret))))
@[go_sem] def c48_16_wp:=wp_of c48_16.eq_1
def c48:AFn:=⟨38,[.t 6],c48_16⟩
theorem c48_ok:compF Tryz.prog Tryz.f48=some c48:=by kernel_rfl
theorem a48 {args:List AV} {σ:ASt} {R:AV->ASt->Prop} (hl:args.length<=38) (h:c48_16.wp Tryz.prog (RetQ [.t 6] R) (init args) σ):ACalls Tryz.prog 48 args σ R:=acalls_of Tryz.func48 c48_ok hl h
/-! 53: (*tabular/texts.reader).text -/
def c53_10:ACode := .seq (.ops [ oq 4 (.mv (.v (.str [])))]) (.seq (.ops [ oq 8 (.mv (.t 0)),oq 9 (.nc (.t 8)),oq 10 (.fa 0 (.t 9)),oq 11 (.ld none (.t 10)),oq 12 (.mv (.t 1)),oq 13 (.ia 4 (.t 11) (.t 12)),oq 14 (.ld (some 4) (.t 13)),oe 15 (.call 43 [(.t 14)]),oe 16 (.call 46 [(.t 15)]),oq 7 (.mv (.t 16)),oq 17 (.ext 0 (.t 7)),oq 18 (.ext 1 (.t 7)),oq 5 (.mv (.t 17)),oq 6 (.mv (.t 18))]) (.seq (.seq (.ops [ oq 19 (.mv (.t 0)),oq 20 (.nc (.t 19)),oq 21 (.fa 1 (.t 20)),oq 22 (.ld none (.t 21)),oq 23 (.bin .eql (.t 22) (.v (.int .i64 0)))]) (.cond (.t 23) (.ops [ oq 24 (.mv (.t 0)),oq 25 (.mv (.t 6)),oq 26 (.nc (.t 24)),oq 27 (.fa 1 (.t 26)),oz (.store 1 (.t 27) (.t 25))]) .skip)) (.seq (.ops [ oq 28 (.mv (.t 5)),oq 4 (.mv (.t 28))]) .ret)))
@[go_sem] def c53_10_wp:=wp_of c53_10.eq_1
def c53:AFn:=⟨29,[.t 4],c53_10⟩
theorem c53_ok:compF Tryz.prog Tryz.f53=some c53:=by kernel_rfl
theorem a53 {args:List AV} {σ:ASt} {R:AV->ASt->Prop} (hl:args.length<=29) (h:c53_10.wp Tryz.prog (RetQ [.t 4] R) (init args) σ):ACalls Tryz.prog 53 args σ R:=acalls_of Tryz.func53 c53_ok hl h
/-! 59: (*tabular/texts.reader).has -/
def c59_3:ACode := .seq (.ops [ oq 4 (.mv (.v (.bool false)))]) (.seq (.ops [ oq 5 (.mv (.t 1)),oq 6 (.mv (.t 0)),oq 7 (.nc (.t 6)),oq 8 (.fa 0 (.t 7)),oq 9 (.ld none (.t 8)),oq 10 (.len (.t 9)),oq 11 (.bin .lss (.t 5) (.t 10)),oq 4 (.mv (.t 11))]) .ret)
@[go_sem] def c59_3_wp:=wp_of c59_3.eq_1
def c59:AFn:=⟨12,[.t 4],c59_3⟩
theorem c59_ok:compF Tryz.prog Tryz.f59=some c59:=by kernel_rfl
theorem a59 {args:List AV} {σ:ASt} {R:AV->ASt->Prop} (hl:args.length<=12) (h:c59_3.wp Tryz.prog (RetQ [.t 4] R) (init args) σ):ACalls Tryz.prog 59 args σ R:=acalls_of Tryz.func59 c59_ok hl h
/-! 95: tabular/texts.code -/
def c95_10:ACode := .seq (.ops [ oe 7 (.nxt (.t 6)),oq 8 (.ext 0 (.t 7))]) (.seq (.cond (.t 8) .skip (.exit 0)) (.block 1 (.seq (.ops [ oq 9 (.ext 2 (.t 7)),oq 4 (.mv (.t 9))]) (.seq (.ops [ oq 10 (.mv (.t 4)),oq 11 (.conv .i64 (.t 10)),oe 12 (.call 87 [(.t 11)]),oq 13 (.ext 0 (.t 12)),oq 14 (.ext 1 (.t 12)),oe 15 (.call 86 [(.t 13),(.t 14)]),oq 2 (.mv (.t 15))]) .ret))))
def c95_17:ACode := .seq (.ops [ oq 2 (.mv (.v .nili))]) (.seq (.seq (.ops [ oq 5 (.mv (.t 0)),oe 6 (.rng (.t 5))]) (.block 0 (.loop c95_10))) (.seq (.ops [ oq 16 (.mki 46 (.v (.int .i64 3))),oq 2 (.mv (.t 16))]) .ret))
@[go_sem] def c95_10_wp:=wp_of c95_10.eq_1
@[go_sem] def c95_17_wp:=wp_of c95_17.eq_1
def c95:AFn:=⟨17,[.t 2],c95_17⟩
theorem c95_ok:compF Tryz.prog Tryz.f95=some c95:=by kernel_rfl
theorem a95 {args:List AV} {σ:ASt} {R:AV->ASt->Prop} (hl:args.length<=17) (h:c95_17.wp Tryz.prog (RetQ [.t 2] R) (init args) σ):ACalls Tryz.prog 95 args σ R:=acalls_of Tryz.func95 c95_ok hl h
end Go.A
namespace Go.A
open Go.Proofs Go.Lib
theorem xarg_get {L:List PV} {i:Nat} {v:PV} (h:L[i]? = some v):(L.map argAV)[i]? = some (.agg [.int .i64 1,.int .i64 1,.bool false,.sl .full [v.av]]):=by rw [List.getElem?_map,h];rfl
theorem xset_self {σ:ASt} {b:Nat} {r:Option Role} (h:σ b=r):σ.set b r=σ:=by
 funext x
 simp only [ASt.set]
 split
 ·rename_i e;rw [e,h]
 ·rfl
def rdO (L:List PV) (f:Int):Option Role:=some (.obj [.sl .shr (L.map argAV),.int .i64 f])
def seen (f g:Int):Int:=if f=0 then g else f
theorem xrtext_ok {σ:ASt} {b:Nat} {L:List PV} {f:Int} (hT:Tab σ) (hb:σ b=rdO L f) (i:Nat) {v:PV} (hi:L[i]? = some v) (hg:v.good) :
  ACalls Tryz.prog 53 [.ptr b 0,.int .i64 i] σ fun r σ'=>r = .str (asTextP v).1/\σ'=σ.set b (rdO L (seen f (asTextP v).2)):=by
 have h1:=argval_ok v
 have h2:=asText_ok hT v hg
 have h3:=xarg_get hi
 unfold argAV at h1
 unfold rdO at hb ⊢
 generalize hLA:L.map argAV=LA at *
 generalize asTextP v=w at *
 have hav:=PV.av_cells v
 have han:=PV.av_any v
 generalize v.av=x at *
 refine a53 (by simp) ?_
 simp (disch:=first|assumption|omega|(simp only [List.length_append,List.length_cons,List.length_nil];omega)) only [go_sem,hb,h3,hav,han]
 refine h1.use ?_
 simp (disch:=first|assumption|omega|(simp only [List.length_append,List.length_cons,List.length_nil];omega)) only [go_sem]
 refine h2.mono ?_
 rintro r σ' ⟨rfl,rfl⟩
 unfold seen
 by_cases hf:f=0
 ·rw [if_pos hf]
  simp (disch:=first|assumption|omega|(simp only [List.length_append,List.length_cons,List.length_nil];omega)) only [go_sem,hb,hf]
  exact retC_by (.refl _) (.refl _) ⟨rfl,rfl⟩
 ·rw [if_neg hf]
  simp (disch:=first|assumption|omega|(simp only [List.length_append,List.length_cons,List.length_nil];omega)) only [go_sem,hb,hf]
  exact retC_by (.refl _) (.refl _) ⟨rfl,(xset_self hb).symm⟩
def clampP (n:Int):Int:=max (min n 2000000) (-2000000)
theorem xrhas_ok {σ:ASt} {b:Nat} {L:List PV} {f:Int} (hb:σ b=rdO L f) (i:Nat) :
  ACalls Tryz.prog 59 [.ptr b 0,.int .i64 i] σ fun r σ'=>r = .bool (decide (i<L.length))/\σ'=σ:=by
 unfold rdO at hb
 have hl:(L.map argAV).length=L.length:=List.length_map _
 generalize L.map argAV=LA at *
 refine a59 (by simp) ?_
 by_cases h:i<L.length
 ·have h':(i:Int)<L.length:=by omega
  rw [decide_eq_true h]
  simp (disch:=first|assumption|omega|(simp only [List.length_append,List.length_cons,List.length_nil];omega)) only [go_sem,hb,hl,h']
  exact retC_by (.refl _) (.refl _) ⟨rfl,rfl⟩
 ·have h':¬ (i:Int)<L.length:=by omega
  rw [decide_eq_false h]
  simp (disch:=first|assumption|omega|(simp only [List.length_append,List.length_cons,List.length_nil];omega)) only [go_sem,hb,hl,h']
  exact retC_by (.refl _) (.refl _) ⟨rfl,rfl⟩
theorem xrint_none {σ:ASt} {b:Nat} {L:List PV} {f:Int} (hb:σ b=rdO L f) (i:Nat) (o:Int) (hi:L.length<=i) :
  ACalls Tryz.prog 48 [.ptr b 0,.int .i64 i,.int .i64 o] σ fun r σ'=>r = .int .i64 o/\σ'=σ:=by
 have h1:=xrhas_ok hb i
 rw [decide_eq_false (by omega)] at h1
 refine a48 (by simp) ?_
 simp (disch:=first|assumption|omega|(simp only [List.length_append,List.length_cons,List.length_nil];omega)) only [go_sem]
 refine h1.mono ?_
 rintro r σ' ⟨rfl,rfl⟩
 simp (disch:=first|assumption|omega|(simp only [List.length_append,List.length_cons,List.length_nil];omega)) only [go_sem]
 exact retC_by (.refl _) (.refl _) ⟨rfl,rfl⟩
theorem xrint_ok {σ:ASt} {b:Nat} {L:List PV} {f:Int} (hb:σ b=rdO L f) (i:Nat) (o:Int) {v:PV} (hi:L[i]? = some v) (hg:v.good) (hs:v.small) :
  ACalls Tryz.prog 48 [.ptr b 0,.int .i64 i,.int .i64 o] σ fun r σ'=>r = .int .i64 (clampP (asIntV v).1)/\σ'=σ.set b (rdO L (seen f (asIntV v).2)):=by
 have h0:=xrhas_ok hb i
 rw [decide_eq_true (List.getElem?_eq_some_iff.1 hi).1] at h0
 have h1:=argval_ok v
 have h2:=asint_ok v hs hg
 have h3:=xarg_get hi
 unfold argAV at h1
 unfold rdO at hb ⊢
 generalize hLA:L.map argAV=LA at *
 generalize asIntV v=w at *
 have hav:=PV.av_cells v
 have han:=PV.av_any v
 generalize v.av=x at *
 refine a48 (by simp) ?_
 simp (disch:=first|assumption|omega|(simp only [List.length_append,List.length_cons,List.length_nil];omega)) only [go_sem]
 refine h0.mono ?_
 rintro r σ' ⟨rfl,rfl⟩
 simp (disch:=first|assumption|omega|(simp only [List.length_append,List.length_cons,List.length_nil];omega)) only [go_sem,hb,h3,hav,han]
 refine h1.use ?_
 simp (disch:=first|assumption|omega|(simp only [List.length_append,List.length_cons,List.length_nil];omega)) only [go_sem]
 refine h2.use ?_
 unfold seen clampP
 by_cases hf:f=0
 ·rw [if_pos hf]
  simp (disch:=first|assumption|omega|(simp only [List.length_append,List.length_cons,List.length_nil];omega)) only [go_sem,hb,hf]
  exact retC_by (.refl _) (.refl _) ⟨rfl,rfl⟩
 ·rw [if_neg hf]
  simp (disch:=first|assumption|omega|(simp only [List.length_append,List.length_cons,List.length_nil];omega)) only [go_sem,hb,hf]
  exact retC_by (.refl _) (.refl _) ⟨rfl,(xset_self hb).symm⟩
theorem validRune_ok (r:Int):Pure Tryz.prog 75 [.int .i32 r] (.bool (validRune r)):=by
 intro σ
 refine ACalls.of_ext (u := .bool (validRune r)) (fun w vs hs ha=>?_) fun w => .bool _
 cases ha with
 | cons h1 h2=>
 cases h1;cases h2
 refine (Tryz.utf8_ValidRune r w).mono ?_
 rintro e w' ⟨rfl,rfl⟩
 exact ⟨rfl,Ext.refl _⟩
def signV (n:Int):PV:=if n<1\/1114111<n\/validRune n=false then .fail 3 else .text (Utf8.encode n).data.toList
theorem xsign_ok (n:Int):Pure Tryz.prog 47 [.int .i64 n] (signV n).av:=by
 intro σ
 have hv:=validRune_ok n
 obtain ⟨R,hR⟩:∃ R,signV n=R:=⟨_,rfl⟩
 rw [hR]
 unfold signV at hR
 refine a47 (by simp) ?_
 by_cases c1:n<1
 ·rw [if_pos (.inl c1)] at hR
  subst hR
  simp only [PV.av]
  simp (disch:=first|assumption|omega|(simp only [List.length_append,List.length_cons,List.length_nil];omega)) only [go_sem,c1]
  exact retC_by (.refl _) (.refl _) ⟨rfl,rfl⟩
 by_cases c2:1114111<n
 ·rw [if_pos (.inr (.inl c2))] at hR
  subst hR
  simp only [PV.av]
  simp (disch:=first|assumption|omega|(simp only [List.length_append,List.length_cons,List.length_nil];omega)) only [go_sem,c1,c2]
  exact retC_by (.refl _) (.refl _) ⟨rfl,rfl⟩
 have hw:IntKind.i32.wrap n=n:=by rw [IntKind.wrap_i32];omega
 cases h3:validRune n with
 | false=>
   rw [if_pos (.inr (.inr h3))] at hR
   subst hR
   rw [h3] at hv
   simp only [PV.av]
   simp (disch:=first|assumption|omega|(simp only [List.length_append,List.length_cons,List.length_nil];omega)) only [go_sem,c1,c2,hw]
   refine hv.use ?_
   simp (disch:=first|assumption|omega|(simp only [List.length_append,List.length_cons,List.length_nil];omega)) only [go_sem]
   exact retC_by (.refl _) (.refl _) ⟨rfl,rfl⟩
 | true=>
   rw [if_neg (by rw [h3];simp;omega)] at hR
   subst hR
   rw [h3] at hv
   simp only [PV.av]
   simp (disch:=first|assumption|omega|(simp only [List.length_append,List.length_cons,List.length_nil];omega)) only [go_sem,c1,c2,hw]
   refine hv.use ?_
   simp (disch:=first|assumption|omega|(simp only [List.length_append,List.length_cons,List.length_nil];omega)) only [go_sem,hw]
   exact retC_by (.refl _) (.refl _) ⟨rfl,rfl⟩
def codeV (s:List UInt8):PV:=if s = [] then .fail 3 else cntP (intP (decodeL s).1)
theorem xcode_ok (s:List UInt8) (hs:s.length<4611686018427387904):Pure Tryz.prog 95 [.str s] (codeV s).av:=by
 intro σ
 obtain ⟨R,hR⟩:∃ R,codeV s=R:=⟨_,rfl⟩
 rw [hR]
 unfold codeV at hR
 refine a95 (by simp) ?_
 by_cases h0:s = []
 ·rw [if_pos h0] at hR
  subst hR h0
  simp only [PV.av]
  simp (disch:=first|assumption|omega|(simp only [List.length_append,List.length_cons,List.length_nil];omega)) only [go_sem]
  refine rngC_by fun b hb=>?_
  simp (disch:=first|assumption|omega|(simp only [List.length_append,List.length_cons,List.length_nil];omega)) only [go_sem]
  refine wp_loop_by (fun (i:Unit) a σ'=>(a 6 = .ptr b 0)/\σ'=σ.set b (some (.iter [] 0))) (fun i=>0) () (Dr.now ⟨by simp [AFr.upd],rfl⟩) ?_
  rintro i a σ1 ⟨hf,rfl⟩
  simp (disch:=first|assumption|omega|(simp only [List.length_append,List.length_cons,List.length_nil];omega)) only [go_sem,hf]
  refine nxt_over (by simp) ?_
  simp (disch:=first|assumption|omega|(simp only [List.length_append,List.length_cons,List.length_nil];omega)) only [go_sem,hf]
  exact retC_by (by repeat' (first|exact Drop.refl _|with_reducible refine Drop.off ?_ (by assumption))) (.refl _) ⟨rfl,rfl⟩
 ·rw [if_neg h0] at hR
  subst hR
  have hpos:=List.length_pos_iff.2 h0
  obtain ⟨h1,h2,h3,h4⟩:=range_at (s:=s) (p:=0) hpos
  have hrb:=decodeL_rune s
  rw [List.drop_zero] at h2 h3 h4
  have hi:=int_ok ((decodeL s).1:Int) (by omega) (by omega)
  have hc:=counted_ok (intP ((decodeL s).1:Int))
  generalize intP ((decodeL s).1:Int)=o at *
  simp only [resAV] at hi
  generalize (cntP o).av=W at *
  simp (disch:=first|assumption|omega|(simp only [List.length_append,List.length_cons,List.length_nil];omega)) only [go_sem]
  refine rngC_by fun b hb=>?_
  simp (disch:=first|assumption|omega|(simp only [List.length_append,List.length_cons,List.length_nil];omega)) only [go_sem]
  refine wp_loop_by (fun (i:Unit) a σ'=>(a 6 = .ptr b 0)/\σ'=σ.set b (some (.iter s 0))) (fun i=>0) () (Dr.now ⟨by simp [AFr.upd],rfl⟩) ?_
  rintro i a σ1 ⟨hf,rfl⟩
  simp (disch:=first|assumption|omega|(simp only [List.length_append,List.length_cons,List.length_nil];omega)) only [go_sem,hf]
  refine nxt_more hpos ?_
  rw [h2]
  simp (disch:=first|assumption|omega|(simp only [List.length_append,List.length_cons,List.length_nil];omega)) only [go_sem,hf]
  refine hi.use ?_
  simp (disch:=first|assumption|omega|(simp only [List.length_append,List.length_cons,List.length_nil];omega)) only [go_sem]
  refine hc.use ?_
  simp (disch:=first|assumption|omega|(simp only [List.length_append,List.length_cons,List.length_nil];omega)) only [go_sem]
  exact retC_by (by repeat' (first|exact Drop.refl _|with_reducible refine Drop.off ?_ (by assumption))) (.refl _) ⟨rfl,rfl⟩
end Go.A
namespace Go.A
open Go.Proofs
/-! 26: tabular/tabularref15.AsNumber -/
def c26_35:ACode := .seq (.ops [ oe 1 (.box (.t 0)),oq 2 (.mv (.v (.int .i64 0))),oq 3 (.mv (.v (.int .i64 0)))]) (.seq (.seq (.ops [ oq 6 (.fa 0 (.t 1)),oq 7 (.ld none (.t 6))]) (.block 0 (.seq (.ops [ oq 9 (.bin .eql (.t 7) (.v (.int .i64 1))),oq 8 (.mv (.t 9))]) (.cond (.t 8) (.seq (.ops [ oq 10 (.fa 1 (.t 1)),oq 11 (.ld none (.t 10)),oq 2 (.mv (.t 11)),oq 3 (.mv (.v (.int .i64 0)))]) .ret) (.seq (.ops [ oq 13 (.bin .eql (.t 7) (.v (.int .i64 2))),oq 12 (.mv (.t 13))]) (.cond (.t 12) (.seq (.ops [ oq 15 (.fa 2 (.t 1)),oq 16 (.ld none (.t 15)),oe 17 (.call 66 [(.t 16)]),oe 18 (.call 65 [(.t 17)]),oq 14 (.mv (.t 18)),oq 19 (.ext 0 (.t 14)),oq 20 (.ext 1 (.t 14)),oq 4 (.mv (.t 19)),oq 5 (.mv (.t 20))]) (.seq (.seq (.ops [ oq 21 (.mv (.t 5)),oq 22 (.un .not (.t 21))]) (.cond (.t 22) (.seq (.ops [ oq 2 (.mv (.v (.int .i64 0))),oq 3 (.mv (.v (.int .i64 3)))]) .ret) .skip)) (.seq (.ops [ oq 23 (.mv (.t 4)),oq 2 (.mv (.t 23)),oq 3 (.mv (.v (.int .i64 0)))]) .ret))) (.seq (.ops [ oq 25 (.bin .eql (.t 7) (.v (.int .i64 3))),oq 24 (.mv (.t 25))]) (.cond (.t 24) (.seq (.ops [ oq 26 (.fa 1 (.t 1)),oq 27 (.ld none (.t 26)),oq 28 (.bin .mul (.t 27) (.v (.int .i64 10000))),oq 2 (.mv (.t 28)),oq 3 (.mv (.v (.int .i64 0)))]) .ret) (.seq (.ops [ oq 30 (.bin .eql (.t 7) (.v (.int .i64 4))),oq 29 (.mv (.t 30))]) (.cond (.t 29) (.seq (.ops [ oq 31 (.fa 1 (.t 1)),oq 32 (.ld none (.t 31)),oq 2 (.mv (.v (.int .i64 0))),oq 3 (.mv (.t 32))]) .ret) .skip)))))))))) (.seq (.ops [ oq 2 (.mv (.v (.int .i64 0))),oq 3 (.mv (.v (.int .i64 0)))]) .ret))
@[go_sem] def c26_35_wp:=wp_of c26_35.eq_1
def c26:AFn:=⟨33,[.t 2,.t 3],c26_35⟩
theorem c26_ok:compF Tryz.prog Tryz.f26=some c26:=by kernel_rfl
theorem a26 {args:List AV} {σ:ASt} {R:AV->ASt->Prop} (hl:args.length<=33) (h:c26_35.wp Tryz.prog (RetQ [.t 2,.t 3] R) (init args) σ):ACalls Tryz.prog 26 args σ R:=acalls_of Tryz.func26 c26_ok hl h
/-! 28: tabular/tabularref17.text -/
def c28_10:ACode := .seq (.ops [ oe 2 (.box (.t 0)),oe 4 (.alloc [(.sl .full []),(.int .i64 0)]),oq 5 (.mv (.v (.str [])))]) (.seq (.ops [ oq 9 (.fa 0 (.t 2)),oq 10 (.ld none (.t 9)),oq 11 (.mv (.t 1)),oq 12 (.ia 3 (.t 10) (.t 11)),oq 13 (.ld (some 3) (.t 12)),oe 14 (.call 70 [(.t 13)]),oq 8 (.mv (.t 14)),oq 15 (.ext 0 (.t 8)),oq 16 (.ext 1 (.t 8)),oq 6 (.mv (.t 15)),oq 7 (.mv (.t 16))]) (.seq (.seq (.ops [ oq 17 (.fa 1 (.t 2)),oq 18 (.ld none (.t 17)),oq 19 (.bin .eql (.t 18) (.v (.int .i64 0)))]) (.cond (.t 19) (.ops [ oq 20 (.mv (.t 7)),oq 21 (.fa 1 (.t 2)),oz (.store 1 (.t 21) (.t 20))]) .skip)) (.seq (.ops [ oq 22 (.ld (some 2) (.t 2)),oq 23 (.mv (.t 6)),oz (.store 2 (.t 4) (.t 22)),oq 5 (.mv (.t 23))]) .ret)))
@[go_sem] def c28_10_wp:=wp_of c28_10.eq_1
def c28:AFn:=⟨24,[.c 4 (some 2),.t 5],c28_10⟩
theorem c28_ok:compF Tryz.prog Tryz.f28=some c28:=by kernel_rfl
theorem a28 {args:List AV} {σ:ASt} {R:AV->ASt->Prop} (hl:args.length<=24) (h:c28_10.wp Tryz.prog (RetQ [.c 4 (some 2),.t 5] R) (init args) σ):ACalls Tryz.prog 28 args σ R:=acalls_of Tryz.func28 c28_ok hl h
/-! 66: tabular/tabularref15.Trim -/
def c66_6:ACode := .seq (.seq (.ops [ oq 3 (.mv (.t 0)),oq 4 (.lenS (.t 3)),oq 5 (.bin .gtr (.t 4) (.v (.int .i64 0))),oq 6 (.mv (.t 5)),⟨some 7,some (6,true),.q (.mv (.t 0)),[]⟩,⟨some 8,some (6,true),.q (.idx (.t 7) (.v (.int .i64 0))),[]⟩,⟨some 9,some (6,true),.q (.bin .eql (.t 8) (.v (.int .u8 32))),[]⟩,oq 10 (.pick (.t 6) (.t 9) (.v (.bool false)))]) (.cond (.t 10) .skip (.exit 0))) (.block 1 (.ops [ oq 11 (.mv (.t 0)),oq 12 (.slfrom (true,0) (.t 11) (.v (.int .i64 1))),oq 0 (.mv (.t 12))]))
def c66_14:ACode := .seq (.seq (.ops [ oq 13 (.mv (.t 0)),oq 14 (.lenS (.t 13)),oq 15 (.bin .gtr (.t 14) (.v (.int .i64 0))),oq 16 (.mv (.t 15)),⟨some 17,some (16,true),.q (.mv (.t 0)),[]⟩,⟨some 18,some (16,true),.q (.mv (.t 0)),[]⟩,⟨some 19,some (16,true),.q (.lenS (.t 18)),[]⟩,⟨some 20,some (16,true),.q (.bin .sub (.t 19) (.v (.int .i64 1))),[]⟩,⟨some 21,some (16,true),.q (.idx (.t 17) (.t 20)),[]⟩,⟨some 22,some (16,true),.q (.bin .eql (.t 21) (.v (.int .u8 32))),[]⟩,oq 23 (.pick (.t 16) (.t 22) (.v (.bool false)))]) (.cond (.t 23) .skip (.exit 2))) (.block 3 (.ops [ oq 24 (.mv (.t 0)),oq 25 (.mv (.t 0)),oq 26 (.lenS (.t 25)),oq 27 (.bin .sub (.t 26) (.v (.int .i64 1))),oq 28 (.slto (true,0) (.t 24) (.t 27)),oq 0 (.mv (.t 28))]))
def c66_19:ACode := .seq (.block 2 (.loop c66_14)) (.seq (.ops [ oq 29 (.mv (.t 0)),oq 2 (.mv (.t 29))]) .ret)
def c66_21:ACode := .seq (.ops [ oq 2 (.mv (.v (.str [])))]) (.seq (.block 0 (.loop c66_6)) c66_19)
@[go_sem] def c66_6_wp:=wp_of c66_6.eq_1
@[go_sem] def c66_14_wp:=wp_of c66_14.eq_1
@[go_sem] def c66_19_wp:=wp_of c66_19.eq_1
@[go_sem] def c66_21_wp:=wp_of c66_21.eq_1
def c66:AFn:=⟨30,[.t 2],c66_21⟩
theorem c66_ok:compF Tryz.prog Tryz.f66=some c66:=by kernel_rfl
theorem a66 {args:List AV} {σ:ASt} {R:AV->ASt->Prop} (hl:args.length<=30) (h:c66_21.wp Tryz.prog (RetQ [.t 2] R) (init args) σ):ACalls Tryz.prog 66 args σ R:=acalls_of Tryz.func66 c66_ok hl h
/-! 70: tabular/tabularref15.AsText -/
def c70_33:ACode := .seq (.ops [ oe 1 (.box (.t 0)),oq 2 (.mv (.v (.str []))),oq 3 (.mv (.v (.int .i64 0)))]) (.seq (.seq (.ops [ oq 4 (.fa 0 (.t 1)),oq 5 (.ld none (.t 4))]) (.block 0 (.seq (.ops [ oq 7 (.bin .eql (.t 5) (.v (.int .i64 1))),oq 6 (.mv (.t 7))]) (.cond (.t 6) (.seq (.ops [ oq 8 (.fa 1 (.t 1)),oq 9 (.ld none (.t 8)),oe 10 (.call 101 [(.t 9)]),oq 2 (.mv (.t 10)),oq 3 (.mv (.v (.int .i64 0)))]) .ret) (.seq (.ops [ oq 12 (.bin .eql (.t 5) (.v (.int .i64 2))),oq 11 (.mv (.t 12))]) (.cond (.t 11) (.seq (.ops [ oq 13 (.fa 2 (.t 1)),oq 14 (.ld none (.t 13)),oq 2 (.mv (.t 14)),oq 3 (.mv (.v (.int .i64 0)))]) .ret) (.seq (.ops [ oq 16 (.bin .eql (.t 5) (.v (.int .i64 3))),oq 15 (.mv (.t 16))]) (.cond (.t 15) (.seq (.seq (.ops [ oq 17 (.fa 1 (.t 1)),oq 18 (.ld none (.t 17)),oq 19 (.bin .eql (.t 18) (.v (.int .i64 1)))]) (.cond (.t 19) (.seq (.ops [ oq 2 (.mv (.v (.str [84,82,85,69]))),oq 3 (.mv (.v (.int .i64 0)))]) .ret) .skip)) (.seq (.ops [ oq 2 (.mv (.v (.str [70,65,76,83,69]))),oq 3 (.mv (.v (.int .i64 0)))]) .ret)) (.seq (.ops [ oq 21 (.bin .eql (.t 5) (.v (.int .i64 4))),oq 20 (.mv (.t 21))]) (.cond (.t 20) (.seq (.ops [ oq 22 (.fa 1 (.t 1)),oq 23 (.ld none (.t 22)),oq 2 (.mv (.v (.str []))),oq 3 (.mv (.t 23))]) .ret) .skip)))))))))) (.seq (.ops [ oq 2 (.mv (.v (.str []))),oq 3 (.mv (.v (.int .i64 0)))]) .ret))
@[go_sem] def c70_33_wp:=wp_of c70_33.eq_1
def c70:AFn:=⟨24,[.t 2,.t 3],c70_33⟩
theorem c70_ok:compF Tryz.prog Tryz.f70=some c70:=by kernel_rfl
theorem a70 {args:List AV} {σ:ASt} {R:AV->ASt->Prop} (hl:args.length<=24) (h:c70_33.wp Tryz.prog (RetQ [.t 2,.t 3] R) (init args) σ):ACalls Tryz.prog 70 args σ R:=acalls_of Tryz.func70 c70_ok hl h
end Go.A
namespace Go.A
open Go.Proofs Go.Lib
theorem trimB_cons (l:List UInt8):Lib.trimB (32::l) 32=Lib.trimB l 32:=by
 unfold Lib.trimB Lib.trimRightB
 rw [List.reverse_cons,List.dropWhile_append]
 split
 ·rename_i h
  have h':l.reverse.dropWhile (· == (32:UInt8)) = []:=List.isEmpty_iff.1 h
  rw [h']
  rfl
 ·rw [List.reverse_append]
  rfl
theorem trimB_snoc (l:List UInt8):Lib.trimB (l ++ [32]) 32=Lib.trimB l 32:=by
 unfold Lib.trimB Lib.trimRightB
 rw [List.reverse_append]
 rfl
theorem trimB_id {c d:UInt8} {l:List UInt8} (hc:c≠32) (hd:(c::l).getLast? = some d) (hd2:d≠32):Lib.trimB (c::l) 32=c::l:=by
 have h1:Lib.trimRightB (c::l) 32=c::l:=by
  unfold Lib.trimRightB
  have h2:(c::l).reverse.head? = some d:=by rw [List.head?_reverse];exact hd
  cases hr:(c::l).reverse with
  | nil=>rw [hr] at h2;cases h2
  | cons x r=>
    rw [hr] at h2
    obtain rfl:=Option.some.inj h2
    rw [List.dropWhile_cons,if_neg (by simpa using hd2),← hr,List.reverse_reverse]
 unfold Lib.trimB
 rw [h1]
 unfold Lib.trimLeftB
 rw [List.dropWhile_cons,if_neg (by simpa using hc)]
theorem r15trim_ok (s:List UInt8) (hs:s.length<=100000):Pure Tryz.prog 66 [.str s] (.str (Lib.trimB s 32)):=by
 intro σ
 obtain ⟨T,hT⟩:∃ T,T=Lib.trimB s 32:=⟨_,rfl⟩
 rw [<-hT]
 obtain ⟨J,hJ⟩:∃ J:List UInt8->AFr->ASt->Prop,J=fun x a s2=>(a 0 = .str x/\Lib.trimB x 32=T/\x.length<=s.length)/\s2=σ:=⟨_,rfl⟩
 obtain ⟨J2,hJ2⟩:∃ J:List UInt8->AFr->ASt->Prop,J=fun x a s2=>(a 0 = .str x/\Lib.trimB x 32=T/\x.length<=s.length/\x.head? ≠ some 32)/\s2=σ:=⟨_,rfl⟩
 obtain ⟨F,hF⟩:∃ F,F=ACode.wp Tryz.prog c66_19:=⟨_,rfl⟩
 have u32:∀ c:UInt8,((c.toNat:Int)=32)↔c=32:=fun c=>⟨fun h=>UInt8.toNat_inj.1 (by show c.toNat=32;omega),fun h=>by rw [h];rfl⟩
 have hgo:∀ (x:List UInt8) (a:AFr),(a 0 = .str x/\Lib.trimB x 32=T/\x.length<=s.length/\x.head? ≠ some 32)->F (RetQ [.t 2] fun v σ'=>v = .str T/\σ'=σ) a σ:=by
  intro x a hx
  rw [hF]
  simp (disch:=first|assumption|omega|(simp only [List.length_append,List.length_cons,List.length_nil];omega)) only [go_sem]
  refine wp_loop_on J2 (fun x=>x.length) x ?_ ?_
  ·rw [hJ2]
   exact ⟨hx,rfl⟩
  clear hx
  intro y a1 s2 hjj
  rw [hJ2] at hjj
  obtain ⟨⟨hf,hy,hyl,hyh⟩,rfl⟩:=hjj
  rcases List.eq_nil_or_concat y with rfl|⟨r,d,rfl⟩
  ·have h0:Lib.trimB ([]:List UInt8) 32 = []:=rfl
   rw [h0] at hy
   subst hy
   simp (disch:=first|assumption|omega|(simp only [List.length_append,List.length_cons,List.length_nil];omega)) only [go_sem,hf]
   exact retC_by (.refl _) (.refl _) ⟨rfl,rfl⟩
  ·rw [List.concat_eq_append] at *
   have hl:((r ++ [d]).length:Int)=(r.length:Int)+1:=by rw [List.length_append];simp
   have hl0:(0:Int)<(r.length:Int)+1:=by omega
   have hix:(r ++ [d])[r.length]? = some d:=by rw [List.getElem?_append_right (Nat.le_refl _),Nat.sub_self];rfl
   have hsub:(r.length:Int)+1-1=(r.length:Int):=by omega
   have htk:(r ++ [d]).take r.length=r:=List.take_left
   have hle:(r.length:Int)<=((r ++ [d]).length:Int):=by omega
   have hlen:(r ++ [d]).length=r.length+1:=by rw [List.length_append];rfl
   by_cases hd:d=32
   ·have hd':(d.toNat:Int)=32:=(u32 d).2 hd
    have hyr:Lib.trimB r 32=T:=by rw [<-hy,hd,trimB_snoc]
    have hrh:r.head? ≠ some 32:=by
     cases r with
     | nil=>simp
     | cons c r=>exact hyh
    generalize r ++ [d]=y at *
    simp (disch:=first|assumption|omega|(simp only [List.length_append,List.length_cons,List.length_nil];omega)) only [go_sem,hf,hl,hl0,hsub,hix,hd',htk,Int.toNat_natCast,List.drop_zero]
    refine ⟨r,by omega,?_⟩
    rw [hJ2]
    refine ⟨⟨?_,hyr,by omega,hrh⟩,rfl⟩
    simp (disch:=first|assumption|omega|(simp only [List.length_append,List.length_cons,List.length_nil];omega)) only [go_sem,hf]
   ·have hd':¬ (d.toNat:Int)=32:=fun h=>hd ((u32 d).1 h)
    have hyT:r ++ [d]=T:=by
     rw [<-hy]
     cases hr:r ++ [d] with
     | nil=>simp at hr
     | cons c l=>
       rw [hr] at hyh
       refine (trimB_id (d:=d) (fun h=>hyh (by rw [h];rfl)) ?_ hd).symm
       rw [<-hr];simp
    rw [hyT] at hix hl hf
    simp (disch:=first|assumption|omega|(simp only [List.length_append,List.length_cons,List.length_nil];omega)) only [go_sem,hf,hl,hl0,hsub,hix,hd',Int.toNat_natCast]
    exact retC_by (.refl _) (.refl _) ⟨rfl,rfl⟩
 refine a66 (by simp) ?_
 simp (disch:=first|assumption|omega|(simp only [List.length_append,List.length_cons,List.length_nil];omega)) only [go_sem,←hF]
 refine wp_loop_on J (fun x=>x.length) s ?_ ?_
 ·rw [hJ]
  exact ⟨⟨by simp (disch:=first|assumption|omega|(simp only [List.length_append,List.length_cons,List.length_nil];omega)) only [go_sem],hT.symm,Nat.le_refl _⟩,rfl⟩
 intro y a1 s2 hjj
 rw [hJ] at hjj
 obtain ⟨⟨hf,hy,hyl⟩,rfl⟩:=hjj
 cases y with
 | nil=>
   simp (disch:=first|assumption|omega|(simp only [List.length_append,List.length_cons,List.length_nil];omega)) only [go_sem,hf,←hF]
   refine hgo [] _ ⟨?_,hy,Nat.zero_le _,by simp⟩
   simp (disch:=first|assumption|omega|(simp only [List.length_append,List.length_cons,List.length_nil];omega)) only [go_sem,hf]
 | cons c r=>
   have hl:((c::r).length:Int)=(r.length:Int)+1:=by rw [List.length_cons];omega
   have hl0:(0:Int)<(r.length:Int)+1:=by omega
   have hix:(c::r)[0]? = some c:=rfl
   have hll:(c::r).length=r.length+1:=rfl
   have htn:((r.length:Int)+1).toNat=r.length+1:=by omega
   have htk:((c::r).take (r.length+1)).drop 1=r:=by rw [<-hll,List.take_length];rfl
   have hle:(r.length:Int)+1<=((c::r).length:Int):=by omega
   by_cases hd:c=32
   ·have hd':(c.toNat:Int)=32:=(u32 c).2 hd
    have hyr:Lib.trimB r 32=T:=by rw [<-hy,hd,trimB_cons]
    generalize c::r=y at *
    simp (disch:=first|assumption|omega|(simp only [List.length_append,List.length_cons,List.length_nil];omega)) only [go_sem,hf,hl,hl0,hix,hd',htn,htk,←hF]
    refine ⟨r,by omega,?_⟩
    rw [hJ]
    refine ⟨⟨?_,hyr,by omega⟩,rfl⟩
    simp (disch:=first|assumption|omega|(simp only [List.length_append,List.length_cons,List.length_nil];omega)) only [go_sem,hf]
   ·have hd':¬ (c.toNat:Int)=32:=fun h=>hd ((u32 c).1 h)
    have hh:(c::r).head? ≠ some 32:=fun h=>hd (Option.some.inj h)
    generalize c::r=y at *
    simp (disch:=first|assumption|omega|(simp only [List.length_append,List.length_cons,List.length_nil];omega)) only [go_sem,hf,hl,hl0,hix,hd',←hF]
    refine hgo y _ ⟨?_,hy,hyl,hh⟩
    simp (disch:=first|assumption|omega|(simp only [List.length_append,List.length_cons,List.length_nil];omega)) only [go_sem,hf]
set_option maxHeartbeats 1000000 in
theorem r15asnumber_ok (v:PV) (hv:v.small) (hf:∀ n,v = .fail n → -9223372036854775808<=n/\n<=9223372036854775807):Pure Tryz.prog 26 [tellAV v] (.tuple [.int .i64 (asNum v).1,.int .i64 (asNum v).2]):=by
 intro σ
 cases v with
 | blank=>
   simp only [tellAV,asNum]
   refine a26 (by simp) ?_
   simp (disch:=first|assumption|omega|(simp only [List.length_append,List.length_cons,List.length_nil];omega)) only [go_sem]
   refine boxC_by rfl fun b hb=>?_
   simp (disch:=first|assumption|omega|(simp only [List.length_append,List.length_cons,List.length_nil];omega)) only [go_sem]
   exact retC_by (by repeat' (first|exact Drop.refl _|with_reducible refine Drop.off ?_ (by assumption))) (.refl _) ⟨rfl,rfl⟩
 | num n=>
   simp only [tellAV,asNum]
   refine a26 (by simp) ?_
   simp (disch:=first|assumption|omega|(simp only [List.length_append,List.length_cons,List.length_nil];omega)) only [go_sem]
   refine boxC_by rfl fun b hb=>?_
   simp (disch:=first|assumption|omega|(simp only [List.length_append,List.length_cons,List.length_nil];omega)) only [go_sem]
   exact retC_by (by repeat' (first|exact Drop.refl _|with_reducible refine Drop.off ?_ (by assumption))) (.refl _) ⟨rfl,rfl⟩
 | text s=>
   have hs:s.length<=100000:=hv
   have hT:=r15trim_ok s hs
   have hP:=rparse_ok (Lib.trimB s 32) (by have:=trimB_len s 32;omega)
   simp only [tellAV,asNum]
   generalize Lib.trimB s 32=t at *
   refine a26 (by simp) ?_
   cases ho:parseD t with
   | none=>
     rw [ho] at hP
     simp only [resAV,Option.getD_none,Option.isSome_none] at hP
     simp (disch:=first|assumption|omega|(simp only [List.length_append,List.length_cons,List.length_nil];omega)) only [go_sem]
     refine boxC_by rfl fun b hb=>?_
     simp (disch:=first|assumption|omega|(simp only [List.length_append,List.length_cons,List.length_nil];omega)) only [go_sem]
     refine hT.use ?_
     simp (disch:=first|assumption|omega|(simp only [List.length_append,List.length_cons,List.length_nil];omega)) only [go_sem]
     refine hP.use ?_
     simp (disch:=first|assumption|omega|(simp only [List.length_append,List.length_cons,List.length_nil];omega)) only [go_sem]
     exact retC_by (by repeat' (first|exact Drop.refl _|with_reducible refine Drop.off ?_ (by assumption))) (.refl _) ⟨rfl,rfl⟩
   | some n=>
     rw [ho] at hP
     simp only [resAV,Option.getD_some,Option.isSome_some] at hP
     simp (disch:=first|assumption|omega|(simp only [List.length_append,List.length_cons,List.length_nil];omega)) only [go_sem]
     refine boxC_by rfl fun b hb=>?_
     simp (disch:=first|assumption|omega|(simp only [List.length_append,List.length_cons,List.length_nil];omega)) only [go_sem]
     refine hT.use ?_
     simp (disch:=first|assumption|omega|(simp only [List.length_append,List.length_cons,List.length_nil];omega)) only [go_sem]
     refine hP.use ?_
     simp (disch:=first|assumption|omega|(simp only [List.length_append,List.length_cons,List.length_nil];omega)) only [go_sem]
     exact retC_by (by repeat' (first|exact Drop.refl _|with_reducible refine Drop.off ?_ (by assumption))) (.refl _) ⟨rfl,rfl⟩
 | bool x=>
   simp only [tellAV,asNum]
   refine a26 (by simp) ?_
   cases x<;>simp (disch:=first|assumption|omega|(simp only [List.length_append,List.length_cons,List.length_nil];omega)) only [go_sem]
   all_goals
    refine boxC_by rfl fun b hb=>?_
    simp (disch:=first|assumption|omega|(simp only [List.length_append,List.length_cons,List.length_nil];omega)) only [go_sem]
    exact retC_by (by repeat' (first|exact Drop.refl _|with_reducible refine Drop.off ?_ (by assumption))) (.refl _) ⟨rfl,rfl⟩
 | fail f=>
   obtain ⟨h1,h2⟩:=hf f rfl
   simp only [tellAV,asNum]
   refine a26 (by simp) ?_
   simp (disch:=first|assumption|omega|(simp only [List.length_append,List.length_cons,List.length_nil];omega)) only [go_sem]
   refine boxC_by rfl fun b hb=>?_
   simp (disch:=first|assumption|omega|(simp only [List.length_append,List.length_cons,List.length_nil];omega)) only [go_sem]
   exact retC_by (by repeat' (first|exact Drop.refl _|with_reducible refine Drop.off ?_ (by assumption))) (.refl _) ⟨rfl,rfl⟩
theorem tell_agg (v:PV):∃ x y z,tellAV v = .agg [.int .i64 x,.int .i64 y,.str z]:=by cases v<;>exact ⟨_,_,_,rfl⟩
theorem r15astext_ok (v:PV) (hg:v.good):Pure Tryz.prog 70 [tellAV v] (.tuple [.str (asTextP v).1,.int .i64 (asTextP v).2]):=by
 intro σ
 cases v with
 | blank=>
   refine a70 (by simp) ?_
   simp only [tellAV,asTextP]
   simp (disch:=first|assumption|omega|(simp only [List.length_append,List.length_cons,List.length_nil];omega)) only [go_sem]
   refine boxC_by rfl fun c hc=>?_
   simp (disch:=first|assumption|omega|(simp only [List.length_append,List.length_cons,List.length_nil];omega)) only [go_sem]
   exact retC_by (Drop.set hc) (.refl _) ⟨rfl,rfl⟩
 | num n=>
   have hT:=drtext_ok (a:=n) hg
   refine a70 (by simp) ?_
   simp only [tellAV,asTextP]
   generalize textD n=tx at *
   simp (disch:=first|assumption|omega|(simp only [List.length_append,List.length_cons,List.length_nil];omega)) only [go_sem]
   refine boxC_by rfl fun c hc=>?_
   simp (disch:=first|assumption|omega|(simp only [List.length_append,List.length_cons,List.length_nil];omega)) only [go_sem]
   refine hT.use ?_
   simp (disch:=first|assumption|omega|(simp only [List.length_append,List.length_cons,List.length_nil];omega)) only [go_sem]
   exact retC_by (Drop.set hc) (.refl _) ⟨rfl,rfl⟩
 | text t=>
   refine a70 (by simp) ?_
   simp only [tellAV,asTextP]
   simp (disch:=first|assumption|omega|(simp only [List.length_append,List.length_cons,List.length_nil];omega)) only [go_sem]
   refine boxC_by rfl fun c hc=>?_
   simp (disch:=first|assumption|omega|(simp only [List.length_append,List.length_cons,List.length_nil];omega)) only [go_sem]
   exact retC_by (Drop.set hc) (.refl _) ⟨rfl,rfl⟩
 | bool b=>
   cases b
   all_goals
    refine a70 (by simp) ?_
    simp only [tellAV,asTextP]
    simp (disch:=first|assumption|omega|(simp only [List.length_append,List.length_cons,List.length_nil];omega)) only [go_sem]
    refine boxC_by rfl fun c hc=>?_
    simp (disch:=first|assumption|omega|(simp only [List.length_append,List.length_cons,List.length_nil];omega)) only [go_sem]
    exact retC_by (Drop.set hc) (.refl _) ⟨rfl,rfl⟩
 | fail n=>
   refine a70 (by simp) ?_
   simp only [tellAV,asTextP]
   simp (disch:=first|assumption|omega|(simp only [List.length_append,List.length_cons,List.length_nil];omega)) only [go_sem]
   refine boxC_by rfl fun c hc=>?_
   simp (disch:=first|assumption|omega|(simp only [List.length_append,List.length_cons,List.length_nil];omega)) only [go_sem]
   exact retC_by (Drop.set hc) (.refl _) ⟨rfl,rfl⟩
def arAV (L:List PV) (f:Int):AV := .agg [.sl .shr (L.map tellAV),.int .i64 f]
theorem tell_at {L:List PV} {i:Nat} {v:PV} (h:L[i]? = some v):(L.map tellAV)[i]? = some (tellAV v):=by rw [List.getElem?_map,h];rfl
theorem r17text_ok {L:List PV} {f:Int} {i:Nat} {v:PV} (hi:L[i]? = some v) (hg:v.good):Pure Tryz.prog 28 [arAV L f,.int .i64 i] (.tuple [arAV L (seen f (asTextP v).2),.str (asTextP v).1]):=by
 intro σ
 have h1:=r15astext_ok v hg
 have h2:=tell_at hi
 obtain ⟨x1,x2,x3,ht⟩:=tell_agg v
 rw [ht] at h1 h2
 have hl:i<(L.map tellAV).length:=by rw [List.length_map];exact (List.getElem?_eq_some_iff.1 hi).1
 unfold arAV seen
 generalize L.map tellAV=LA at *
 generalize asTextP v=W at *
 obtain ⟨w1,w2⟩:=W
 dsimp only at *
 refine a28 (by simp) ?_
 simp (disch:=first|assumption|omega|(simp only [List.length_append,List.length_cons,List.length_nil];omega)) only [go_sem]
 refine boxC_by rfl fun b hb=>?_
 simp (disch:=first|assumption|omega|(simp only [List.length_append,List.length_cons,List.length_nil];omega)) only [go_sem]
 refine allocC_by fun c hc=>?_
 repeat (with_reducible replace hc:=set_none hc;obtain ⟨_,_,hc⟩:=hc)
 simp (disch:=first|assumption|omega|(simp only [List.length_append,List.length_cons,List.length_nil];omega)) only [go_sem,h2]
 refine h1.use ?_
 by_cases hf:f=0
 ·rw [if_pos hf]
  simp (disch:=first|assumption|omega|(simp only [List.length_append,List.length_cons,List.length_nil];omega)) only [go_sem,hf,ASt.set_set]
  exact retC_by (by repeat' (first|exact Drop.refl _|with_reducible refine Drop.off ?_ (by assumption))) (.refl _) ⟨rfl,rfl⟩
 ·rw [if_neg hf]
  simp (disch:=first|assumption|omega|(simp only [List.length_append,List.length_cons,List.length_nil];omega)) only [go_sem,hf,ASt.set_set]
  exact retC_by (by repeat' (first|exact Drop.refl _|with_reducible refine Drop.off ?_ (by assumption))) (.refl _) ⟨rfl,rfl⟩
end Go.A
end
namespace Go.A
open Go.Proofs Go.Shelf Go.RowKit
section
variable {P:Program} {ρ:Ren}
set_option maxHeartbeats 2000000 in
theorem bstr_used (L:Lays.n169 P ρ) (X:Builder.Extra P ρ) (b g cap size:Nat) (l:List UInt8) (w:World) (h0:l ≠ []) (hc1:w.cell? ⟨b,1,none⟩=some (.slice (some ⟨g,0,none⟩) l.length cap)) (hcap:cap≠0)
  (hsh:w.shape? g=some (ρ.t 5,size)) (hle:l.length<=size) (h63:l.length<=9223372036854775807) (hcell:∀ j x,l[j]? = some x->w.cell? ⟨g,j,none⟩=some (.int .u8 x.toNat)) :
  Calls P (ρ.f 169) #[.pointer (some ⟨b,0,none⟩)] w fun e w'=>e = .returned (.string ⟨l.toArray⟩)/\w'=w.drew.freeze ⟨g,0,none⟩ l.length:=by
 have c1:w.drew.cell? ⟨b,1,none⟩=some (.slice (some ⟨g,0,none⟩) l.length cap):=hc1
 have hSD:(Builtin.unsafeSliceData_ #[(ρ.t 37)] (ρ.t 127) #[.slice (some ⟨g,0,none⟩) l.length cap]).run P w.drew = .ok (.pointer (some ⟨g,0,none⟩)) w.drew:=
  Lib.run_unsafeSliceData_row _ _ _ _ _ _ hcap
 have hUS:(Builtin.unsafeString_ #[(ρ.t 127),(ρ.t 3)] (ρ.t 9) #[.pointer (some ⟨g,0,none⟩),.int .i64 l.length]).run P w.drew = .ok (.string ⟨l.toArray⟩) (w.drew.freeze ⟨g,0,none⟩ l.length):=by
  refine Lib.run_unsafeString_row w.drew (ρ.t 127) (ρ.t 3) (ρ.t 9) (ρ.t 5) L.t127 X.cellsByte g size hsh l h0 hle h63 ?_
  intro j x hx
  rw [addr_add',Nat.zero_add]
  exact hcell j x hx
 have mixed:=L.mixed
 have t72:=L.t72;have a72:=L.a72;have z72:=L.z72;have v72:=L.v72;have u72:=run_underlying L.t72
 have t70:=L.t70;have a70:=L.a70;have z70:=L.z70;have v70:=L.v70;have u70:=run_underlying L.t70
 have t37:=L.t37;have a37:=L.a37;have z37:=L.z37;have v37:=L.v37;have u37:=run_underlying L.t37
 have t127:=L.t127;have a127:=L.a127;have z127:=L.z127;have v127:=L.v127;have u127:=run_underlying L.t127
 have t3:=L.t3;have a3:=L.a3;have z3:=L.z3;have v3:=L.v3;have u3:=run_underlying L.t3
 have t9:=L.t9;have a9:=L.a9;have z9:=L.z9;have v9:=L.v9;have u9:=run_underlying L.t9
 have t5:=X.t5;have a5:=X.a5;have z5:=X.z5;have v5:=X.v5;have u5:=run_underlying X.t5
 go_enter L.f169,Body.n169_ntmps ρ
 go_wp2
 go_region_o
 all_goals (go_wp2;go_ret;exact ⟨rfl,rfl⟩)
set_option maxHeartbeats 2000000 in
theorem bstr_nil (L:Lays.n169 P ρ) (X:Builder.Extra P ρ) (b:Nat) (w:World) (hc1:w.cell? ⟨b,1,none⟩=some (.slice none 0 0)) :
  Calls P (ρ.f 169) #[.pointer (some ⟨b,0,none⟩)] w fun e w'=>e = .returned (.string ⟨#[]⟩)/\w'=w.drew:=by
 have hUS:=Any.unsafeString_none L X
 have c1:w.drew.cell? ⟨b,1,none⟩=some (.slice none 0 0):=hc1
 have hSD:(Builtin.unsafeSliceData_ #[(ρ.t 37)] (ρ.t 127) #[.slice none 0 0]).run P w.drew = .ok (.pointer none) w.drew:=rfl
 have mixed:=L.mixed
 have t72:=L.t72;have a72:=L.a72;have z72:=L.z72;have v72:=L.v72;have u72:=run_underlying L.t72
 have t70:=L.t70;have a70:=L.a70;have z70:=L.z70;have v70:=L.v70;have u70:=run_underlying L.t70
 have t37:=L.t37;have a37:=L.a37;have z37:=L.z37;have v37:=L.v37;have u37:=run_underlying L.t37
 have t127:=L.t127;have a127:=L.a127;have z127:=L.z127;have v127:=L.v127;have u127:=run_underlying L.t127
 have t3:=L.t3;have a3:=L.a3;have z3:=L.z3;have v3:=L.v3;have u3:=run_underlying L.t3
 have t9:=L.t9;have a9:=L.a9;have z9:=L.z9;have v9:=L.v9;have u9:=run_underlying L.t9
 have t5:=X.t5;have a5:=X.a5;have z5:=X.z5;have v5:=X.v5;have u5:=run_underlying X.t5
 go_enter L.f169,Body.n169_ntmps ρ
 go_wp2
 go_region_o
 all_goals (go_wp2;go_ret;exact ⟨rfl,rfl⟩)
end
theorem size_bld:(Tryz.prog.info? 134).map (·.size)=some 2:=by kernel_rfl
theorem lies_bld:liesAt Tryz.prog Tryz.prog.depth 134 (2 / Tryz.prog.cellsOf 134) 0 134 1=true:=by kernel_rfl
set_option maxHeartbeats 1000000 in
set_option maxRecDepth 1000000 in
theorem cc_used (b:Nat) (w:World) (h0:w.cell? ⟨b,0,none⟩=some (.pointer (some ⟨b,0,none⟩))) :
  Calls Tryz.prog 118 #[.pointer (some ⟨b,0,none⟩)] w fun e w'=>e = .returned (.tuple #[])/\w'=w:=by
 obtain ⟨j,hj,_⟩:=Option.map_eq_some_iff.1 size_bld
 go_enter Tryz.func118,Tryz.ntmps118
 go_wp2
 rw [Lib.run_neq_ptr_same w _ Tryz.underlying132 hj]
 go_wp2
 go_end0
 exact ⟨rfl,rfl⟩
set_option maxHeartbeats 1000000 in
set_option maxRecDepth 1000000 in
theorem cc_fresh (b:Nat) (w:World) (h0:w.cell? ⟨b,0,none⟩=some (.pointer none)) (hsh:w.shape? b=some (134,2)) (hfz:w.frozen? ⟨b,0,none⟩=false) :
  Calls Tryz.prog 118 #[.pointer (some ⟨b,0,none⟩)] w fun e w'=>e = .returned (.tuple #[])/\w'=w.setCell ⟨b,0,none⟩ (.pointer (some ⟨b,0,none⟩)):=by
 obtain ⟨j,hj,hjs⟩:=Option.map_eq_some_iff.1 size_bld
 go_enter Tryz.func118,Tryz.ntmps118
 go_wp2
 rw [Lib.run_to_unsafe w ⟨b,0,none⟩ Tryz.underlying132 Tryz.underlying180 hj (by rw [hjs];decide) hsh (Nat.zero_lt_succ 1)]
 simp only [Result.andThen]
 rw [Oper.upon_value]
 go_wp2
 rw [run_callFunc_extern Tryz.func141 (by kernel_rfl) (by kernel_rfl) (by kernel_rfl) (e:=Extern.AbiNoEscape.same) (by kernel_rfl)]
 rw [Lib.run_noEscape]
 simp only [Result.andThen]
 rw [Oper.upon_value]
 go_wp2
 rw [Lib.run_from_unsafe w ⟨b,0,none⟩ Tryz.underlying180 Tryz.underlying132 hj hsh lies_bld]
 simp only [Result.andThen]
 rw [Oper.upon_value]
 go_wp2
 go_end0
 exact ⟨rfl,rfl⟩
end Go.A
namespace Go.A
open Go.Proofs
theorem copyCheck_typ {σ:ASt} {b:Nat} (h:σ b=some (.typ 134 [.pointer none,.slice none 0 0])) :
  ACalls Tryz.prog 118 [.ptr b 0] σ fun v σ'=>v = .tuple []/\σ'=σ.set b (some (.obj [.ptr b 0,.sl .full []])):=by
 intro w vs hs ha
 cases ha with
 | cons h1 h2=>
 cases h1;cases h2
 have hb:w.heap[b]? = some (.cells ⟨[.pointer none,.slice none 0 0]⟩ 134 (0,0)):=hs b _ h
 refine (cc_fresh b w (by simp [World.cell?,hb]) (by simp [World.shape?,hb]) (by simp [World.frozen?,hb])).mono ?_
 rintro e w' ⟨rfl,rfl⟩
 have hw:=Wrote.setCell (o:=0) hb (.pointer (some ⟨b,0,none⟩))
 have hle:Le σ w (σ.set b (some (.obj [.ptr b 0,.sl .full []]))) (w.setCell ⟨b,0,none⟩ (.pointer (some ⟨b,0,none⟩))):=by
  refine ⟨hw.os,hw.tape,hw.output,by rw [hw.size];exact Nat.le_refl _,fun x hx hn=>?_,fun x cs hx hn=>?_,fun x f hx hn=>?_⟩
  all_goals have hne:x≠b:=by rintro rfl;rw [h] at hn;cases hn
  ·rw [ASt.set_ne hne];exact ⟨hn,hw.other x hne⟩
  ·rw [ASt.set_ne hne];exact ⟨.inr hn,hw.other x hne⟩
  ·rw [ASt.set_ne hne];exact ⟨.inr ⟨f,Nat.le_refl _,hn⟩,shape_of_heap_eq (hw.other x hne),fun o _=>cell_of_heap_eq (hw.other x hne) o⟩
 have hro:RoleOk (σ.set b (some (.obj [.ptr b 0,.sl .full []]))) (w.setCell ⟨b,0,none⟩ (.pointer (some ⟨b,0,none⟩))) b (.obj [.ptr b 0,.sl .full []]):=by
  refine ⟨_,_,_,hw.new,?_,fun o ho=>?_⟩
  ·exact .cons (.ptr _ _) (.cons .slN .nil)
  ·rw [hw.frozen]
   simp only [World.frozen?,hb]
   simp
 exact ⟨_,_,_,rfl,⟨rfl,rfl⟩,hle,hw.sim hs hle hro,.tuple .nil⟩
theorem copyCheck_used {σ:ASt} {b:Nat} {x:AV} (h:σ b=some (.obj [.ptr b 0,x])):ACalls Tryz.prog 118 [.ptr b 0] σ fun v σ'=>v = .tuple []/\σ'=σ:=by
 intro w vs hs ha
 cases ha with
 | cons h1 h2=>
 cases h1;cases h2
 obtain ⟨us,h3,h4,_⟩:=hs.objCell h
 cases h3 with
 | cons h5 h6=>
 cases h5
 refine (cc_used b w (h4 0 _ rfl)).mono ?_
 rintro e w' ⟨rfl,rfl⟩
 exact ⟨_,_,_,rfl,⟨rfl,rfl⟩,Le.refl _ _,hs,.tuple .nil⟩
theorem bstring_typ {σ:ASt} {b:Nat} (h:σ b=some (.typ 134 [.pointer none,.slice none 0 0])):ACalls Tryz.prog 91 [.ptr b 0] σ fun v σ'=>v = .str []/\σ'=σ:=by
 intro w vs hs ha
 cases ha with
 | cons h1 h2=>
 cases h1;cases h2
 have hb:w.heap[b]? = some (.cells ⟨[.pointer none,.slice none 0 0]⟩ 134 (0,0)):=hs b _ h
 refine (bstr_nil Tryz.lays169 Tryz.Builder_Extra_169 b w (by simp [World.cell?,hb])).mono ?_
 rintro e w' ⟨rfl,rfl⟩
 have hx:Ext w w.drew:=Ext.drew (Ext.refl w)
 exact ⟨_,_,_,rfl,⟨rfl,rfl⟩,ext_le hx,hs.ext hx,.str []⟩
theorem row_bytes {σ:ASt} {w:World} {b:Nat}:∀ {l:List UInt8} {o:Nat},Row σ w b o 1 (bytesAV l)->∀ j x,l[j]? = some x->w.cell? ⟨b,o+j,none⟩=some (.int .u8 x.toNat)
 | [],o,h,j,x,hj=>by simp at hj
 | c::l,o,h,j,x,hj=>by
   cases h with
   | cons h1 h2 h3=>
   cases j with
   | zero=>
     simp only [List.getElem?_cons_zero,Option.some.injEq] at hj
     subst hj
     cases h2 with
     | cons g1 g2 g3 g4=>
     cases g3
     exact g2
   | succ j=>
     have:=row_bytes (l:=l) h3 j x (by simpa using hj)
     rw [show o+(j+1)=o+1+j by omega]
     exact this
theorem bstring_used {σ:ASt} {b g:Nat} {p:AV} {l:List UInt8} (h0:l ≠ []) (hl:l.length<=9223372036854775807) (h:σ b=some (.obj [p,.sl (.tok g 1 5) (bytesAV l)])) (hg:σ g=some (.tok l.length)) :
  ACalls Tryz.prog 91 [.ptr b 0] σ fun v σ'=>v = .str l/\σ'=σ:=by
 intro w vs hs ha
 cases ha with
 | cons h1 h2=>
 cases h1;cases h2
 obtain ⟨us,h3,h4,h9⟩:=hs.objCell h
 cases h3 with
 | cons h5 h6=>
 cases h6 with
 | cons h7 h8=>
 cases h8
 obtain ⟨c,T,fr,k1,k2,k3⟩:=hs g _ hg
 have hlen:(bytesAV l).length=l.length:=by simp [bytesAV]
 generalize hbl:bytesAV l=bl at h7
 cases h7 with
 | sl r1 r2 r3 r4 r5=>
 subst hbl
 obtain ⟨rfl,rfl,rfl,r6,r7⟩:=r4
 have hpos:0<l.length:=List.length_pos_iff.2 h0
 subst r2
 rw [hlen] at r3
 have hc1:=h4 1 _ rfl
 rw [hlen] at hc1
 refine (bstr_used Tryz.lays169 Tryz.Builder_Extra_169 b g _ _ l w h0 hc1 (by omega) r6 (by omega) hl ?_).mono ?_
 ·intro j x hj
  have:=row_bytes r1 j x hj
  simpa using this
 rintro e w' ⟨rfl,rfl⟩
 have hother:∀ x,x≠g->(w.drew.freeze ⟨g,0,none⟩ l.length).heap[x]? = w.heap[x]? := by
  intro x hx
  simp only [World.freeze]
  rw [if_neg (by omega)]
  simp only [Array.getElem?_modify]
  rw [if_neg (Ne.symm hx)]
  rfl
 obtain ⟨lo,hi⟩:=fr
 have hk1:w.drew.heap[g]? = some (.cells c T (lo,hi)):=k1
 obtain ⟨fr',hfr,hnew⟩:∃ fr':Nat×Nat,fr'.2<=l.length/\(w.drew.freeze ⟨g,0,none⟩ l.length).heap[g]? = some (.cells c T fr'):=by
  refine ⟨if lo==hi then (0,0+l.length) else (min lo 0,max hi (0+l.length)),?_,?_⟩
  ·dsimp only at k3
   split<;>dsimp only<;>omega
  ·simp only [World.freeze]
   rw [if_neg (by omega)]
   simp only [Array.getElem?_modify,if_true,hk1,Option.map_some]
 have hshape:(w.drew.freeze ⟨g,0,none⟩ l.length).shape? g=w.shape? g:=by simp only [World.shape?,hnew,k1]
 have hcells:∀ o,(w.drew.freeze ⟨g,0,none⟩ l.length).cell? ⟨g,o,none⟩=w.cell? ⟨g,o,none⟩:=fun o=>by simp only [World.cell?,hnew,k1]
 have hle:Le σ w σ (w.drew.freeze ⟨g,0,none⟩ l.length):=by
  refine ⟨?_,?_,?_,?_,fun x hx hn=>?_,fun x cs hx hn=>?_,fun x f hx hn=>?_⟩
  ·simp only [World.freeze];split<;>rfl
  ·simp only [World.freeze];split<;>rfl
  ·simp only [World.freeze];split<;>rfl
  ·simp only [World.freeze];split
   ·exact Nat.le_refl _
   ·rw [Array.size_modify];exact Nat.le_refl _
  ·have hne:x≠g:=by rintro rfl;rw [hg] at hn;cases hn
   exact ⟨hn,hother x hne⟩
  ·have hne:x≠g:=by rintro rfl;rw [hg] at hn;cases hn
   exact ⟨.inr hn,hother x hne⟩
  ·by_cases hne:x=g
   ·subst hne
    exact ⟨.inr ⟨f,Nat.le_refl _,hn⟩,hshape,fun o _=>hcells o⟩
   ·exact ⟨.inr ⟨f,Nat.le_refl _,hn⟩,shape_of_heap_eq (hother x hne),fun o _=>cell_of_heap_eq (hother x hne) o⟩
 have hsim:Sim σ (w.drew.freeze ⟨g,0,none⟩ l.length):=by
  intro x q hx
  by_cases hne:x=g
  ·subst hne
   rw [hg] at hx
   injection hx with hx
   subst hx
   exact ⟨c,T,fr',hnew,k2,hfr⟩
  ·exact (hs x q hx).keep hle (hother x hne)
 exact ⟨_,_,_,rfl,⟨rfl,rfl⟩,hle,hsim,.str l⟩
end Go.A
namespace Go.A
inductive Over (τ:ASt):ASt->Prop
 | refl:Over τ τ
 | set {σ:ASt} (c:Nat) (r:Role):Over τ σ->σ c=none->Over τ (σ.set c (some r))
theorem Over.drop {τ σ:ASt} (h:Over τ σ):Drop σ τ:=by
 induction h with
 | refl=>exact Drop.refl _
 | set c q h hc ih=>
   intro x
   by_cases hx:x=c
   ·subst hx
    rcases ih x with h1|h1
    ·exact .inr (h1.trans hc)
    ·exact .inr h1
   ·rcases ih x with h1|h1
    ·exact .inl (by rw [ASt.set_ne hx];exact h1)
    ·exact .inr h1
def BW (T U:TypeId) (σ0:ASt) (b:Nat) (l:List UInt8) (σ:ASt):Prop:=
 (l = []/\σ=σ0.set b (some (.typ T [.pointer none,.slice none 0 0])))\/(l ≠ []/\∃ k,GrownT U (σ0.set b (some (.obj [.ptr b 0,.sl k (bytesAV l)]))) σ k l.length 1)
theorem BW.over {T U:TypeId} {σ0 σ:ASt} {b:Nat} {l:List UInt8} (h:BW T U σ0 b l σ) (hb:σ0 b=none):Over σ0 σ:=by
 rcases h with ⟨_,rfl⟩|⟨_,k,h1|⟨g,_,hg,rfl⟩⟩
 ·exact .set b _ .refl hb
 ·obtain ⟨_,_,rfl⟩:=h1
  exact .set b _ .refl hb
 ·exact .set g _ (.set b _ .refl hb) hg
theorem BW.iter {T U:TypeId} {σ0 σ:ASt} {b it:Nat} {l:List UInt8} {r r':Role} (h:BW T U (σ0.set it (some r)) b l σ) (hb:it≠b):BW T U (σ0.set it (some r')) b l (σ.set it (some r'))/\σ it=some r:=by
 rcases h with ⟨h0,rfl⟩|⟨h0,k,h1|⟨g,h1,hg,rfl⟩⟩
 ·refine ⟨.inl ⟨h0,?_⟩,by rw [ASt.set_ne hb,ASt.set_same]⟩
  rw [<-set_swap hb,ASt.set_set]
 ·obtain ⟨h1,h2,rfl⟩:=h1
  refine ⟨.inr ⟨h0,k,.inl ⟨h1,h2,?_⟩⟩,by rw [ASt.set_ne hb,ASt.set_same]⟩
  rw [<-set_swap hb,ASt.set_set]
 ·obtain ⟨h3,h4,h5⟩:=set_none hg
  obtain ⟨h6,h7,h8⟩:=set_none h5
  refine ⟨.inr ⟨h0,k,.inr ⟨g,h1,?_,?_⟩⟩,by rw [ASt.set_ne h7,ASt.set_ne hb,ASt.set_same]⟩
  ·rw [ASt.set_ne h3,ASt.set_ne h6];exact h8
  ·rw [<-set_swap h7,← set_swap hb,ASt.set_set]
end Go.A
namespace Go.A
open Go.Proofs Go.Lib
abbrev BD:=BW 134 5
abbrev GT:=GrownT 5
theorem cc_ok {σ0 σ:ASt} {b:Nat} {l:List UInt8} (h:BD σ0 b l σ):ACalls Tryz.prog 118 [.ptr b 0] σ fun v σ'=>v = .tuple []/\∃ k,GT (σ0.set b (some (.obj [.ptr b 0,.sl k (bytesAV l)]))) σ' k l.length 1:=by
 rcases h with ⟨rfl,rfl⟩|⟨h0,k,hg⟩
 ·refine (copyCheck_typ (ASt.set_same _ _ _)).mono ?_
  rintro v σ' ⟨rfl,rfl⟩
  exact ⟨rfl,.full,.inl ⟨rfl,rfl,by rw [ASt.set_set];rfl⟩⟩
 ·refine (copyCheck_used (hg.at (ASt.set_same _ _ _))).mono ?_
  rintro v σ' ⟨rfl,rfl⟩
  exact ⟨rfl,k,hg⟩
theorem bytesAV_app (l m:List UInt8):bytesAV l++bytesAV m=bytesAV (l++m):=by simp [bytesAV]
theorem bytesAV_len (l:List UInt8):(bytesAV l).length=l.length:=by simp [bytesAV]
theorem bstring_ok {σ0 σ:ASt} {b:Nat} {l:List UInt8} (h:BD σ0 b l σ) (hl:l.length<=1000000000):ACalls Tryz.prog 91 [.ptr b 0] σ fun v σ'=>v = .str l/\σ'=σ:=by
 rcases h with ⟨rfl,rfl⟩|⟨h0,k,hg⟩
 ·exact bstring_typ (ASt.set_same _ _ _)
 ·have hb:=hg.at (ASt.set_same _ _ _)
  rcases hg with ⟨_,h1,_⟩|⟨g,rfl,hg,rfl⟩
  ·exact absurd (List.eq_nil_of_length_eq_zero h1) h0
  ·refine bstring_used h0 (by omega) hb (by rw [ASt.set_same,Nat.mul_one])
end Go.A
namespace Go.A
open Go.Proofs
/-! 89: (*strings.Builder).WriteString -/
def c89_7:ACode := .seq (.ops [ oq 4 (.mv (.v (.int .i64 0))),oq 5 (.mv (.v .nili))]) (.seq (.ops [ oq 6 (.mv (.t 0)),oe 7 (.call 118 [(.t 6)])]) (.seq (.ops [ oq 8 (.mv (.t 0)),oq 9 (.mv (.t 0)),oq 10 (.nc (.t 9)),oq 11 (.fa 1 (.t 10)),oq 12 (.ld none (.t 11)),oq 13 (.mv (.t 1)),oe 14 (.apps 5 (.t 12) (.t 13)),oq 15 (.nc (.t 8)),oq 16 (.fa 1 (.t 15)),oz (.store 1 (.t 16) (.t 14))]) (.seq (.ops [ oq 17 (.mv (.t 1)),oq 18 (.lenS (.t 17)),oq 4 (.mv (.t 18)),oq 5 (.mv (.v .nili))]) .ret)))
@[go_sem] def c89_7_wp:=wp_of c89_7.eq_1
def c89:AFn:=⟨19,[.t 4,.t 5],c89_7⟩
theorem c89_ok:compF Tryz.prog Tryz.f89=some c89:=by kernel_rfl
theorem a89 {args:List AV} {σ:ASt} {R:AV->ASt->Prop} (hl:args.length<=19) (h:c89_7.wp Tryz.prog (RetQ [.t 4,.t 5] R) (init args) σ):ACalls Tryz.prog 89 args σ R:=acalls_of Tryz.func89 c89_ok hl h
end Go.A
section
attribute [local go_sem] reduceCtorEq Nat.reduceEqDiff Nat.reduceAdd Nat.reduceSub Nat.reduceMul Nat.reduceLeDiff Int.reduceLT Int.reduceLE Int.reduceEq Int.reduceNeg Int.reduceAdd Int.reduceSub Int.reduceMul true_imp_iff forall_const Nat.mul_one Int.reduceToNat Nat.reducePow Int.reducePow Bool.true_and Bool.false_and Bool.and_false
attribute [local go_sem ↓] reduceIte
namespace Go.A
open Go.Proofs Go.Lib
section
variable {T U:TypeId} {σ0 σ:ASt} {b c x:Nat} {l:List UInt8} {r:Role}
theorem BW.at (h:BW T U σ0 b l σ) (hx:x≠b) (h0:σ0 x=some r):σ x=some r:=by
 rcases h with ⟨_,rfl⟩|⟨_,k,hg⟩
 ·rw [ASt.set_ne hx];exact h0
 ·exact hg.at (by rw [ASt.set_ne hx];exact h0)
end
theorem appsB_by {σ σ0:ASt} {k:SK} {l m:List UInt8} {K:AV->ASt->Prop} (h:GT σ0 σ k l.length 1) (hl:l.length+m.length<=4611686018427)
  (hK:∀ k' σ',GT σ0 σ' k' (l++m).length 1->K (.sl k' (bytesAV (l++m))) σ'):appsC 5 (.sl k (bytesAV l)) (.str m) σ K:=by
 refine appsCT_by (by rw [bytesAV_len];exact h) (by rw [bytesAV_len];omega) fun k' σ' hg=>?_
 rw [bytesAV_app]
 rw [bytesAV_len] at hg
 exact hK k' σ' (by rw [List.length_append];exact hg)
theorem writes_ok {σ0 σ:ASt} {b:Nat} {l:List UInt8} (h:BD σ0 b l σ) (m:List UInt8) (hl:l.length+m.length<=1000000000) :
  ACalls Tryz.prog 89 [.ptr b 0,.str m] σ fun v σ'=>v = .tuple [.int .i64 m.length,.nili]/\((l++m = []/\∃ k,GT (σ0.set b (some (.obj [.ptr b 0,.sl k []]))) σ' k 0 1)\/BD σ0 b (l++m) σ'):=by
 refine a89 (by simp) ?_
 simp (disch:=first|assumption|omega|(simp only [List.length_append,List.length_cons,List.length_nil];omega)) only [go_sem]
 refine (cc_ok h).mono ?_
 rintro v σ1 ⟨rfl,k,hg⟩
 have hb:=hg.at (ASt.set_same _ _ _)
 simp (disch:=first|assumption|omega|(simp only [List.length_append,List.length_cons,List.length_nil];omega)) only [go_sem,hb]
 refine appsB_by hg (by omega) fun k' σ' hg'=>?_
 have hb':=hg'.at (ASt.set_same _ _ _)
 simp (disch:=first|assumption|omega|(simp only [List.length_append,List.length_cons,List.length_nil];omega)) only [go_sem,hb']
 refine retC_by (Drop.refl _) (.refl _) ⟨rfl,?_⟩
 by_cases he:l++m = []
 ·refine .inl ⟨he,k',?_⟩
  have:=hg'.obj (r' := .obj [.ptr b 0,.sl k' (bytesAV (l++m))])
  rw [he] at this
  rw [he]
  exact this
 ·exact .inr (.inr ⟨he,k',hg'.obj⟩)
theorem writes1_ok {σ0 σ:ASt} {b:Nat} {l:List UInt8} (h:BD σ0 b l σ) (m:List UInt8) (hm:m ≠ []) (hl:l.length+m.length<=1000000000) :
  ACalls Tryz.prog 89 [.ptr b 0,.str m] σ fun v σ'=>v = .tuple [.int .i64 m.length,.nili]/\BD σ0 b (l++m) σ':=
 (writes_ok h m hl).mono fun _ _ ⟨h1,h2⟩=>⟨h1,h2.resolve_left fun h=>hm (List.append_eq_nil_iff.1 h.1).2⟩
end Go.A
namespace Go.A
open Go.Proofs
/-! 93: tabular/texts.proper -/
def c93_19:ACode := .seq (.ops [ oe 10 (.nxt (.t 9)),oq 11 (.ext 0 (.t 10))]) (.seq (.cond (.t 11) .skip (.exit 0)) (.block 1 (.seq (.ops [ oq 12 (.ext 2 (.t 10)),oq 6 (.mv (.t 12))]) (.seq (.ops [ oq 13 (.mv (.t 6)),oq 14 (.i2s (.t 13)),oq 7 (.mv (.t 14))]) (.seq (.seq (.ops [ oq 15 (.mv (.t 4))]) (.cond (.t 15) (.ops [ oq 16 (.mv (.t 7)),oe 17 (.call 92 [(.t 16)]),oe 18 (.call 89 [(.t 3),(.t 17)])]) (.ops [ oq 19 (.mv (.t 7)),oe 20 (.call 58 [(.t 19)]),oe 21 (.call 89 [(.t 3),(.t 20)])]))) (.ops [ oq 22 (.mv (.t 6)),oe 23 (.call 119 [(.t 22)]),oq 4 (.mv (.t 23))]))))))
def c93_24:ACode := .seq (.ops [ oe 24 (.call 91 [(.t 3)]),oq 2 (.mv (.t 24))]) .ret
def c93_28:ACode := .seq (.ops [ oq 2 (.mv (.v (.str [])))]) (.seq (.ops [ oe 3 (.allocT 134)]) (.seq (.ops [ oq 4 (.mv (.v (.bool false)))]) (.seq (.seq (.ops [ oq 8 (.mv (.t 0)),oe 9 (.rng (.t 8))]) (.block 0 (.loop c93_19))) c93_24)))
@[go_sem] def c93_19_wp:=wp_of c93_19.eq_1
@[go_sem] def c93_24_wp:=wp_of c93_24.eq_1
@[go_sem] def c93_28_wp:=wp_of c93_28.eq_1
def c93:AFn:=⟨25,[.t 2],c93_28⟩
theorem c93_ok:compF Tryz.prog Tryz.f93=some c93:=by kernel_rfl
theorem a93 {args:List AV} {σ:ASt} {R:AV->ASt->Prop} (hl:args.length<=25) (h:c93_28.wp Tryz.prog (RetQ [.t 2] R) (init args) σ):ACalls Tryz.prog 93 args σ R:=acalls_of Tryz.func93 c93_ok hl h
end Go.A
namespace Go.A
open Go.Proofs Go.Lib
def encU (r:Int):List UInt8:=(Utf8.encode r).data.toList
theorem encU_len (r:Int):1<=(encU r).length/\(encU r).length<=4:=by
 have h:=encode_size_le r
 have e:(encU r).length=(Utf8.encode r).size:=rfl
 refine ⟨?_,by omega⟩
 rw [e]
 unfold Utf8.encode
 simp only
 repeat' split
 all_goals simp [ByteArray.size]
def propF:Nat->Bool->List UInt8->List UInt8
 | 0,_,_ => []
 | k+1,ins,r=>if r = [] then [] else (if ins=true then smallP (encU (decodeL r).1) else greatP (encU (decodeL r).1))++propF k (letterB (decodeL r).1) (r.drop (decodeL r).2)
def propP (s:List UInt8):List UInt8:=propF s.length false s
theorem propF_fuel:∀ (k m:Nat) (ins:Bool) (r:List UInt8),r.length<=k->r.length<=m->propF k ins r=propF m ins r
 | 0,m,ins,r,h,_=>by
   have:r = []:=List.eq_nil_of_length_eq_zero (by omega)
   subst this
   cases m<;>simp [propF]
 | k+1,0,ins,r,_,h=>by
   have:r = []:=List.eq_nil_of_length_eq_zero (by omega)
   subst this
   simp [propF]
 | k+1,m+1,ins,r,h,h'=>by
   unfold propF
   by_cases hr:r = []
   ·rw [if_pos hr,if_pos hr]
   have hpos:=List.length_pos_iff.2 hr
   have hw:=decodeL_width r
   rw [if_neg hr,if_neg hr,propF_fuel k m _ _ (by rw [List.length_drop];omega) (by rw [List.length_drop];omega)]
def propQ (ins:Bool) (r:List UInt8):List UInt8:=propF r.length ins r
theorem propQ_nil (ins:Bool):propQ ins [] = []:=rfl
theorem propQ_step (ins:Bool) {r:List UInt8} (hr:r ≠ []):propQ ins r=(if ins=true then smallP (encU (decodeL r).1) else greatP (encU (decodeL r).1))++propQ (letterB (decodeL r).1) (r.drop (decodeL r).2):=by
 have hpos:=List.length_pos_iff.2 hr
 have hw:=decodeL_width r
 obtain ⟨k,hk⟩:∃ k,r.length=k+1:=⟨r.length-1,by omega⟩
 conv=>lhs;unfold propQ;rw [hk,propF]
 rw [if_neg hr]
 unfold propQ
 rw [propF_fuel k _ _ _ (by rw [List.length_drop];omega) (Nat.le_refl _)]
theorem greatP_len (l:List UInt8):(greatP l).length=l.length:=by simp [greatP]
theorem xproper_ok (s:List UInt8) (hs:s.length<=200000):Pure Tryz.prog 93 [.str s] (.str (propP s)):=by
 intro σ
 obtain ⟨R,hR⟩:∃ R,propP s=R:=⟨_,rfl⟩
 rw [hR]
 have hlow:=fun c=>xlower_ok (encU c) (by have:=encU_len c;omega)
 have hgre:=fun c=>vgreat_ok (encU c) (by have:=encU_len c;omega)
 have hlet:=xletter_ok
 refine a93 (by simp) ?_
 obtain ⟨F,hF⟩:∃ F,F=ACode.wp Tryz.prog c93_24:=⟨_,rfl⟩
 simp (disch:=first|assumption|omega|(simp only [List.length_append,List.length_cons,List.length_nil];omega)) only [go_sem,←hF]
 refine allocTC_by fun b hb=>?_
 simp (disch:=first|assumption|omega|(simp only [List.length_append,List.length_cons,List.length_nil];omega)) only [go_sem,←hF]
 refine rngC_by fun it hit=>?_
 have hbi:it≠b:=by rintro rfl;rw [ASt.set_same] at hit;cases hit
 have hit0:σ it=none:=by rwa [ASt.set_ne hbi] at hit
 rw [set_swap (Ne.symm hbi)]
 simp (disch:=first|assumption|omega|(simp only [List.length_append,List.length_cons,List.length_nil];omega)) only [go_sem,←hF]
 refine wp_loop_by (fun (q:Nat×Bool×List UInt8) a σ'=>q.1<=s.length/\q.2.2.length<=4*q.1/\q.2.2++propQ q.2.1 (s.drop q.1)=R/\(a 3 = .ptr b 0/\a 4 = .bool q.2.1/\a 9 = .ptr it 0)/\BD (σ.set it (some (.iter s q.1))) b q.2.2 σ') (fun q=>s.length-q.1) (0,false,[]) (Dr.now ⟨Nat.zero_le _,Nat.zero_le _,?_,?_,.inl ⟨rfl,rfl⟩⟩) ?_
 ·rw [<-hR,List.drop_zero];rfl
 ·simp [AFr.upd]
 rintro ⟨p,ins,out⟩ a σ1 ⟨hp,hol,hout,hf,hw⟩
 dsimp only at hp hol hout hf hw ⊢
 have hbi0:(σ.set it (some (.iter s p))) b=none:=by
  rw [ASt.set_ne (Ne.symm hbi)];exact hb
 by_cases hlt:p<s.length
 ·obtain ⟨h1,h2,h3,h4⟩:=range_at hlt
  obtain ⟨hw',hσit⟩:=hw.iter (r' := .iter s (p+(decodeL (s.drop p)).2)) hbi
  rw [propQ_step ins h1,List.drop_drop] at hout
  generalize decodeL (s.drop p)=D at *
  obtain ⟨r,w⟩:=D
  dsimp only at h3 h4 hout hw'
  have hel:=encU_len r
  have hlow:=hlow r
  have hgre:=hgre r
  have hlet:=hlet r
  have hen:(Utf8.encode (r:Int)).data.toList=encU r:=rfl
  generalize encU (r:Int)=E at *
  simp (disch:=first|assumption|omega|(simp only [List.length_append,List.length_cons,List.length_nil];omega)) only [go_sem,hf,hσit,←hF]
  refine nxt_more hlt ?_
  rw [h2]
  cases ins with
  | true=>
    rw [if_pos rfl] at hout
    simp (disch:=first|assumption|omega|(simp only [List.length_append,List.length_cons,List.length_nil];omega)) only [go_sem,hf,hen,←hF]
    refine hlow.use ?_
    simp (disch:=first|assumption|omega|(simp only [List.length_append,List.length_cons,List.length_nil];omega)) only [go_sem,hf,←hF]
    refine (writes1_ok hw' (smallP E) (fun e=>by have:=congrArg List.length e;rw [smallP_len,List.length_nil] at this;omega) (by rw [smallP_len];omega)).mono ?_
    rintro v σ2 ⟨rfl,hw2⟩
    simp (disch:=first|assumption|omega|(simp only [List.length_append,List.length_cons,List.length_nil];omega)) only [go_sem,hf,←hF]
    refine hlet.use ?_
    simp (disch:=first|assumption|omega|(simp only [List.length_append,List.length_cons,List.length_nil];omega)) only [go_sem,hf,←hF]
    refine ⟨(p+w,letterB r,out++smallP E),by dsimp only;omega,Dr.now ⟨h4,by show (out++smallP E).length<=4*(p+w);rw [List.length_append,smallP_len];omega,by rw [List.append_assoc];exact hout,?_,hw2⟩⟩
    simp [AFr.upd,hf]
  | false=>
    rw [if_neg (by decide)] at hout
    simp (disch:=first|assumption|omega|(simp only [List.length_append,List.length_cons,List.length_nil];omega)) only [go_sem,hf,hen,←hF]
    refine hgre.use ?_
    simp (disch:=first|assumption|omega|(simp only [List.length_append,List.length_cons,List.length_nil];omega)) only [go_sem,hf,←hF]
    refine (writes1_ok hw' (greatP E) (fun e=>by have:=congrArg List.length e;rw [greatP_len,List.length_nil] at this;omega) (by rw [greatP_len];omega)).mono ?_
    rintro v σ2 ⟨rfl,hw2⟩
    simp (disch:=first|assumption|omega|(simp only [List.length_append,List.length_cons,List.length_nil];omega)) only [go_sem,hf,←hF]
    refine hlet.use ?_
    simp (disch:=first|assumption|omega|(simp only [List.length_append,List.length_cons,List.length_nil];omega)) only [go_sem,hf,←hF]
    refine ⟨(p+w,letterB r,out++greatP E),by dsimp only;omega,Dr.now ⟨h4,by show (out++greatP E).length<=4*(p+w);rw [List.length_append,greatP_len];omega,by rw [List.append_assoc];exact hout,?_,hw2⟩⟩
    simp [AFr.upd,hf]
 ·rw [List.drop_eq_nil_of_le (by omega),propQ_nil,List.append_nil] at hout
  subst hout
  have hσit:=(hw.iter (r' := .iter s p) hbi).2
  have hov:=(hw.over hbi0).drop
  simp (disch:=first|assumption|omega|(simp only [List.length_append,List.length_cons,List.length_nil];omega)) only [go_sem,hf,hσit,←hF]
  refine nxt_over (by omega) ?_
  simp (disch:=first|assumption|omega|(simp only [List.length_append,List.length_cons,List.length_nil];omega)) only [go_sem,hf,←hF]
  rw [hF]
  simp (disch:=first|assumption|omega|(simp only [List.length_append,List.length_cons,List.length_nil];omega)) only [go_sem,hf]
  refine (bstring_ok hw (by omega)).mono ?_
  rintro v σ2 ⟨rfl,rfl⟩
  simp (disch:=first|assumption|omega|(simp only [List.length_append,List.length_cons,List.length_nil];omega)) only [go_sem]
  exact retC_by (hov.trans (Drop.set hit0)) (.refl _) ⟨rfl,rfl⟩
end Go.A
namespace Go.A
open Go.Proofs Go.Lib
def errV:List (List UInt8) := [[35,68,73,86,47,48,33],[35,78,85,77,33],[35,86,65,76,85,69,33],[35,82,69,70,33],[35,78,47,65],[35,78,65,77,69,63],[35,67,89,67,76,69,33]]
def showP:PV->List UInt8
 | .fail n=>errV.getD (n-1).toNat []
 | v=>(asTextP v).1
theorem show_ok {σ:ASt} (hT:Tab σ) (v:PV) (hv:v.good):ACalls Tryz.prog 14 [v.av] σ fun r σ'=>r = .str (showP v)/\σ'=σ:=by
 have h1:=failed_ok v
 have h2:=asText_ok hT v hv
 have h3:=errors_ok
 have hc:(∃ m,v = .fail m)\/(failedP v=(0,false)/\showP v=(asTextP v).1):=by
  cases v<;>first|exact .inl ⟨_,rfl⟩|exact .inr ⟨rfl,rfl⟩
 rcases hc with ⟨m,rfl⟩|⟨hc,hs⟩
 ·have hm:1<=m/\m<=7:=hv
  have hcs:m=1\/m=2\/m=3\/m=4\/m=5\/m=6\/m=7:=by omega
  simp only [failedP,PV.av] at h1 ⊢
  refine a14 (by simp) ?_
  simp (disch:=first|assumption|omega|(simp only [List.length_append,List.length_cons,List.length_nil];omega)) only [go_sem]
  refine h1.use ?_
  simp (disch:=first|assumption|omega|(simp only [List.length_append,List.length_cons,List.length_nil];omega)) only [go_sem]
  refine h3.use ?_
  rcases hcs with rfl|rfl|rfl|rfl|rfl|rfl|rfl
  all_goals
   simp (disch:=first|assumption|omega|(simp only [List.length_append,List.length_cons,List.length_nil];omega)) only [go_sem]
   exact retC_by (Drop.refl _) (.refl _) ⟨rfl,rfl⟩
 ·rw [hc] at h1
  rw [hs]
  generalize (asTextP v).1=t at *
  generalize (asTextP v).2=f at *
  generalize v.av=a at *
  refine a14 (by simp) ?_
  simp (disch:=first|assumption|omega|(simp only [List.length_append,List.length_cons,List.length_nil];omega)) only [go_sem]
  refine h1.use ?_
  simp (disch:=first|assumption|omega|(simp only [List.length_append,List.length_cons,List.length_nil];omega)) only [go_sem]
  refine h2.mono ?_
  rintro r σ' ⟨rfl,rfl⟩
  simp (disch:=first|assumption|omega|(simp only [List.length_append,List.length_cons,List.length_nil];omega)) only [go_sem]
  exact retC_by (Drop.refl _) (.refl _) ⟨rfl,rfl⟩
end Go.A
namespace Go.A
open Go.Proofs
/-! 7: tabular/texts.Has -/
def c7_5:ACode := .seq (.ops [ oq 2 (.mv (.v (.bool false)))]) (.seq (.ops [ oq 6 (.mv (.t 0)),oe 7 (.call 15 [(.t 6)]),oq 5 (.mv (.t 7)),oq 8 (.ext 0 (.t 5)),oq 9 (.ext 1 (.t 5)),oq 3 (.mv (.t 8)),oq 4 (.mv (.t 9))]) (.seq (.ops [ oq 10 (.mv (.t 4)),oq 11 (.bin .gtr (.t 10) (.v (.int .i64 0))),oq 2 (.mv (.t 11))]) .ret))
@[go_sem] def c7_5_wp:=wp_of c7_5.eq_1
def c7:AFn:=⟨12,[.t 2],c7_5⟩
theorem c7_ok:compF Tryz.prog Tryz.f7=some c7:=by kernel_rfl
theorem a7 {args:List AV} {σ:ASt} {R:AV->ASt->Prop} (hl:args.length<=12) (h:c7_5.wp Tryz.prog (RetQ [.t 2] R) (init args) σ):ACalls Tryz.prog 7 args σ R:=acalls_of Tryz.func7 c7_ok hl h
/-! 10: tabular/texts.Call -/
def c10_27:ACode := .seq (.ops [ oq 4 (.mv (.v .nili))]) (.seq (.ops [ oq 10 (.mv (.t 0)),oe 11 (.call 15 [(.t 10)]),oq 9 (.mv (.t 11)),oq 12 (.ext 0 (.t 9)),oq 13 (.ext 1 (.t 9)),oq 5 (.mv (.t 12)),oq 6 (.mv (.t 13))]) (.seq (.seq (.ops [ oq 14 (.mv (.t 6)),oq 15 (.bin .eql (.t 14) (.v (.int .i64 0)))]) (.cond (.t 15) (.seq (.ops [ oq 16 (.mki 46 (.v (.int .i64 6))),oq 4 (.mv (.t 16))]) .ret) .skip)) (.seq (.seq (.ops [ oq 17 (.mv (.t 1)),oq 18 (.len (.t 17)),oq 19 (.mv (.t 5)),oq 20 (.bin .lss (.t 18) (.t 19)),oq 21 (.mv (.t 20)),⟨some 22,some (21,false),.q (.mv (.t 1)),[]⟩,⟨some 23,some (21,false),.q (.len (.t 22)),[]⟩,⟨some 24,some (21,false),.q (.mv (.t 6)),[]⟩,⟨some 25,some (21,false),.q (.bin .gtr (.t 23) (.t 24)),[]⟩,oq 26 (.pick (.t 21) (.v (.bool true)) (.t 25))]) (.cond (.t 26) (.seq (.ops [ oq 27 (.mki 46 (.v (.int .i64 3))),oq 4 (.mv (.t 27))]) .ret) .skip)) (.seq (.ops [ oq 28 (.mv (.t 1)),oq 29 (.build [(.sl .full []),(.int .i64 0)] [(0,1,(.t 28))]),oe 30 (.box (.t 29)),oq 7 (.mv (.t 30))]) (.seq (.ops [ oq 31 (.mv (.t 7)),oq 32 (.mv (.t 0)),oe 33 (.call 18 [(.t 31),(.t 32)]),oq 8 (.mv (.t 33))]) (.seq (.seq (.ops [ oq 34 (.mv (.t 7)),oq 35 (.nc (.t 34)),oq 36 (.fa 1 (.t 35)),oq 37 (.ld none (.t 36)),oq 38 (.bin .neq (.t 37) (.v (.int .i64 0)))]) (.cond (.t 38) (.seq (.ops [ oq 39 (.mv (.t 7)),oq 40 (.nc (.t 39)),oq 41 (.fa 1 (.t 40)),oq 42 (.ld none (.t 41)),oq 43 (.mki 46 (.t 42)),oq 4 (.mv (.t 43))]) .ret) .skip)) (.seq (.ops [ oq 44 (.mv (.t 8)),oq 4 (.mv (.t 44))]) .ret)))))))
@[go_sem] def c10_27_wp:=wp_of c10_27.eq_1
def c10:AFn:=⟨45,[.t 4],c10_27⟩
theorem c10_ok:compF Tryz.prog Tryz.f10=some c10:=by kernel_rfl
theorem a10 {args:List AV} {σ:ASt} {R:AV->ASt->Prop} (hl:args.length<=45) (h:c10_27.wp Tryz.prog (RetQ [.t 4] R) (init args) σ):ACalls Tryz.prog 10 args σ R:=acalls_of Tryz.func10 c10_ok hl h
/-! 15: tabular/texts.limits -/
def c15_80:ACode := .seq (.seq (.ops [ oq 6 (.bin .eql (.t 4) (.v (.str [76,69,78]))),oq 5 (.mv (.t 6))]) (.cond (.t 5) .skip (.seq (.ops [ oq 7 (.bin .eql (.t 4) (.v (.str [85,80,80,69,82]))),oq 5 (.mv (.t 7))]) (.cond (.t 5) .skip (.seq (.ops [ oq 8 (.bin .eql (.t 4) (.v (.str [76,79,87,69,82]))),oq 5 (.mv (.t 8))]) (.cond (.t 5) .skip (.seq (.ops [ oq 9 (.bin .eql (.t 4) (.v (.str [80,82,79,80,69,82]))),oq 5 (.mv (.t 9))]) (.cond (.t 5) .skip (.seq (.ops [ oq 10 (.bin .eql (.t 4) (.v (.str [84,82,73,77]))),oq 5 (.mv (.t 10))]) (.cond (.t 5) .skip (.seq (.ops [ oq 11 (.bin .eql (.t 4) (.v (.str [86,65,76,85,69]))),oq 5 (.mv (.t 11))]) (.cond (.t 5) .skip (.seq (.ops [ oq 12 (.bin .eql (.t 4) (.v (.str [67,72,65,82]))),oq 5 (.mv (.t 12))]) (.cond (.t 5) .skip (.seq (.ops [ oq 13 (.bin .eql (.t 4) (.v (.str [67,79,68,69]))),oq 5 (.mv (.t 13))]) (.cond (.t 5) .skip (.seq (.ops [ oq 14 (.bin .eql (.t 4) (.v (.str [84]))),oq 5 (.mv (.t 14))]) (.cond (.t 5) .skip (.ops [ oq 15 (.bin .eql (.t 4) (.v (.str [82,69,86,69,82,83,69]))),oq 5 (.mv (.t 15))]))))))))))))))))))) (.cond (.t 5) (.seq (.ops [ oq 2 (.mv (.v (.int .i64 1))),oq 3 (.mv (.v (.int .i64 1)))]) .ret) (.seq (.seq (.ops [ oq 17 (.bin .eql (.t 4) (.v (.str [76,69,70,84]))),oq 16 (.mv (.t 17))]) (.cond (.t 16) .skip (.seq (.ops [ oq 18 (.bin .eql (.t 4) (.v (.str [82,73,71,72,84]))),oq 16 (.mv (.t 18))]) (.cond (.t 16) .skip (.ops [ oq 19 (.bin .eql (.t 4) (.v (.str [70,73,88,69,68]))),oq 16 (.mv (.t 19))]))))) (.cond (.t 16) (.seq (.ops [ oq 2 (.mv (.v (.int .i64 1))),oq 3 (.mv (.v (.int .i64 2)))]) .ret) (.seq (.seq (.ops [ oq 21 (.bin .eql (.t 4) (.v (.str [82,69,80,84]))),oq 20 (.mv (.t 21))]) (.cond (.t 20) .skip (.ops [ oq 22 (.bin .eql (.t 4) (.v (.str [69,88,65,67,84]))),oq 20 (.mv (.t 22))]))) (.cond (.t 20) (.seq (.ops [ oq 2 (.mv (.v (.int .i64 2))),oq 3 (.mv (.v (.int .i64 2)))]) .ret) (.seq (.seq (.ops [ oq 24 (.bin .eql (.t 4) (.v (.str [70,73,78,68]))),oq 23 (.mv (.t 24))]) (.cond (.t 23) .skip (.ops [ oq 25 (.bin .eql (.t 4) (.v (.str [83,69,65,82,67,72]))),oq 23 (.mv (.t 25))]))) (.cond (.t 23) (.seq (.ops [ oq 2 (.mv (.v (.int .i64 2))),oq 3 (.mv (.v (.int .i64 3)))]) .ret) (.seq (.ops [ oq 27 (.bin .eql (.t 4) (.v (.str [77,73,68]))),oq 26 (.mv (.t 27))]) (.cond (.t 26) (.seq (.ops [ oq 2 (.mv (.v (.int .i64 3))),oq 3 (.mv (.v (.int .i64 3)))]) .ret) (.seq (.ops [ oq 29 (.bin .eql (.t 4) (.v (.str [83,85,66,83,84,73,84,85,84,69]))),oq 28 (.mv (.t 29))]) (.cond (.t 28) (.seq (.ops [ oq 2 (.mv (.v (.int .i64 3))),oq 3 (.mv (.v (.int .i64 4)))]) .ret) (.seq (.ops [ oq 31 (.bin .eql (.t 4) (.v (.str [82,69,80,76,65,67,69]))),oq 30 (.mv (.t 31))]) (.cond (.t 30) (.seq (.ops [ oq 2 (.mv (.v (.int .i64 4))),oq 3 (.mv (.v (.int .i64 4)))]) .ret) (.seq (.ops [ oq 33 (.bin .eql (.t 4) (.v (.str [67,79,78,67,65,84]))),oq 32 (.mv (.t 33))]) (.cond (.t 32) (.seq (.ops [ oq 2 (.mv (.v (.int .i64 1))),oq 3 (.mv (.v (.int .i64 30)))]) .ret) .skip)))))))))))))))
def c15_86:ACode := .seq (.ops [ oq 2 (.mv (.v (.int .i64 0))),oq 3 (.mv (.v (.int .i64 0)))]) (.seq (.seq (.ops [ oq 4 (.mv (.t 0))]) (.block 0 c15_80)) (.seq (.ops [ oq 2 (.mv (.v (.int .i64 0))),oq 3 (.mv (.v (.int .i64 0)))]) .ret))
@[go_sem] def c15_80_wp:=wp_of c15_80.eq_1
@[go_sem] def c15_86_wp:=wp_of c15_86.eq_1
def c15:AFn:=⟨34,[.t 2,.t 3],c15_86⟩
theorem c15_ok:compF Tryz.prog Tryz.f15=some c15:=by kernel_rfl
theorem a15 {args:List AV} {σ:ASt} {R:AV->ASt->Prop} (hl:args.length<=34) (h:c15_86.wp Tryz.prog (RetQ [.t 2,.t 3] R) (init args) σ):ACalls Tryz.prog 15 args σ R:=acalls_of Tryz.func15 c15_ok hl h
end Go.A
namespace Go.A
open Go.Proofs Go.Lib
def nLEN:List UInt8 := [76,69,78]
def nUPPER:List UInt8 := [85,80,80,69,82]
def nLOWER:List UInt8 := [76,79,87,69,82]
def nPROPER:List UInt8 := [80,82,79,80,69,82]
def nTRIM:List UInt8 := [84,82,73,77]
def nVALUE:List UInt8 := [86,65,76,85,69]
def nCHAR:List UInt8 := [67,72,65,82]
def nCODE:List UInt8 := [67,79,68,69]
def nT:List UInt8 := [84]
def nREVERSE:List UInt8 := [82,69,86,69,82,83,69]
def nLEFT:List UInt8 := [76,69,70,84]
def nRIGHT:List UInt8 := [82,73,71,72,84]
def nFIXED:List UInt8 := [70,73,88,69,68]
def nREPT:List UInt8 := [82,69,80,84]
def nEXACT:List UInt8 := [69,88,65,67,84]
def nFIND:List UInt8 := [70,73,78,68]
def nSEARCH:List UInt8 := [83,69,65,82,67,72]
def nMID:List UInt8 := [77,73,68]
def nSUBSTITUTE:List UInt8 := [83,85,66,83,84,73,84,85,84,69]
def nREPLACE:List UInt8 := [82,69,80,76,65,67,69]
def nCONCAT:List UInt8 := [67,79,78,67,65,84]
def limX (s:List UInt8):Int×Int:=
 if s ∈ [nLEN,nUPPER,nLOWER,nPROPER,nTRIM,nVALUE,nCHAR,nCODE,nT,nREVERSE] then (1,1)
 else if s ∈ [nLEFT,nRIGHT,nFIXED] then (1,2)
 else if s ∈ [nREPT,nEXACT] then (2,2)
 else if s ∈ [nFIND,nSEARCH] then (2,3)
 else if s=nMID then (3,3)
 else if s=nSUBSTITUTE then (3,4)
 else if s=nREPLACE then (4,4)
 else if s=nCONCAT then (1,30)
 else (0,0)
set_option maxHeartbeats 4000000 in
theorem xlimits_ok (s:List UInt8):Pure Tryz.prog 15 [.str s] (.tuple [.int .i64 (limX s).1,.int .i64 (limX s).2]):=by
 intro σ
 refine a15 (by simp) ?_
 repeat' (first|(simp (disch:=first|assumption|omega|(simp only [List.length_append,List.length_cons,List.length_nil];omega)) only [go_sem])|with_reducible refine gC_d (fun h=>?_) (fun h=>?_)|with_reducible refine gC_dn (fun h=>?_) (fun h=>?_)|with_reducible refine condC_d (fun h=>?_) (fun h=>?_)|with_reducible refine condC_n (fun h=>?_) (fun h=>?_)|with_reducible refine condC_b (fun h=>?_) (fun h=>?_)|with_reducible refine boxC_by ?_ fun b hb=>?_)
 all_goals refine retC_by (by repeat' (first|exact Drop.refl _|with_reducible refine Drop.off ?_ (by assumption))) (.refl _) ⟨?_,rfl⟩
 all_goals simp [resV_one,limX,nLEN,nUPPER,nLOWER,nPROPER,nTRIM,nVALUE,nCHAR,nCODE,nT,nREVERSE,nLEFT,nRIGHT,nFIXED,nREPT,nEXACT,nFIND,nSEARCH,nMID,nSUBSTITUTE,nREPLACE,nCONCAT, *]
 all_goals rfl
theorem xhas_ok (s:List UInt8):Pure Tryz.prog 7 [.str s] (.bool (decide (0<(limX s).2))):=by
 intro σ
 have hL:=xlimits_ok s
 generalize (limX s).1=x at *
 generalize (limX s).2=y at *
 refine a7 (by simp) ?_
 simp (disch:=first|assumption|omega|(simp only [List.length_append,List.length_cons,List.length_nil];omega)) only [go_sem]
 refine hL.use ?_
 simp (disch:=first|assumption|omega|(simp only [List.length_append,List.length_cons,List.length_nil];omega)) only [go_sem]
 exact retC_by (by repeat' (first|exact Drop.refl _|with_reducible refine Drop.off ?_ (by assumption))) (.refl _) ⟨rfl,rfl⟩
theorem xcall_of {σ:ASt} (hT:Tab σ) (s:List UInt8) (L:List PV) (V:PV) (f:Int) (h0:(limX s).2≠0) (h1:(limX s).1<=L.length) (h2:(L.length:Int)<=(limX s).2)
  (hr:∀ (b:Nat) (τ:ASt),Tab τ->τ b=rdO L 0->(∀ x r,σ x=some r->τ x=some r)->ACalls Tryz.prog 18 [.ptr b 0,.str s] τ fun v σ'=>v=V.av/\σ'=τ.set b (rdO L f)) :
  ACalls Tryz.prog 10 [.str s,.sl .shr (L.map argAV)] σ fun v σ'=>v=(if f=0 then V else .fail f).av/\σ'=σ:=by
 have hL:=xlimits_ok s
 have hl:(L.map argAV).length=L.length:=List.length_map _
 generalize (limX s).1=least at *
 generalize (limX s).2=most at *
 unfold rdO at hr
 generalize L.map argAV=LA at *
 refine a10 (by simp) ?_
 simp (disch:=first|assumption|omega|(simp only [List.length_append,List.length_cons,List.length_nil];omega)) only [go_sem]
 refine hL.use ?_
 have g1:¬ ((LA.length:Int)<least):=by omega
 have g2:¬ (most<(LA.length:Int)):=by omega
 have g3:¬ ((L.length:Int)<least):=by omega
 have g4:¬ (most<(L.length:Int)):=by omega
 simp (disch:=first|assumption|omega|(simp only [List.length_append,List.length_cons,List.length_nil];omega)) only [go_sem,h0,hl,g1,g2,g3,g4]
 refine boxC_by rfl fun b hb=>?_
 simp (disch:=first|assumption|omega|(simp only [List.length_append,List.length_cons,List.length_nil];omega)) only [go_sem]
 refine (hr b _ (Tab.set hT hb) (ASt.set_same _ _ _) (fun x r hx=>by rw [ASt.set_ne (by rintro rfl;rw [hb] at hx;cases hx)];exact hx)).mono ?_
 rintro v σ' ⟨rfl,rfl⟩
 by_cases hf:f=0
 ·rw [if_pos hf]
  simp (disch:=first|assumption|omega|(simp only [List.length_append,List.length_cons,List.length_nil];omega)) only [go_sem,ASt.set_set,hf]
  exact retC_by (Drop.set hb) (.refl _) ⟨rfl,rfl⟩
 ·rw [if_neg hf]
  simp only [PV.av]
  simp (disch:=first|assumption|omega|(simp only [List.length_append,List.length_cons,List.length_nil];omega)) only [go_sem,ASt.set_set,hf]
  exact retC_by (Drop.set hb) (.refl _) ⟨rfl,rfl⟩
end Go.A
namespace Go.A
open Go.Proofs
/-! 18: (*tabular/texts.reader).call -/
def c18_94:ACode := .seq (.ops [ oq 107 (.bin .eql (.t 72) (.v (.str [69,88,65,67,84]))),oq 106 (.mv (.t 107))]) (.cond (.t 106) (.seq (.ops [ oq 108 (.mv (.t 10)),oq 109 (.mv (.t 0)),oe 110 (.call 53 [(.t 109),(.v (.int .i64 1))]),oq 111 (.bin .eql (.t 108) (.t 110)),oq 112 (.mki 90 (.t 111)),oq 4 (.mv (.t 112))]) .ret) (.seq (.ops [ oq 114 (.bin .eql (.t 72) (.v (.str [70,73,78,68]))),oq 113 (.mv (.t 114))]) (.cond (.t 113) (.seq (.ops [ oq 115 (.mv (.t 10)),oq 116 (.mv (.t 0)),oe 117 (.call 53 [(.t 116),(.v (.int .i64 1))]),oq 118 (.mv (.t 0)),oe 119 (.call 48 [(.t 118),(.v (.int .i64 2)),(.v (.int .i64 1))]),oe 120 (.call 57 [(.t 115),(.t 117),(.t 119)]),oq 4 (.mv (.t 120))]) .ret) (.seq (.ops [ oq 122 (.bin .eql (.t 72) (.v (.str [83,69,65,82,67,72]))),oq 121 (.mv (.t 122))]) (.cond (.t 121) (.seq (.ops [ oq 123 (.mv (.t 10)),oe 124 (.call 58 [(.t 123)]),oq 125 (.mv (.t 0)),oe 126 (.call 53 [(.t 125),(.v (.int .i64 1))]),oe 127 (.call 58 [(.t 126)]),oq 128 (.mv (.t 0)),oe 129 (.call 48 [(.t 128),(.v (.int .i64 2)),(.v (.int .i64 1))]),oe 130 (.call 57 [(.t 124),(.t 127),(.t 129)]),oq 4 (.mv (.t 130))]) .ret) (.seq (.ops [ oq 132 (.bin .eql (.t 72) (.v (.str [83,85,66,83,84,73,84,85,84,69]))),oq 131 (.mv (.t 132))]) (.cond (.t 131) (.seq (.ops [ oq 133 (.mv (.t 0)),oe 134 (.call 53 [(.t 133),(.v (.int .i64 1))]),oq 135 (.mv (.t 0)),oe 136 (.call 53 [(.t 135),(.v (.int .i64 2))]),oq 137 (.mv (.t 0)),oe 138 (.call 48 [(.t 137),(.v (.int .i64 3)),(.v (.int .i64 0))]),oq 13 (.mv (.t 134)),oq 14 (.mv (.t 136)),oq 15 (.mv (.t 138))]) (.seq (.seq (.ops [ oq 139 (.mv (.t 0)),oe 140 (.call 59 [(.t 139),(.v (.int .i64 3))]),oq 141 (.mv (.t 140)),⟨some 142,some (141,true),.q (.mv (.t 15)),[]⟩,⟨some 143,some (141,true),.q (.bin .lss (.t 142) (.v (.int .i64 1))),[]⟩,oq 144 (.pick (.t 141) (.t 143) (.v (.bool false)))]) (.cond (.t 144) (.seq (.ops [ oq 145 (.mki 46 (.v (.int .i64 3))),oq 4 (.mv (.t 145))]) .ret) .skip)) (.seq (.ops [ oq 146 (.mv (.t 10)),oq 147 (.mv (.t 13)),oq 148 (.mv (.t 14)),oq 149 (.mv (.t 15)),oe 150 (.call 60 [(.t 146),(.t 147),(.t 148),(.t 149)]),oq 4 (.mv (.t 150))]) .ret))) (.seq (.ops [ oq 152 (.bin .eql (.t 72) (.v (.str [82,69,80,76,65,67,69]))),oq 151 (.mv (.t 152))]) (.cond (.t 151) (.seq (.ops [ oq 153 (.mv (.t 0)),oe 154 (.call 48 [(.t 153),(.v (.int .i64 1)),(.v (.int .i64 1))]),oq 155 (.mv (.t 0)),oe 156 (.call 48 [(.t 155),(.v (.int .i64 2)),(.v (.int .i64 1))]),oq 16 (.mv (.t 154)),oq 17 (.mv (.t 156))]) (.seq (.ops [ oq 157 (.mv (.t 10)),oq 158 (.mv (.t 16)),oq 159 (.mv (.t 17)),oq 160 (.mv (.t 0)),oe 161 (.call 53 [(.t 160),(.v (.int .i64 3))]),oe 162 (.call 61 [(.t 157),(.t 158),(.t 159),(.t 161)]),oq 4 (.mv (.t 162))]) .ret)) .skip)))))))))
def c18_107:ACode := .seq (.seq (.ops [ oq 18 (.mv (.t 1))]) (.block 0 (.seq (.ops [ oq 20 (.bin .eql (.t 18) (.v (.str [67,72,65,82]))),oq 19 (.mv (.t 20))]) (.cond (.t 19) (.seq (.ops [ oq 21 (.mv (.t 0)),oe 22 (.call 48 [(.t 21),(.v (.int .i64 0)),(.v (.int .i64 0))]),oe 23 (.call 47 [(.t 22)]),oq 4 (.mv (.t 23))]) .ret) (.seq (.ops [ oq 25 (.bin .eql (.t 18) (.v (.str [67,79,78,67,65,84]))),oq 24 (.mv (.t 25))]) (.cond (.t 24) (.seq (.ops [ oq 26 (.mv (.t 0)),oe 27 (.call 49 [(.t 26)]),oq 4 (.mv (.t 27))]) .ret) (.seq (.ops [ oq 29 (.bin .eql (.t 18) (.v (.str [70,73,88,69,68]))),oq 28 (.mv (.t 29))]) (.cond (.t 28) (.seq (.ops [ oq 31 (.mv (.t 0)),oq 32 (.nc (.t 31)),oq 33 (.fa 0 (.t 32)),oq 34 (.ld none (.t 33)),oq 35 (.ia 4 (.t 34) (.v (.int .i64 0))),oq 36 (.ld (some 4) (.t 35)),oe 37 (.call 43 [(.t 36)]),oe 38 (.call 50 [(.t 37)]),oq 30 (.mv (.t 38)),oq 39 (.ext 0 (.t 30)),oq 40 (.ext 1 (.t 30)),oq 5 (.mv (.t 39)),oq 6 (.mv (.t 40))]) (.seq (.ops [ oq 41 (.mv (.t 0)),oq 42 (.mv (.t 6)),oq 43 (.nc (.t 41)),oq 44 (.fa 1 (.t 43)),oz (.store 1 (.t 44) (.t 42))]) (.seq (.ops [ oq 45 (.mv (.t 5)),oq 46 (.mv (.t 0)),oe 47 (.call 48 [(.t 46),(.v (.int .i64 1)),(.v (.int .i64 2))]),oe 48 (.call 51 [(.t 45),(.t 47)]),oq 4 (.mv (.t 48))]) .ret))) (.seq (.ops [ oq 50 (.bin .eql (.t 18) (.v (.str [84]))),oq 49 (.mv (.t 50))]) (.cond (.t 49) (.seq (.ops [ oq 51 (.mv (.t 0)),oq 52 (.nc (.t 51)),oq 53 (.fa 0 (.t 52)),oq 54 (.ld none (.t 53)),oq 55 (.ia 4 (.t 54) (.v (.int .i64 0))),oq 56 (.ld (some 4) (.t 55)),oe 57 (.call 43 [(.t 56)]),oq 7 (.mv (.t 57))]) (.seq (.seq (.ops [ oq 59 (.mv (.t 7)),oe 60 (.call 44 [(.t 59)]),oq 58 (.mv (.t 60)),oq 61 (.ext 0 (.t 58)),oq 62 (.ext 1 (.t 58)),oq 8 (.mv (.t 61)),oq 9 (.mv (.t 62))]) (.seq (.ops [ oq 63 (.mv (.t 9)),oq 64 (.mv (.t 63)),⟨some 65,some (64,false),.q (.mv (.t 7)),[]⟩,⟨some 66,some (64,false),.e (.call 52 [(.t 65)]),[]⟩,oq 67 (.pick (.t 64) (.v (.bool true)) (.t 66))]) (.cond (.t 67) (.seq (.ops [ oq 68 (.mv (.t 7)),oq 4 (.mv (.t 68))]) .ret) .skip))) (.seq (.ops [ oq 69 (.mki 89 (.v (.str []))),oq 4 (.mv (.t 69))]) .ret))) .skip)))))))))) (.seq (.ops [ oq 70 (.mv (.t 0)),oe 71 (.call 53 [(.t 70),(.v (.int .i64 0))]),oq 10 (.mv (.t 71))]) (.seq (.seq (.ops [ oq 72 (.mv (.t 1))]) (.block 1 (.seq (.seq (.ops [ oq 74 (.bin .eql (.t 72) (.v (.str [76,69,70,84]))),oq 73 (.mv (.t 74))]) (.cond (.t 73) .skip (.ops [ oq 75 (.bin .eql (.t 72) (.v (.str [82,73,71,72,84]))),oq 73 (.mv (.t 75))]))) (.cond (.t 73) (.seq (.ops [ oq 76 (.mv (.t 1)),oq 77 (.mv (.t 10)),oq 78 (.mv (.t 0)),oe 79 (.call 48 [(.t 78),(.v (.int .i64 1)),(.v (.int .i64 1))]),oe 80 (.call 54 [(.t 76),(.t 77),(.t 79)]),oq 4 (.mv (.t 80))]) .ret) (.seq (.ops [ oq 82 (.bin .eql (.t 72) (.v (.str [77,73,68]))),oq 81 (.mv (.t 82))]) (.cond (.t 81) (.seq (.ops [ oq 83 (.mv (.t 0)),oe 84 (.call 48 [(.t 83),(.v (.int .i64 1)),(.v (.int .i64 1))]),oq 85 (.mv (.t 0)),oe 86 (.call 48 [(.t 85),(.v (.int .i64 2)),(.v (.int .i64 1))]),oq 11 (.mv (.t 84)),oq 12 (.mv (.t 86))]) (.seq (.seq (.ops [ oq 87 (.mv (.t 11)),oq 88 (.bin .lss (.t 87) (.v (.int .i64 1))),oq 89 (.mv (.t 88)),⟨some 90,some (89,false),.q (.mv (.t 12)),[]⟩,⟨some 91,some (89,false),.q (.bin .lss (.t 90) (.v (.int .i64 0))),[]⟩,oq 92 (.pick (.t 89) (.v (.bool true)) (.t 91))]) (.cond (.t 92) (.seq (.ops [ oq 93 (.mki 46 (.v (.int .i64 3))),oq 4 (.mv (.t 93))]) .ret) .skip)) (.seq (.ops [ oq 94 (.mv (.t 10)),oq 95 (.mv (.t 11)),oq 96 (.bin .sub (.t 95) (.v (.int .i64 1))),oq 97 (.mv (.t 12)),oe 98 (.call 55 [(.t 94),(.t 96),(.t 97)]),oq 99 (.mki 89 (.t 98)),oq 4 (.mv (.t 99))]) .ret))) (.seq (.ops [ oq 101 (.bin .eql (.t 72) (.v (.str [82,69,80,84]))),oq 100 (.mv (.t 101))]) (.cond (.t 100) (.seq (.ops [ oq 102 (.mv (.t 10)),oq 103 (.mv (.t 0)),oe 104 (.call 48 [(.t 103),(.v (.int .i64 1)),(.v (.int .i64 1))]),oe 105 (.call 56 [(.t 102),(.t 104)]),oq 4 (.mv (.t 105))]) .ret) c18_94)))))))) (.seq (.ops [ oq 163 (.mv (.t 1)),oq 164 (.mv (.t 10)),oe 165 (.call 62 [(.t 163),(.t 164)]),oq 4 (.mv (.t 165))]) .ret)))
def c18_108:ACode := .seq (.ops [ oq 4 (.mv (.v .nili))]) c18_107
@[go_sem] def c18_94_wp:=wp_of c18_94.eq_1
@[go_sem] def c18_107_wp:=wp_of c18_107.eq_1
@[go_sem] def c18_108_wp:=wp_of c18_108.eq_1
def c18:AFn:=⟨166,[.t 4],c18_108⟩
theorem c18_ok:compF Tryz.prog Tryz.f18=some c18:=by kernel_rfl
theorem a18 {args:List AV} {σ:ASt} {R:AV->ASt->Prop} (hl:args.length<=166) (h:c18_108.wp Tryz.prog (RetQ [.t 4] R) (init args) σ):ACalls Tryz.prog 18 args σ R:=acalls_of Tryz.func18 c18_ok hl h
/-! 62: tabular/texts.one -/
def c62_50:ACode := .seq (.ops [ oq 4 (.mv (.v .nili))]) (.seq (.seq (.ops [ oq 7 (.mv (.t 0))]) (.block 0 (.seq (.ops [ oq 9 (.bin .eql (.t 7) (.v (.str [76,69,78]))),oq 8 (.mv (.t 9))]) (.cond (.t 8) (.seq (.ops [ oq 10 (.mv (.t 1)),oe 11 (.call 83 [(.t 10)]),oe 12 (.call 87 [(.t 11)]),oq 13 (.ext 0 (.t 12)),oq 14 (.ext 1 (.t 12)),oe 15 (.call 86 [(.t 13),(.t 14)]),oq 4 (.mv (.t 15))]) .ret) (.seq (.ops [ oq 17 (.bin .eql (.t 7) (.v (.str [85,80,80,69,82]))),oq 16 (.mv (.t 17))]) (.cond (.t 16) (.seq (.ops [ oq 18 (.mv (.t 1)),oe 19 (.call 58 [(.t 18)]),oq 20 (.mki 89 (.t 19)),oq 4 (.mv (.t 20))]) .ret) (.seq (.ops [ oq 22 (.bin .eql (.t 7) (.v (.str [76,79,87,69,82]))),oq 21 (.mv (.t 22))]) (.cond (.t 21) (.seq (.ops [ oq 23 (.mv (.t 1)),oe 24 (.call 92 [(.t 23)]),oq 25 (.mki 89 (.t 24)),oq 4 (.mv (.t 25))]) .ret) (.seq (.ops [ oq 27 (.bin .eql (.t 7) (.v (.str [80,82,79,80,69,82]))),oq 26 (.mv (.t 27))]) (.cond (.t 26) (.seq (.ops [ oq 28 (.mv (.t 1)),oe 29 (.call 93 [(.t 28)]),oq 30 (.mki 89 (.t 29)),oq 4 (.mv (.t 30))]) .ret) (.seq (.ops [ oq 32 (.bin .eql (.t 7) (.v (.str [84,82,73,77]))),oq 31 (.mv (.t 32))]) (.cond (.t 31) (.seq (.ops [ oq 33 (.mv (.t 1)),oe 34 (.call 94 [(.t 33)]),oq 35 (.mki 89 (.t 34)),oq 4 (.mv (.t 35))]) .ret) (.seq (.ops [ oq 37 (.bin .eql (.t 7) (.v (.str [67,79,68,69]))),oq 36 (.mv (.t 37))]) (.cond (.t 36) (.seq (.ops [ oq 38 (.mv (.t 1)),oe 39 (.call 95 [(.t 38)]),oq 4 (.mv (.t 39))]) .ret) (.seq (.ops [ oq 41 (.bin .eql (.t 7) (.v (.str [82,69,86,69,82,83,69]))),oq 40 (.mv (.t 41))]) (.cond (.t 40) (.seq (.ops [ oq 42 (.mv (.t 1)),oe 43 (.call 96 [(.t 42)]),oq 44 (.mki 89 (.t 43)),oq 4 (.mv (.t 44))]) .ret) .skip)))))))))))))))) (.seq (.ops [ oq 46 (.mv (.t 1)),oq 47 (.mki 89 (.t 46)),oe 48 (.call 50 [(.t 47)]),oq 45 (.mv (.t 48)),oq 49 (.ext 0 (.t 45)),oq 50 (.ext 1 (.t 45)),oq 5 (.mv (.t 49)),oq 6 (.mv (.t 50))]) (.seq (.seq (.ops [ oq 51 (.mv (.t 6)),oq 52 (.bin .neq (.t 51) (.v (.int .i64 0)))]) (.cond (.t 52) (.seq (.ops [ oq 53 (.mv (.t 6)),oq 54 (.mki 46 (.t 53)),oq 4 (.mv (.t 54))]) .ret) .skip)) (.seq (.ops [ oq 55 (.mv (.t 5)),oq 56 (.mki 88 (.t 55)),oq 4 (.mv (.t 56))]) .ret))))
@[go_sem] def c62_50_wp:=wp_of c62_50.eq_1
def c62:AFn:=⟨57,[.t 4],c62_50⟩
theorem c62_ok:compF Tryz.prog Tryz.f62=some c62:=by kernel_rfl
theorem a62 {args:List AV} {σ:ASt} {R:AV->ASt->Prop} (hl:args.length<=57) (h:c62_50.wp Tryz.prog (RetQ [.t 4] R) (init args) σ):ACalls Tryz.prog 62 args σ R:=acalls_of Tryz.func62 c62_ok hl h
end Go.A
namespace Go.A
open Go.Proofs Go.Lib
theorem nes_LEN:([76,69,78]:List UInt8) ≠ [85,80,80,69,82]/\([76,69,78]:List UInt8) ≠ [76,79,87,69,82]/\([76,69,78]:List UInt8) ≠ [80,82,79,80,69,82]/\([76,69,78]:List UInt8) ≠ [84,82,73,77]/\([76,69,78]:List UInt8) ≠ [86,65,76,85,69]/\([76,69,78]:List UInt8) ≠ [67,72,65,82]/\([76,69,78]:List UInt8) ≠ [67,79,68,69]/\([76,69,78]:List UInt8) ≠ [84]/\([76,69,78]:List UInt8) ≠ [82,69,86,69,82,83,69]/\([76,69,78]:List UInt8) ≠ [76,69,70,84]/\([76,69,78]:List UInt8) ≠ [82,73,71,72,84]/\([76,69,78]:List UInt8) ≠ [70,73,88,69,68]/\([76,69,78]:List UInt8) ≠ [82,69,80,84]/\([76,69,78]:List UInt8) ≠ [69,88,65,67,84]/\([76,69,78]:List UInt8) ≠ [70,73,78,68]/\([76,69,78]:List UInt8) ≠ [83,69,65,82,67,72]/\([76,69,78]:List UInt8) ≠ [77,73,68]/\([76,69,78]:List UInt8) ≠ [83,85,66,83,84,73,84,85,84,69]/\([76,69,78]:List UInt8) ≠ [82,69,80,76,65,67,69]/\([76,69,78]:List UInt8) ≠ [67,79,78,67,65,84]:=by decide
theorem nes_CODE:([67,79,68,69]:List UInt8) ≠ [76,69,78]/\([67,79,68,69]:List UInt8) ≠ [85,80,80,69,82]/\([67,79,68,69]:List UInt8) ≠ [76,79,87,69,82]/\([67,79,68,69]:List UInt8) ≠ [80,82,79,80,69,82]/\([67,79,68,69]:List UInt8) ≠ [84,82,73,77]/\([67,79,68,69]:List UInt8) ≠ [86,65,76,85,69]/\([67,79,68,69]:List UInt8) ≠ [67,72,65,82]/\([67,79,68,69]:List UInt8) ≠ [84]/\([67,79,68,69]:List UInt8) ≠ [82,69,86,69,82,83,69]/\([67,79,68,69]:List UInt8) ≠ [76,69,70,84]/\([67,79,68,69]:List UInt8) ≠ [82,73,71,72,84]/\([67,79,68,69]:List UInt8) ≠ [70,73,88,69,68]/\([67,79,68,69]:List UInt8) ≠ [82,69,80,84]/\([67,79,68,69]:List UInt8) ≠ [69,88,65,67,84]/\([67,79,68,69]:List UInt8) ≠ [70,73,78,68]/\([67,79,68,69]:List UInt8) ≠ [83,69,65,82,67,72]/\([67,79,68,69]:List UInt8) ≠ [77,73,68]/\([67,79,68,69]:List UInt8) ≠ [83,85,66,83,84,73,84,85,84,69]/\([67,79,68,69]:List UInt8) ≠ [82,69,80,76,65,67,69]/\([67,79,68,69]:List UInt8) ≠ [67,79,78,67,65,84]:=by decide
theorem nes_PROPER:([80,82,79,80,69,82]:List UInt8) ≠ [76,69,78]/\([80,82,79,80,69,82]:List UInt8) ≠ [85,80,80,69,82]/\([80,82,79,80,69,82]:List UInt8) ≠ [76,79,87,69,82]/\([80,82,79,80,69,82]:List UInt8) ≠ [84,82,73,77]/\([80,82,79,80,69,82]:List UInt8) ≠ [86,65,76,85,69]/\([80,82,79,80,69,82]:List UInt8) ≠ [67,72,65,82]/\([80,82,79,80,69,82]:List UInt8) ≠ [67,79,68,69]/\([80,82,79,80,69,82]:List UInt8) ≠ [84]/\([80,82,79,80,69,82]:List UInt8) ≠ [82,69,86,69,82,83,69]/\([80,82,79,80,69,82]:List UInt8) ≠ [76,69,70,84]/\([80,82,79,80,69,82]:List UInt8) ≠ [82,73,71,72,84]/\([80,82,79,80,69,82]:List UInt8) ≠ [70,73,88,69,68]/\([80,82,79,80,69,82]:List UInt8) ≠ [82,69,80,84]/\([80,82,79,80,69,82]:List UInt8) ≠ [69,88,65,67,84]/\([80,82,79,80,69,82]:List UInt8) ≠ [70,73,78,68]/\([80,82,79,80,69,82]:List UInt8) ≠ [83,69,65,82,67,72]/\([80,82,79,80,69,82]:List UInt8) ≠ [77,73,68]/\([80,82,79,80,69,82]:List UInt8) ≠ [83,85,66,83,84,73,84,85,84,69]/\([80,82,79,80,69,82]:List UInt8) ≠ [82,69,80,76,65,67,69]/\([80,82,79,80,69,82]:List UInt8) ≠ [67,79,78,67,65,84]:=by decide
theorem nes_UPPER:([85,80,80,69,82]:List UInt8) ≠ [76,69,78]/\([85,80,80,69,82]:List UInt8) ≠ [76,79,87,69,82]/\([85,80,80,69,82]:List UInt8) ≠ [80,82,79,80,69,82]/\([85,80,80,69,82]:List UInt8) ≠ [84,82,73,77]/\([85,80,80,69,82]:List UInt8) ≠ [86,65,76,85,69]/\([85,80,80,69,82]:List UInt8) ≠ [67,72,65,82]/\([85,80,80,69,82]:List UInt8) ≠ [67,79,68,69]/\([85,80,80,69,82]:List UInt8) ≠ [84]/\([85,80,80,69,82]:List UInt8) ≠ [82,69,86,69,82,83,69]/\([85,80,80,69,82]:List UInt8) ≠ [76,69,70,84]/\([85,80,80,69,82]:List UInt8) ≠ [82,73,71,72,84]/\([85,80,80,69,82]:List UInt8) ≠ [70,73,88,69,68]/\([85,80,80,69,82]:List UInt8) ≠ [82,69,80,84]/\([85,80,80,69,82]:List UInt8) ≠ [69,88,65,67,84]/\([85,80,80,69,82]:List UInt8) ≠ [70,73,78,68]/\([85,80,80,69,82]:List UInt8) ≠ [83,69,65,82,67,72]/\([85,80,80,69,82]:List UInt8) ≠ [77,73,68]/\([85,80,80,69,82]:List UInt8) ≠ [83,85,66,83,84,73,84,85,84,69]/\([85,80,80,69,82]:List UInt8) ≠ [82,69,80,76,65,67,69]/\([85,80,80,69,82]:List UInt8) ≠ [67,79,78,67,65,84]:=by decide
theorem nes_LOWER:([76,79,87,69,82]:List UInt8) ≠ [76,69,78]/\([76,79,87,69,82]:List UInt8) ≠ [85,80,80,69,82]/\([76,79,87,69,82]:List UInt8) ≠ [80,82,79,80,69,82]/\([76,79,87,69,82]:List UInt8) ≠ [84,82,73,77]/\([76,79,87,69,82]:List UInt8) ≠ [86,65,76,85,69]/\([76,79,87,69,82]:List UInt8) ≠ [67,72,65,82]/\([76,79,87,69,82]:List UInt8) ≠ [67,79,68,69]/\([76,79,87,69,82]:List UInt8) ≠ [84]/\([76,79,87,69,82]:List UInt8) ≠ [82,69,86,69,82,83,69]/\([76,79,87,69,82]:List UInt8) ≠ [76,69,70,84]/\([76,79,87,69,82]:List UInt8) ≠ [82,73,71,72,84]/\([76,79,87,69,82]:List UInt8) ≠ [70,73,88,69,68]/\([76,79,87,69,82]:List UInt8) ≠ [82,69,80,84]/\([76,79,87,69,82]:List UInt8) ≠ [69,88,65,67,84]/\([76,79,87,69,82]:List UInt8) ≠ [70,73,78,68]/\([76,79,87,69,82]:List UInt8) ≠ [83,69,65,82,67,72]/\([76,79,87,69,82]:List UInt8) ≠ [77,73,68]/\([76,79,87,69,82]:List UInt8) ≠ [83,85,66,83,84,73,84,85,84,69]/\([76,79,87,69,82]:List UInt8) ≠ [82,69,80,76,65,67,69]/\([76,79,87,69,82]:List UInt8) ≠ [67,79,78,67,65,84]:=by decide
theorem nes_CHAR:([67,72,65,82]:List UInt8) ≠ [76,69,78]/\([67,72,65,82]:List UInt8) ≠ [85,80,80,69,82]/\([67,72,65,82]:List UInt8) ≠ [76,79,87,69,82]/\([67,72,65,82]:List UInt8) ≠ [80,82,79,80,69,82]/\([67,72,65,82]:List UInt8) ≠ [84,82,73,77]/\([67,72,65,82]:List UInt8) ≠ [86,65,76,85,69]/\([67,72,65,82]:List UInt8) ≠ [67,79,68,69]/\([67,72,65,82]:List UInt8) ≠ [84]/\([67,72,65,82]:List UInt8) ≠ [82,69,86,69,82,83,69]/\([67,72,65,82]:List UInt8) ≠ [76,69,70,84]/\([67,72,65,82]:List UInt8) ≠ [82,73,71,72,84]/\([67,72,65,82]:List UInt8) ≠ [70,73,88,69,68]/\([67,72,65,82]:List UInt8) ≠ [82,69,80,84]/\([67,72,65,82]:List UInt8) ≠ [69,88,65,67,84]/\([67,72,65,82]:List UInt8) ≠ [70,73,78,68]/\([67,72,65,82]:List UInt8) ≠ [83,69,65,82,67,72]/\([67,72,65,82]:List UInt8) ≠ [77,73,68]/\([67,72,65,82]:List UInt8) ≠ [83,85,66,83,84,73,84,85,84,69]/\([67,72,65,82]:List UInt8) ≠ [82,69,80,76,65,67,69]/\([67,72,65,82]:List UInt8) ≠ [67,79,78,67,65,84]:=by decide
theorem nes_LEFT:([76,69,70,84]:List UInt8) ≠ [76,69,78]/\([76,69,70,84]:List UInt8) ≠ [85,80,80,69,82]/\([76,69,70,84]:List UInt8) ≠ [76,79,87,69,82]/\([76,69,70,84]:List UInt8) ≠ [80,82,79,80,69,82]/\([76,69,70,84]:List UInt8) ≠ [84,82,73,77]/\([76,69,70,84]:List UInt8) ≠ [86,65,76,85,69]/\([76,69,70,84]:List UInt8) ≠ [67,72,65,82]/\([76,69,70,84]:List UInt8) ≠ [67,79,68,69]/\([76,69,70,84]:List UInt8) ≠ [84]/\([76,69,70,84]:List UInt8) ≠ [82,69,86,69,82,83,69]/\([76,69,70,84]:List UInt8) ≠ [82,73,71,72,84]/\([76,69,70,84]:List UInt8) ≠ [70,73,88,69,68]/\([76,69,70,84]:List UInt8) ≠ [82,69,80,84]/\([76,69,70,84]:List UInt8) ≠ [69,88,65,67,84]/\([76,69,70,84]:List UInt8) ≠ [70,73,78,68]/\([76,69,70,84]:List UInt8) ≠ [83,69,65,82,67,72]/\([76,69,70,84]:List UInt8) ≠ [77,73,68]/\([76,69,70,84]:List UInt8) ≠ [83,85,66,83,84,73,84,85,84,69]/\([76,69,70,84]:List UInt8) ≠ [82,69,80,76,65,67,69]/\([76,69,70,84]:List UInt8) ≠ [67,79,78,67,65,84]:=by decide
theorem nes_RIGHT:([82,73,71,72,84]:List UInt8) ≠ [76,69,78]/\([82,73,71,72,84]:List UInt8) ≠ [85,80,80,69,82]/\([82,73,71,72,84]:List UInt8) ≠ [76,79,87,69,82]/\([82,73,71,72,84]:List UInt8) ≠ [80,82,79,80,69,82]/\([82,73,71,72,84]:List UInt8) ≠ [84,82,73,77]/\([82,73,71,72,84]:List UInt8) ≠ [86,65,76,85,69]/\([82,73,71,72,84]:List UInt8) ≠ [67,72,65,82]/\([82,73,71,72,84]:List UInt8) ≠ [67,79,68,69]/\([82,73,71,72,84]:List UInt8) ≠ [84]/\([82,73,71,72,84]:List UInt8) ≠ [82,69,86,69,82,83,69]/\([82,73,71,72,84]:List UInt8) ≠ [76,69,70,84]/\([82,73,71,72,84]:List UInt8) ≠ [70,73,88,69,68]/\([82,73,71,72,84]:List UInt8) ≠ [82,69,80,84]/\([82,73,71,72,84]:List UInt8) ≠ [69,88,65,67,84]/\([82,73,71,72,84]:List UInt8) ≠ [70,73,78,68]/\([82,73,71,72,84]:List UInt8) ≠ [83,69,65,82,67,72]/\([82,73,71,72,84]:List UInt8) ≠ [77,73,68]/\([82,73,71,72,84]:List UInt8) ≠ [83,85,66,83,84,73,84,85,84,69]/\([82,73,71,72,84]:List UInt8) ≠ [82,69,80,76,65,67,69]/\([82,73,71,72,84]:List UInt8) ≠ [67,79,78,67,65,84]:=by decide
theorem nes_MID:([77,73,68]:List UInt8) ≠ [76,69,78]/\([77,73,68]:List UInt8) ≠ [85,80,80,69,82]/\([77,73,68]:List UInt8) ≠ [76,79,87,69,82]/\([77,73,68]:List UInt8) ≠ [80,82,79,80,69,82]/\([77,73,68]:List UInt8) ≠ [84,82,73,77]/\([77,73,68]:List UInt8) ≠ [86,65,76,85,69]/\([77,73,68]:List UInt8) ≠ [67,72,65,82]/\([77,73,68]:List UInt8) ≠ [67,79,68,69]/\([77,73,68]:List UInt8) ≠ [84]/\([77,73,68]:List UInt8) ≠ [82,69,86,69,82,83,69]/\([77,73,68]:List UInt8) ≠ [76,69,70,84]/\([77,73,68]:List UInt8) ≠ [82,73,71,72,84]/\([77,73,68]:List UInt8) ≠ [70,73,88,69,68]/\([77,73,68]:List UInt8) ≠ [82,69,80,84]/\([77,73,68]:List UInt8) ≠ [69,88,65,67,84]/\([77,73,68]:List UInt8) ≠ [70,73,78,68]/\([77,73,68]:List UInt8) ≠ [83,69,65,82,67,72]/\([77,73,68]:List UInt8) ≠ [83,85,66,83,84,73,84,85,84,69]/\([77,73,68]:List UInt8) ≠ [82,69,80,76,65,67,69]/\([77,73,68]:List UInt8) ≠ [67,79,78,67,65,84]:=by decide
theorem nes_REPLACE:([82,69,80,76,65,67,69]:List UInt8) ≠ [76,69,78]/\([82,69,80,76,65,67,69]:List UInt8) ≠ [85,80,80,69,82]/\([82,69,80,76,65,67,69]:List UInt8) ≠ [76,79,87,69,82]/\([82,69,80,76,65,67,69]:List UInt8) ≠ [80,82,79,80,69,82]/\([82,69,80,76,65,67,69]:List UInt8) ≠ [84,82,73,77]/\([82,69,80,76,65,67,69]:List UInt8) ≠ [86,65,76,85,69]/\([82,69,80,76,65,67,69]:List UInt8) ≠ [67,72,65,82]/\([82,69,80,76,65,67,69]:List UInt8) ≠ [67,79,68,69]/\([82,69,80,76,65,67,69]:List UInt8) ≠ [84]/\([82,69,80,76,65,67,69]:List UInt8) ≠ [82,69,86,69,82,83,69]/\([82,69,80,76,65,67,69]:List UInt8) ≠ [76,69,70,84]/\([82,69,80,76,65,67,69]:List UInt8) ≠ [82,73,71,72,84]/\([82,69,80,76,65,67,69]:List UInt8) ≠ [70,73,88,69,68]/\([82,69,80,76,65,67,69]:List UInt8) ≠ [82,69,80,84]/\([82,69,80,76,65,67,69]:List UInt8) ≠ [69,88,65,67,84]/\([82,69,80,76,65,67,69]:List UInt8) ≠ [70,73,78,68]/\([82,69,80,76,65,67,69]:List UInt8) ≠ [83,69,65,82,67,72]/\([82,69,80,76,65,67,69]:List UInt8) ≠ [77,73,68]/\([82,69,80,76,65,67,69]:List UInt8) ≠ [83,85,66,83,84,73,84,85,84,69]/\([82,69,80,76,65,67,69]:List UInt8) ≠ [67,79,78,67,65,84]:=by decide
theorem nes_REVERSE:([82,69,86,69,82,83,69]:List UInt8) ≠ [76,69,78]/\([82,69,86,69,82,83,69]:List UInt8) ≠ [85,80,80,69,82]/\([82,69,86,69,82,83,69]:List UInt8) ≠ [76,79,87,69,82]/\([82,69,86,69,82,83,69]:List UInt8) ≠ [80,82,79,80,69,82]/\([82,69,86,69,82,83,69]:List UInt8) ≠ [84,82,73,77]/\([82,69,86,69,82,83,69]:List UInt8) ≠ [86,65,76,85,69]/\([82,69,86,69,82,83,69]:List UInt8) ≠ [67,72,65,82]/\([82,69,86,69,82,83,69]:List UInt8) ≠ [67,79,68,69]/\([82,69,86,69,82,83,69]:List UInt8) ≠ [84]/\([82,69,86,69,82,83,69]:List UInt8) ≠ [76,69,70,84]/\([82,69,86,69,82,83,69]:List UInt8) ≠ [82,73,71,72,84]/\([82,69,86,69,82,83,69]:List UInt8) ≠ [70,73,88,69,68]/\([82,69,86,69,82,83,69]:List UInt8) ≠ [82,69,80,84]/\([82,69,86,69,82,83,69]:List UInt8) ≠ [69,88,65,67,84]/\([82,69,86,69,82,83,69]:List UInt8) ≠ [70,73,78,68]/\([82,69,86,69,82,83,69]:List UInt8) ≠ [83,69,65,82,67,72]/\([82,69,86,69,82,83,69]:List UInt8) ≠ [77,73,68]/\([82,69,86,69,82,83,69]:List UInt8) ≠ [83,85,66,83,84,73,84,85,84,69]/\([82,69,86,69,82,83,69]:List UInt8) ≠ [82,69,80,76,65,67,69]/\([82,69,86,69,82,83,69]:List UInt8) ≠ [67,79,78,67,65,84]:=by decide
theorem nes_FIND:([70,73,78,68]:List UInt8) ≠ [76,69,78]/\([70,73,78,68]:List UInt8) ≠ [85,80,80,69,82]/\([70,73,78,68]:List UInt8) ≠ [76,79,87,69,82]/\([70,73,78,68]:List UInt8) ≠ [80,82,79,80,69,82]/\([70,73,78,68]:List UInt8) ≠ [84,82,73,77]/\([70,73,78,68]:List UInt8) ≠ [86,65,76,85,69]/\([70,73,78,68]:List UInt8) ≠ [67,72,65,82]/\([70,73,78,68]:List UInt8) ≠ [67,79,68,69]/\([70,73,78,68]:List UInt8) ≠ [84]/\([70,73,78,68]:List UInt8) ≠ [82,69,86,69,82,83,69]/\([70,73,78,68]:List UInt8) ≠ [76,69,70,84]/\([70,73,78,68]:List UInt8) ≠ [82,73,71,72,84]/\([70,73,78,68]:List UInt8) ≠ [70,73,88,69,68]/\([70,73,78,68]:List UInt8) ≠ [82,69,80,84]/\([70,73,78,68]:List UInt8) ≠ [69,88,65,67,84]/\([70,73,78,68]:List UInt8) ≠ [83,69,65,82,67,72]/\([70,73,78,68]:List UInt8) ≠ [77,73,68]/\([70,73,78,68]:List UInt8) ≠ [83,85,66,83,84,73,84,85,84,69]/\([70,73,78,68]:List UInt8) ≠ [82,69,80,76,65,67,69]/\([70,73,78,68]:List UInt8) ≠ [67,79,78,67,65,84]:=by decide
theorem nes_TRIM:([84,82,73,77]:List UInt8) ≠ [76,69,78]/\([84,82,73,77]:List UInt8) ≠ [85,80,80,69,82]/\([84,82,73,77]:List UInt8) ≠ [76,79,87,69,82]/\([84,82,73,77]:List UInt8) ≠ [80,82,79,80,69,82]/\([84,82,73,77]:List UInt8) ≠ [86,65,76,85,69]/\([84,82,73,77]:List UInt8) ≠ [67,72,65,82]/\([84,82,73,77]:List UInt8) ≠ [67,79,68,69]/\([84,82,73,77]:List UInt8) ≠ [84]/\([84,82,73,77]:List UInt8) ≠ [82,69,86,69,82,83,69]/\([84,82,73,77]:List UInt8) ≠ [76,69,70,84]/\([84,82,73,77]:List UInt8) ≠ [82,73,71,72,84]/\([84,82,73,77]:List UInt8) ≠ [70,73,88,69,68]/\([84,82,73,77]:List UInt8) ≠ [82,69,80,84]/\([84,82,73,77]:List UInt8) ≠ [69,88,65,67,84]/\([84,82,73,77]:List UInt8) ≠ [70,73,78,68]/\([84,82,73,77]:List UInt8) ≠ [83,69,65,82,67,72]/\([84,82,73,77]:List UInt8) ≠ [77,73,68]/\([84,82,73,77]:List UInt8) ≠ [83,85,66,83,84,73,84,85,84,69]/\([84,82,73,77]:List UInt8) ≠ [82,69,80,76,65,67,69]/\([84,82,73,77]:List UInt8) ≠ [67,79,78,67,65,84]:=by decide
theorem xone_LEN (s:List UInt8) (hs:s.length<=200000):Pure Tryz.prog 62 [.str nLEN,.str s] (cntP (intP (pcs s).length)).av:=by
 intro σ
 have hl:=pcs_len s
 have h1:=xcount_ok s (by omega)
 have h2:=int_ok ((pcs s).length:Int) (by omega) (by omega)
 have h3:=counted_ok (intP ((pcs s).length:Int))
 generalize intP ((pcs s).length:Int)=o at *
 simp only [resAV] at h2
 generalize (cntP o).av=W at *
 unfold nLEN
 refine a62 (by simp) ?_
 simp (disch:=first|assumption|omega|(simp only [List.length_append,List.length_cons,List.length_nil];omega)) only [go_sem,nes_LEN]
 refine h1.use ?_
 simp (disch:=first|assumption|omega|(simp only [List.length_append,List.length_cons,List.length_nil];omega)) only [go_sem,nes_LEN]
 refine h2.use ?_
 simp (disch:=first|assumption|omega|(simp only [List.length_append,List.length_cons,List.length_nil];omega)) only [go_sem,nes_LEN]
 refine h3.use ?_
 simp (disch:=first|assumption|omega|(simp only [List.length_append,List.length_cons,List.length_nil];omega)) only [go_sem,nes_LEN]
 exact retC_by (.refl _) (.refl _) ⟨rfl,rfl⟩
theorem xone_CODE (s:List UInt8) (hs:s.length<=200000):Pure Tryz.prog 62 [.str nCODE,.str s] (codeV s).av:=by
 intro σ
 have h1:=xcode_ok s (by omega)
 generalize (codeV s).av=W at *
 unfold nCODE
 refine a62 (by simp) ?_
 simp (disch:=first|assumption|omega|(simp only [List.length_append,List.length_cons,List.length_nil];omega)) only [go_sem,nes_CODE]
 refine h1.use ?_
 simp (disch:=first|assumption|omega|(simp only [List.length_append,List.length_cons,List.length_nil];omega)) only [go_sem,nes_CODE]
 exact retC_by (.refl _) (.refl _) ⟨rfl,rfl⟩
theorem xone_PROPER (s:List UInt8) (hs:s.length<=200000):Pure Tryz.prog 62 [.str nPROPER,.str s] (PV.text (propP s)).av:=by
 intro σ
 have h1:=xproper_ok s hs
 simp only [PV.av]
 unfold nPROPER
 refine a62 (by simp) ?_
 simp (disch:=first|assumption|omega|(simp only [List.length_append,List.length_cons,List.length_nil];omega)) only [go_sem,nes_PROPER]
 refine h1.use ?_
 simp (disch:=first|assumption|omega|(simp only [List.length_append,List.length_cons,List.length_nil];omega)) only [go_sem,nes_PROPER]
 exact retC_by (.refl _) (.refl _) ⟨rfl,rfl⟩
theorem xone_UPPER (s:List UInt8) (hs:s.length<=200000):Pure Tryz.prog 62 [.str nUPPER,.str s] (PV.text (greatP s)).av:=by
 intro σ
 have h1:=vgreat_ok s (by omega)
 simp only [PV.av]
 unfold nUPPER
 refine a62 (by simp) ?_
 simp (disch:=first|assumption|omega|(simp only [List.length_append,List.length_cons,List.length_nil];omega)) only [go_sem,nes_UPPER]
 refine h1.use ?_
 simp (disch:=first|assumption|omega|(simp only [List.length_append,List.length_cons,List.length_nil];omega)) only [go_sem,nes_UPPER]
 exact retC_by (.refl _) (.refl _) ⟨rfl,rfl⟩
theorem xone_LOWER (s:List UInt8) (hs:s.length<=200000):Pure Tryz.prog 62 [.str nLOWER,.str s] (PV.text (smallP s)).av:=by
 intro σ
 have h1:=xlower_ok s (by omega)
 simp only [PV.av]
 unfold nLOWER
 refine a62 (by simp) ?_
 simp (disch:=first|assumption|omega|(simp only [List.length_append,List.length_cons,List.length_nil];omega)) only [go_sem,nes_LOWER]
 refine h1.use ?_
 simp (disch:=first|assumption|omega|(simp only [List.length_append,List.length_cons,List.length_nil];omega)) only [go_sem,nes_LOWER]
 exact retC_by (.refl _) (.refl _) ⟨rfl,rfl⟩
theorem rc_PROPER {τ:ASt} {b:Nat} (hT:Tab τ) (s:List UInt8) (hs:s.length<=200000) (hb:τ b=rdO [.text s] 0) :
  ACalls Tryz.prog 18 [.ptr b 0,.str nPROPER] τ fun v σ'=>v=(PV.text (propP s)).av/\σ'=τ.set b (rdO [.text s] 0):=by
 have h0:=xrtext_ok hT hb 0 rfl (v := .text s) trivial
 have h1:=xone_PROPER s hs
 rw [show ((0:Nat):Int)=0 from rfl] at h0
 simp only [asTextP,seen] at h0
 generalize (PV.text (propP s)).av=W at *
 unfold nPROPER at *
 refine a18 (by simp) ?_
 simp (disch:=first|assumption|omega|(simp only [List.length_append,List.length_cons,List.length_nil];omega)) only [go_sem,nes_PROPER]
 refine h0.mono ?_
 rintro v σ' ⟨rfl,rfl⟩
 simp (disch:=first|assumption|omega|(simp only [List.length_append,List.length_cons,List.length_nil];omega)) only [go_sem,nes_PROPER]
 refine h1.use ?_
 simp (disch:=first|assumption|omega|(simp only [List.length_append,List.length_cons,List.length_nil];omega)) only [go_sem,nes_PROPER]
 exact retC_by (.refl _) (.refl _) ⟨rfl,rfl⟩
theorem rc_RIGHT {τ:ASt} {b:Nat} (hT:Tab τ) (s:List UInt8) (v:PV) (hs:s.length<=200000) (hb:τ b=rdO [.text s,v] 0) (hg:v.good) (hsm:v.small) :
  ACalls Tryz.prog 18 [.ptr b 0,.str nRIGHT] τ fun r σ'=>r=(sidesP nRIGHT s (clampP (asIntV v).1)).av/\σ'=τ.set b (rdO [.text s,v] (seen 0 (asIntV v).2)):=by
 have h0:=xrtext_ok hT hb 0 rfl (v := .text s) trivial
 have h1:=xrint_ok (σ:=τ.set b (rdO [.text s,v] 0)) (ASt.set_same _ _ _) 1 1 rfl hg hsm
 have hc:clampP (asIntV v).1<=2000000:=by unfold clampP;omega
 have h2:=xsides_ok nRIGHT s (clampP (asIntV v).1) (by omega) (by omega)
 rw [show ((0:Nat):Int)=0 from rfl] at h0
 rw [show ((1:Nat):Int)=1 from rfl] at h1
 simp only [asTextP,seen] at h0
 generalize (sidesP nRIGHT s (clampP (asIntV v).1)).av=W at *
 unfold nRIGHT at *
 refine a18 (by simp) ?_
 simp (disch:=first|assumption|omega|(simp only [List.length_append,List.length_cons,List.length_nil];omega)) only [go_sem,nes_RIGHT]
 refine h0.mono ?_
 rintro r σ' ⟨rfl,rfl⟩
 simp (disch:=first|assumption|omega|(simp only [List.length_append,List.length_cons,List.length_nil];omega)) only [go_sem,nes_RIGHT]
 refine h1.mono ?_
 rintro r σ' ⟨rfl,rfl⟩
 simp (disch:=first|assumption|omega|(simp only [List.length_append,List.length_cons,List.length_nil];omega)) only [go_sem,nes_RIGHT]
 refine h2.use ?_
 simp (disch:=first|assumption|omega|(simp only [List.length_append,List.length_cons,List.length_nil];omega)) only [go_sem,ASt.set_set,nes_RIGHT]
 exact retC_by (.refl _) (.refl _) ⟨rfl,rfl⟩
def midP (s:List UInt8) (f n:Int):PV:=if f<1\/n<0 then .fail 3 else .text (partP s (f-1) n)
end Go.A
namespace Go.A
open Go.Proofs Go.Lib
theorem sgT_whole (s:List UInt8):∀ m,sgT s=some m->Whole s/\(pcs s).length=m:=by
 refine pcs_ind (Q:=fun s=>∀ m,sgT s=some m->Whole s/\(pcs s).length=m) ?_ ?_ s
 ·intro m h
  rw [sgT_nil] at h
  injection h with h
  exact ⟨whole_nil,h⟩
 ·intro r hr ih m h
  by_cases hv:decodeL r=(65533,1)
  ·rw [sgT_bad hr hv] at h;cases h
  ·rw [sgT_step hr hv] at h
   obtain ⟨k,hk,rfl⟩:=Option.map_eq_some_iff.1 h
   obtain ⟨h1,h2⟩:=ih k hk
   exact ⟨(whole_step hr).2 ⟨hv,h1⟩,by rw [pcs_step hr,List.length_cons,h2]⟩
theorem encU_cases {c:Nat} (hv:c<55296\/(57343<c/\c<=1114111)) :
  (c<128/\encU c = [UInt8.ofNat c])\/(128<=c/\c<2048/\encU c = [UInt8.ofNat (192+c / 64),UInt8.ofNat (128+c % 64)]) ∨
  (2048<=c/\c<65536/\encU c = [UInt8.ofNat (224+c / 4096),UInt8.ofNat (128+c / 64 % 64),UInt8.ofNat (128+c % 64)]) ∨
  (65536<=c/\c<=1114111/\encU c = [UInt8.ofNat (240+c / 262144),UInt8.ofNat (128+c / 4096 % 64),UInt8.ofNat (128+c / 64 % 64),UInt8.ofNat (128+c % 64)]):=by
 have hval:Utf8.valid (c:Int)=true:=by
  unfold Utf8.valid
  simp only [Bool.or_eq_true,Bool.and_eq_true,decide_eq_true_eq]
  omega
 unfold encU Utf8.encode
 rw [if_pos hval]
 simp only [Int.toNat_natCast]
 by_cases h1:c<128
 ·rw [if_pos h1];exact .inl ⟨h1,rfl⟩
 rw [if_neg h1]
 by_cases h2:c<2048
 ·rw [if_pos h2];exact .inr (.inl ⟨by omega,h2,rfl⟩)
 rw [if_neg h2]
 by_cases h3:c<65536
 ·rw [if_pos h3];exact .inr (.inr (.inl ⟨by omega,h3,rfl⟩))
 rw [if_neg h3]
 exact .inr (.inr (.inr ⟨by omega,by omega,rfl⟩))
theorem dec_enc {c:Nat} (hv:c<55296\/(57343<c/\c<=1114111)) (t:List UInt8):decodeL (encU c++t)=(c,(encU c).length):=by
 have u:∀ k,k<256->(UInt8.ofNat k).toNat=k:=fun k hk=>by have:=u8_nat hk;omega
 rw [decodeL_N]
 rcases encU_cases hv with ⟨h1,e⟩|⟨h1,h2,e⟩|⟨h1,h2,e⟩|⟨h1,h2,e⟩
 ·rw [e]
  simp only [List.cons_append,List.nil_append,List.length_cons,List.length_nil,List.getD_cons_zero]
  rw [u _ (by omega)]
  unfold decodeN
  rw [if_pos h1]
 ·rw [e]
  simp only [List.cons_append,List.nil_append,List.length_cons,List.length_nil,List.getD_cons_zero,List.getD_cons_succ]
  rw [u _ (by omega),u _ (by omega)]
  unfold decodeN
  rw [if_neg (by omega),if_pos (by omega),if_pos (by omega)]
  rw [Prod.mk.injEq];omega
 ·rw [e]
  simp only [List.cons_append,List.nil_append,List.length_cons,List.length_nil,List.getD_cons_zero,List.getD_cons_succ]
  rw [u _ (by omega),u _ (by omega),u _ (by omega)]
  unfold decodeN
  have q:(224+c / 4096) % 16*4096+(128+c / 64 % 64) % 64*64+(128+c % 64) % 64=c:=by omega
  rw [if_neg (by omega),if_neg (by omega),if_pos (by omega),q,if_pos (by omega)]
 ·rw [e]
  simp only [List.cons_append,List.nil_append,List.length_cons,List.length_nil,List.getD_cons_zero,List.getD_cons_succ]
  rw [u _ (by omega),u _ (by omega),u _ (by omega),u _ (by omega)]
  unfold decodeN
  have q:(240+c / 262144) % 8*262144+(128+c / 4096 % 64) % 64*4096+(128+c / 64 % 64) % 64*64+(128+c % 64) % 64=c:=by omega
  rw [if_neg (by omega),if_neg (by omega),if_neg (by omega),if_pos (by omega),q,if_pos (by omega)]
theorem enc_vp {c:Nat} (hv:c<55296\/(57343<c/\c<=1114111)):VP (encU c):=by
 have hd:=dec_enc hv []
 rw [List.append_nil] at hd
 have hl:=encU_len c
 refine ⟨fun e=>by rw [e] at hl;simp at hl,?_,by rw [hd]⟩
 rw [hd]
 intro e
 injection e with e1 e2
 rcases encU_cases hv with ⟨h1,e⟩|⟨h1,h2,e⟩|⟨h1,h2,e⟩|⟨h1,h2,e⟩
 ·omega
 ·omega
 ·rw [e] at e2;simp at e2
 ·omega
def noSign (n:Int):Prop:=n<1\/1114111<n\/(55296<=n/\n<=57343)
instance (n:Int):Decidable (noSign n):=by unfold noSign;infer_instance
theorem skip_zero (s:List UInt8):skipP s 0=0:=by simp [skipP]
theorem left_law {s:List UInt8} {n:Nat}:sidesP nLEFT s n = .text (s.take (skipP s n)):=by
 unfold sidesP partP
 rw [if_neg (by omega),if_pos (by rfl),skip_zero,List.drop_zero]
theorem mid_law {s:List UInt8} {n k:Nat}:midP s ((n:Int)+1) k = .text ((s.drop (skipP s n)).take (skipP (s.drop (skipP s n)) k)):=by
 unfold midP partP
 rw [if_neg (by omega),show (n:Int)+1-1=n by omega]
end Go.A
end
namespace Go.Proofs
open Go.RowKit Go.Shelf
attribute [local go_sem] Oper.semAt_some
def splitP:List UInt8->List (List UInt8)
 | [] => [[]]
 | c::l=>if c=32 then []::splitP l else match splitP l with
   | [] => [[c]]
   | h::t=>(c::h)::t
theorem splitP_ne:∀ l,splitP l ≠ []
 | []=>by simp [splitP]
 | c::l=>by
   rw [splitP]
   split
   ·simp
   ·split<;>simp
theorem splitP_one:∀ {l:List UInt8},(∀ b∈l,b≠32)->splitP l = [l]
 | [],_=>rfl
 | c::l,h=>by
   rw [splitP,if_neg (h c List.mem_cons_self),splitP_one fun b hb=>h b (List.mem_cons_of_mem _ hb)]
theorem splitP_app:∀ {a x:List UInt8},(∀ b∈a,b≠32)->splitP (a++32::x)=a::splitP x
 | [],x,_=>by rw [List.nil_append,splitP,if_pos rfl]
 | c::a,x,h=>by
   rw [List.cons_append,splitP,if_neg (h c List.mem_cons_self),splitP_app fun b hb=>h b (List.mem_cons_of_mem _ hb)]
theorem splitP_len:∀ l:List UInt8,(splitP l).length<=l.length+1
 | []=>by simp [splitP]
 | c::l=>by
   have:=splitP_len l
   rw [splitP]
   split
   ·simp;omega
   ·split
    ·simp
    ·rename_i h;rw [h] at this;simp at this ⊢;omega
def lenAt (W:World) (b:Nat):Nat:=match W.cell? ⟨b,0,none⟩ with
 | some (.string t)=>t.data.toList.length
 | _=>0
theorem lenAt_eq {W:World} {b:Nat} {r:List UInt8} (h:W.cell? ⟨b,0,none⟩=some (.string ⟨⟨r⟩⟩)):lenAt W b=r.length:=by unfold lenAt;rw [h]
theorem idx_some (c:UInt8):∀ (a x:List UInt8),(∀ b∈a,b≠c)->Lib.index (a++c::x) [c]=a.length:=by
 intro a x h
 rw [Lib.index_one]
 induction a with
 | nil=>simp [Lib.indexByte]
 | cons b a ih=>
   have h1:b≠c:=h b (by simp)
   have:=ih fun d hd=>h d (by simp [hd])
   rw [List.cons_append,Lib.indexByte,this]
   have h2:(b==c)=false:=by simpa using h1
   rw [h2]
   have h3:((a.length:Int) == -1)=false:=by rw [beq_eq_false_iff_ne];omega
   simp [h3]
theorem idx_none (c:UInt8):∀ (a:List UInt8),(∀ b∈a,b≠c)->Lib.index a [c] = -1:=by
 intro a h
 rw [Lib.index_one]
 induction a with
 | nil=>rfl
 | cons b a ih=>
   have h1:b≠c:=h b (by simp)
   have:=ih fun d hd=>h d (by simp [hd])
   rw [Lib.indexByte,this]
   have h2:(b==c)=false:=by simpa using h1
   simp [h2]
theorem first_blank (s:List UInt8):(∀ b∈s,b≠32)\/∃ a x,s=a++32::x/\∀ b∈a,b≠32:=by
 induction s with
 | nil=>exact .inl fun _ h=>by cases h
 | cons c l ih=>
   by_cases hc:c=32
   ·subst hc
    exact .inr ⟨[],l,rfl,fun _ h=>by cases h⟩
   ·rcases ih with h|⟨a,x,rfl,h⟩
    ·refine .inl fun b hb=>?_
     rcases List.mem_cons.1 hb with rfl|hb
     ·exact hc
     ·exact h b hb
    ·refine .inr ⟨c::a,x,rfl,fun b hb=>?_⟩
     rcases List.mem_cons.1 hb with rfl|hb
     ·exact hc
     ·exact h b hb
theorem cut_head (a x:List UInt8):(⟨⟨a++32::x⟩⟩:ByteArray).extract 0 a.length=⟨⟨a⟩⟩:=by
 apply ByteArray.ext
 simp
theorem cut_tail (a x:List UInt8) (n:Nat) (h:n=a.length+1+x.length):(⟨⟨a++32::x⟩⟩:ByteArray).extract (a.length+1) n=⟨⟨x⟩⟩:=by
 apply ByteArray.ext
 rw [ByteArray.data_extract]
 apply Array.toList_inj.1
 rw [Array.toList_extract]
 show (a++32::x).extract (a.length+1) n=x
 rw [List.extract_eq_take_drop,List.drop_append,List.drop_of_length_le (by omega),List.nil_append,show a.length+1-a.length=1 by omega,List.drop_succ_cons,List.drop_zero,List.take_of_length_le (by omega)]
set_option maxHeartbeats 2000000 in
theorem split_in (n:Nat) (hn:1<=n) (l bs be bv:Nat) (m:Int) (J:List (List UInt8)->List UInt8->World->Prop)
  (hJc:∀ pre r W,J pre r W->W.cell? ⟨bs,0,none⟩=some (.string ⟨⟨r⟩⟩)/\W.frozen? ⟨bs,0,none⟩=false/\W.cell? ⟨be,0,none⟩=some (.string ⟨⟨[32]⟩⟩)/\W.cell? ⟨bv,0,none⟩=some (.int .i64 0)/\W.cell? ⟨0,0,none⟩=some (.int .i64 m))
  (hJs:∀ pre r r' W,J pre r W->J pre r' (W.setCell ⟨bs,0,none⟩ (.string ⟨⟨r'⟩⟩)))
  (s:List UInt8) (hs:s.length<=1000000)
  (hY:∀ pre x r W,J pre r W->pre.length<=s.length->x.length<=1000000->YieldAt Fence.wide (n-1) Tryz.prog l #[.string ⟨⟨x⟩⟩] W fun e W'=>e = .returned (.bool true)/\J (pre ++ [x]) r W')
  (W:World) (h0:J [] s W) :
  CallsIn Fence.wide n Tryz.prog 153 #[.func (.yield l) #[] #[],.pointer (some ⟨be,0,none⟩),.pointer (some ⟨bs,0,none⟩),.pointer (some ⟨bv,0,none⟩)] W fun e W'=>(∃ v,e = .returned v)/\∃ r,J (splitP s) r W':=by
 refine callsIn_of_wp Tryz.func153 rfl trivial ?_ rfl
 simp only [Tryz.ntmps153,List.size_toArray,List.length_cons,List.length_nil,Nat.reduceAdd,Nat.reduceSub,Array.replicate_succ,Array.replicate_zero,List.push_toArray,List.append_toArray,List.nil_append,List.cons_append]
 obtain ⟨c1,c2,c3,c4,c5⟩:=hJc _ _ _ h0
 gi_wp2
 gi_loopw [7] (fun _ wr=>∃ (pre:List (List UInt8)) (r:List UInt8),J pre r wr/\splitP s=pre++splitP r/\r.length+pre.length<=s.length)
  (fun _ wr=>lenAt wr bs)
 case atStart=>
  exact ⟨[],s,h0,rfl,by simp⟩
 case round=>
  obtain ⟨pre,r,hJ,hsp,hlen⟩:=hrel
  obtain ⟨c1,c2,c3,c4,c5⟩:=hJc _ _ _ hJ
  have hi:=(Tryz.strings_Index ⟨⟨r⟩⟩ ⟨⟨[32]⟩⟩ m wr (by simp [ByteArray.size];omega) c5)
  rcases first_blank r with hno|⟨a,x,rfl,ha⟩
  ·have ix:Lib.index r [32] = -1:=idx_none 32 r hno
   simp only [ix] at hi
   obtain ⟨fn,tmps,assign,body,hy,hR⟩:=hY pre r r wr hJ (by omega) (by omega)
   gi_wp2_with (refine ⟨trivial,?_⟩;gi_at_call 85;refine (callsIn_wide.2 hi).mono ?_;rintro e w' ⟨rfl,rfl⟩)
   refine hR.mono ?_
   rintro e W' ⟨rfl,hJ'⟩
   gi_wp2
   go_end0
   refine ⟨⟨_,rfl⟩,r,?_⟩
   rw [hsp,splitP_one hno]
   exact hJ'
  ·have ix:Lib.index (a++32::x) [32]=a.length:=idx_some 32 a x ha
   simp only [ix] at hi
   simp only [List.length_append,List.length_cons] at hlen
   obtain ⟨fn,tmps,assign,body,hy,hR⟩:=hY pre a (a++32::x) wr hJ (by omega) (by omega)
   have ex:(⟨⟨a++32::x⟩⟩:ByteArray).extract 0 a.length=⟨⟨a⟩⟩:=cut_head a x
   have i1:¬ ((a.length:Int)<0):=by omega
   gi_wp2_with (refine ⟨trivial,?_⟩;gi_at_call 85;refine (callsIn_wide.2 hi).mono ?_;rintro e w' ⟨rfl,rfl⟩)
   refine hR.mono ?_
   rintro e W' ⟨rfl,hJ'⟩
   obtain ⟨d1,d2,d3,d4,d5⟩:=hJc _ _ _ hJ'
   gi_wp2
   have et:=cut_tail a x (a.length+(x.length+1)) (by omega)
   rw [et]
   have hJ2:=hJs _ _ x _ hJ'
   refine ⟨⟨pre ++ [a],x,hJ2,by rw [hsp,splitP_app ha];simp,by simp;omega⟩,?_⟩
   rw [lenAt_eq (hJc _ _ _ hJ2).1,lenAt_eq c1]
   simp
   omega
end Go.Proofs
namespace Go.Proofs
open Go.RowKit Go.Shelf
attribute [local go_sem] Oper.semAt_some
set_option maxHeartbeats 1000000 in
theorem splitA_in (n:Nat) (s sep:ByteArray) (w:World) :
  CallsIn Fence.wide n Tryz.prog 142 #[.string s,.string sep,.int .i64 0] w fun e w'=>e = .returned (.func (.func 153) #[] #[.pointer (some ⟨w.heap.size+1,0,none⟩),.pointer (some ⟨w.heap.size,0,none⟩),.pointer (some ⟨w.heap.size+2,0,none⟩)])/\w'=((w.alloc (.cells #[.string s] 9)).alloc (.cells #[.string sep] 9)).alloc (.cells #[.int .i64 0] 3):=by
 refine callsIn_of_wp Tryz.func142 rfl trivial ?_ rfl
 simp only [Tryz.ntmps142,List.size_toArray,List.length_cons,List.length_nil,Nat.reduceAdd,Nat.reduceSub,Array.replicate_succ,Array.replicate_zero,List.push_toArray,List.append_toArray,List.nil_append,List.cons_append]
 gi_wp2
 go_ret
 exact ⟨rfl,rfl⟩
set_option maxHeartbeats 1000000 in
theorem splitSeq_in (n:Nat) (s sep:ByteArray) (w:World) :
  CallsIn Fence.wide n Tryz.prog 120 #[.string s,.string sep] w fun e w'=>e = .returned (.func (.func 153) #[] #[.pointer (some ⟨w.heap.size+1,0,none⟩),.pointer (some ⟨w.heap.size,0,none⟩),.pointer (some ⟨w.heap.size+2,0,none⟩)])/\w'=((w.alloc (.cells #[.string s] 9)).alloc (.cells #[.string sep] 9)).alloc (.cells #[.int .i64 0] 3):=by
 refine callsIn_of_wp Tryz.func120 rfl trivial ?_ rfl
 simp only [Tryz.ntmps120,List.size_toArray,List.length_cons,List.length_nil,Nat.reduceAdd,Nat.reduceSub,Array.replicate_succ,Array.replicate_zero,List.push_toArray,List.append_toArray,List.nil_append,List.cons_append]
 gi_wp2_with (refine ⟨trivial,fun h=>absurd h (by simp [Fence.wide]),?_⟩;gi_at_call 142;refine (splitA_in _ s sep w).mono ?_;rintro e w' ⟨rfl,rfl⟩)
 go_ret
 exact ⟨rfl,rfl⟩
theorem row_ne {W:World} {B:Nat} {e:TypeId} {size k b:Nat} {v:Value} {xs:List Value} (hr:W.ownsRow B e size v k xs) (hb:b<B):some b≠v.ownBlock:=by
 rcases hr.2 with ⟨rfl,_⟩|⟨g,cap,cur,rfl,h1,hgb,_⟩
 ·simp [Value.ownBlock]
 ·intro e'
  obtain rfl:b=g:=by simpa [Value.ownBlock] using e'
  omega
theorem info_str:(Tryz.prog.info? 9).map (fun i=>(i.zero,i.size,i.bytes))=some (some (.string ⟨#[]⟩),1,16):=by kernel_rfl
def keptP (l:List (List UInt8)):List (List UInt8):=l.filter fun x=>decide (x ≠ [])
def vsP (l:List (List UInt8)):List Value:=l.map fun x=>Value.string ⟨⟨x⟩⟩
structure TrimI (w:World) (pre:List (List UInt8)) (r:List UInt8) (v:Value) (W:World):Prop where
 b0:Boxed W w.heap.size 71 v
 row:W.ownsRow (w.heap.size+6) 9 1 v (keptP pre).length (vsP (keptP pre))
 b1:Boxed W (w.heap.size+1) 9 (.string ⟨⟨r⟩⟩)
 b2:Boxed W (w.heap.size+1+1) 9 (.string ⟨⟨[32]⟩⟩)
 b3:Boxed W (w.heap.size+1+2) 3 (.int .i64 0)
 below:Below w.heap.size w W
 size:w.heap.size+6<=W.heap.size
theorem TrimI.set {w:World} {pre:List (List UInt8)} {r:List UInt8} {v:Value} {W:World} (h:TrimI w pre r v W) (r':List UInt8):TrimI w pre r' v (W.setCell ⟨w.heap.size+1,0,none⟩ (.string ⟨⟨r'⟩⟩)):=by
 have hg:=grownBy_setCell' W (w.heap.size+1) (.string ⟨⟨r'⟩⟩)
 refine ⟨h.b0.kept hg (by simp),h.row.kept hg (.inr (row_ne h.row (by omega)).symm),h.b1.set _,h.b2.kept hg (by simp),h.b3.kept hg (by simp),h.below.setCell (p:=⟨w.heap.size+1,0,none⟩) (by simp) _,?_⟩
 have:=hg.size
 have:=h.size
 omega
theorem TrimI.put {w:World} {pre:List (List UInt8)} {r:List UInt8} {v:Value} {W:World} (h:TrimI w pre r v W) {l:Nat} {o:Obj} (o':Obj) (hl:W.heap[l]? = some o) (ho:o.isCells=false) (h1:w.heap.size+4<=l):TrimI w pre r v (W.putObj l o'):=by
 have hg:=grownBy_putObj' W l o'
 refine ⟨h.b0.kept hg (by simp;omega),ownsRow_putObj h.row o' hl ho,h.b1.kept hg (by simp;omega),h.b2.kept hg (by simp;omega),h.b3.kept hg (by simp;omega),h.below.grown hg (by have:=h.size;omega) (fun k e=>by cases e;omega),?_⟩
 have:=hg.size
 have:=h.size
 omega
theorem keptP_hit (pre:List (List UInt8)) {x:List UInt8} (h:x ≠ []):keptP (pre ++ [x])=keptP pre ++ [x]:=by simp [keptP,h]
theorem keptP_miss (pre:List (List UInt8)) {x:List UInt8} (h:x = []):keptP (pre ++ [x])=keptP pre:=by simp [keptP,h]
theorem keptP_len (pre:List (List UInt8)):(keptP pre).length<=pre.length:=List.length_filter_le _ _
theorem TrimI.app {w:World} {pre:List (List UInt8)} {r x:List UInt8} {v v':Value} {W w1:World} {tmp:Obj} (h:TrimI w pre r v W) (hx:x ≠ [])
  (hown:w1.ownsRow (w.heap.size+6) 9 1 v' ((keptP pre).length+1) (vsP (keptP pre) ++ [Value.string ⟨⟨x⟩⟩])) (hg:(W.alloc tmp).grownBy w1 v.ownBlock) :
  Boxed w1 w.heap.size 71 v/\TrimI w (pre ++ [x]) r v' (w1.setCell ⟨w.heap.size,0,none⟩ v')/\∀ b,w.heap.size<b->b<w.heap.size+6->(w1.setCell ⟨w.heap.size,0,none⟩ v').heap[b]? = W.heap[b]? := by
 have hk:=grownBy_setCell' w1 w.heap.size v'
 have a0:Boxed w1 w.heap.size 71 v:=(h.b0.alloc tmp).kept hg (row_ne h.row (by omega))
 refine ⟨a0,⟨a0.set v',?_,((h.b1.alloc tmp).kept hg (row_ne h.row (by omega))).kept hk (by simp),((h.b2.alloc tmp).kept hg (row_ne h.row (by omega))).kept hk (fun e=>by injection e;omega),((h.b3.alloc tmp).kept hg (row_ne h.row (by omega))).kept hk (fun e=>by injection e;omega),?_,?_⟩,fun b h1 h2=>?_⟩
 ·rw [keptP_hit pre hx]
  simp only [vsP,List.map_append,List.map_cons,List.map_nil,List.length_append,List.length_cons,List.length_nil]
  exact hown.kept hk (.inr (row_ne hown (by omega)).symm)
 ·refine ((h.below.alloc (by have:=h.size;omega) tmp).grown hg (by have:=h.size;simp;omega) fun j e=>?_).setCell (p:=⟨w.heap.size,0,none⟩) (Nat.le_refl _) v'
  refine Nat.le_of_not_lt fun hj=>?_
  exact row_ne h.row (b:=j) (by omega) e.symm
 ·have h1:=hg.size
  have h2:=hk.size
  have h3:=h.size
  simp at h1
  omega
 ·have h3:=h.size
  refine (Below.heap_setCell _ _ _ _ (by simp;omega)).trans ((hg.block b (by simp;omega) (row_ne h.row h2)).trans (Below.heap_alloc _ _ _ (by omega)))
theorem range_own {P:Program} {n:Nat} {g:Operand} {ps:Array Tmp} {assign body:Code} {Q:Exit->Act->World->Prop} {a:Act} {w1:World} (h1:1<=n) {gf:Nat} {lb:Array Value}
  (hg:a.eval g = .func (.func gf) #[] lb) (eg:∀ args W,(callFunc gf args).run P W = .ok (.enter gf args) W) (S:World->Prop)
  (hit:∀ (fn:FuncId) (rec:LoopState->Option Code->Loop),(rec=fun st pe => { state:=st,pending:=pe,fn,tmps:=a.tmps,params:=ps,assign,body,defers:=w1.heap.size }) →
   CallsIn Fence.wide (n-1) P gf (#[.func (.yield (w1.heap.size+1)) #[] #[]]++lb) ((w1.alloc (.deferred (some []))).alloc (.loop (rec .ready none))) fun e W=>(∃ v,e = .returned v)/\S W/\W.heap[w1.heap.size+1]? = some (.loop (rec .ready none)))
  (hdone:∀ (W:World) (o o':Obj),S W->W.heap[w1.heap.size+1]? = some o->o.isCells=false->Q .normal { a with defers := { target := .collected w1.heap.size,args := #[] }::a.defers } (W.putObj (w1.heap.size+1) o')) :
  (Code.rangeFunc g ps assign body).wpIn Fence.wide n P Q a w1:=by
 refine wpIn_rangeFunc ?_
 intro fn hfn
 obtain ⟨rec,hrec⟩:∃ rec:LoopState->Option Code->Loop,rec=fun st pe => { state:=st,pending:=pe,fn,tmps:=a.tmps,params:=ps,assign,body,defers:=w1.heap.size }:=⟨_,rfl⟩
 refine ⟨w1.heap.size+1,[{ target := .collected w1.heap.size,args := #[] }],(w1.alloc (.deferred (some []))).alloc (.loop (rec .ready none)),{ target := .fn (.func gf) lb,args := #[.func (.yield (w1.heap.size+1)) #[] #[]] },(w1.alloc (.deferred (some []))).alloc (.loop (rec .ready none)),gf,
  #[.func (.yield (w1.heap.size+1)) #[] #[]]++lb,(w1.alloc (.deferred (some []))).alloc (.loop (rec .ready none)),?_,?_,?_,?_,fun _=>h1,?_⟩
 ·rw [hrec];exact run_enterLoop_outer _ _ _ _ _
 ·simp only [resolve,hg]
  simp [go_sem]
 ·intro f' _;trivial
 ·simp [invoke,go_sem,eg]
 ·refine (hit fn rec hrec).mono ?_
  rintro e W ⟨⟨v,rfl⟩,hS,hl⟩
  exact ⟨none,_,by have:=run_endLoop (P:=P) hl (by rw [hrec];simp);rw [hrec] at this;exact this,hdone W _ _ hS hl rfl⟩
theorem lens_kept (l:List (List UInt8)):Lib.lens (keptP l)<=Lib.lens l:=by
 induction l with
 | nil=>exact Nat.le_refl _
 | cons x l ih=>
   unfold keptP at ih ⊢
   rw [List.filter_cons]
   split
   ·simp [Lib.lens] at ih ⊢;omega
   ·simp [Lib.lens] at ih ⊢;omega
theorem splitP_lens:∀ s:List UInt8,Lib.lens (splitP s)<=s.length
 | []=>by simp [splitP,Lib.lens]
 | c::l=>by
   have:=splitP_lens l
   rw [splitP]
   split
   ·simp [Lib.lens] at this ⊢;omega
   ·split
    ·simp [Lib.lens]
    ·rename_i h;rw [h] at this;simp [Lib.lens] at this ⊢;omega
theorem kept_join (s:List UInt8):(Lib.join (keptP (splitP s)) [32]).length<=2*s.length+1:=by
 have h1:=lens_kept (splitP s)
 have h2:=splitP_lens s
 have h3:=keptP_len (splitP s)
 have h4:=splitP_len s
 generalize keptP (splitP s)=K at *
 cases K with
 | nil=>simp [Lib.join_nil]
 | cons x K=>
   rw [Lib.join_length]
   simp only [List.length_cons,List.length_nil] at h3 ⊢
   omega
theorem join_row {W:World} {B:Nat} {v:Value} (K:List (List UInt8)) (hr:W.ownsRow B 9 1 v K.length (vsP K)) (hK:K.length<=140737488355328) (hl:(Lib.join K [32]).length<=140737488355328) :
  Calls Tryz.prog 121 #[v,.string ⟨#[32]⟩] W fun e w'=>e = .returned (.string ⟨(Lib.join K [32]).toArray⟩)/\Below W.heap.size W w':=by
 have hcl:=fun g (hg:v.ownBlock=some g)=>hr.cells hg
 have hlt:=hr.lt
 rcases hr.2 with ⟨rfl,h0⟩|⟨g,cap,cur,rfl,h1,hgb,h2,_⟩
 ·obtain rfl:K = []:=List.eq_nil_of_length_eq_zero h0
  refine (Tryz.strings_Join_none none 0 ⟨#[32]⟩ W).mono ?_
  rintro e w' ⟨rfl,rfl⟩
  exact ⟨rfl,Below.refl _ _⟩
 ·have e1:((K.map fun x=>(⟨⟨x⟩⟩:ByteArray)).map fun b=>b.data.toList)=K:=by
   rw [List.map_map]
   exact List.map_id'' (fun _=>rfl) K
  have hJ:=Tryz.strings_Join g 0 cap (K.map fun x=>(⟨⟨x⟩⟩:ByteArray)) ⟨#[32]⟩ W (fun j x hx=>?_) (hlt g rfl).2 (by rw [List.length_map];exact hK) (by rw [List.length_map];exact h2) (by rw [e1];exact hl)
  ·rw [e1,List.length_map] at hJ
   exact hJ
  ·rw [List.getElem?_map] at hx
   obtain ⟨y,hy,rfl⟩:=Option.map_eq_some_iff.1 hx
   have:=hcl g rfl j (.string ⟨⟨y⟩⟩) (by unfold vsP;rw [List.getElem?_map,hy];rfl)
   rw [Nat.zero_add]
   by_cases hj:j=0
   ·subst hj;simpa [Addr.add] using this
   ·simpa [Addr.add,hj] using this
set_option maxHeartbeats 2000000 in
theorem trim_world (s:List UInt8) (hs:s.length<=1000000) (w:World) (m:Int) (hm:w.cell? ⟨0,0,none⟩=some (.int .i64 m)) :
  Calls Tryz.prog 94 #[.string ⟨⟨s⟩⟩] w fun e w'=>e = .returned (.string ⟨(Lib.join (keptP (splitP s)) [32]).toArray⟩)/\Below w.heap.size w w':=by
 obtain ⟨i0,hi,hz0,hz1,hz2⟩:=info_parts info_str
 refine (callsIn_wide (n:=5)).1 ?_
 refine callsIn_of_wp_marks Tryz.func94 rfl trivial ?_ rfl
 simp only [Tryz.ntmps94,List.size_toArray,List.length_cons,List.length_nil,Nat.reduceAdd,Nat.reduceSub,Array.replicate_succ,Array.replicate_zero,List.push_toArray,List.append_toArray,List.nil_append,List.cons_append]
 gi_wp2_with (refine ⟨trivial,?_⟩;gi_at_call 120;refine (splitSeq_in _ _ _ _).mono ?_;rintro e w' ⟨rfl,rfl⟩)
 have B0:=Boxed.new w 71 (.slice none 0 0)
 obtain ⟨wa,hwa⟩:∃ wa,w.alloc (.cells #[.slice none 0 0] 71)=wa:=⟨_,rfl⟩
 have sa:wa.heap.size=w.heap.size+1:=by rw [<-hwa];simp
 have la:Below w.heap.size w wa:=hwa▸(Below.refl _ w).alloc (Nat.le_refl _) _
 rw [hwa] at B0 ⊢
 have B1:=Boxed.new wa 9 (.string ⟨⟨s⟩⟩)
 obtain ⟨wb,hwb⟩:∃ wb,wa.alloc (.cells #[.string ⟨⟨s⟩⟩] 9)=wb:=⟨_,rfl⟩
 have sb:wb.heap.size=w.heap.size+2:=by rw [<-hwb];simp;omega
 have lb:=la.alloc (by omega) (.cells #[.string ⟨⟨s⟩⟩] 9)
 have B0:=B0.alloc (.cells #[.string ⟨⟨s⟩⟩] 9)
 rw [hwb] at B0 B1 lb ⊢
 have B2:=Boxed.new wb 9 (.string ⟨⟨[32]⟩⟩)
 obtain ⟨wc,hwc⟩:∃ wc,wb.alloc (.cells #[.string ⟨⟨[32]⟩⟩] 9)=wc:=⟨_,rfl⟩
 have sc:wc.heap.size=w.heap.size+3:=by rw [<-hwc];simp;omega
 have lc:=lb.alloc (by omega) (.cells #[.string ⟨⟨[32]⟩⟩] 9)
 have B0:=B0.alloc (.cells #[.string ⟨⟨[32]⟩⟩] 9)
 have B1:=B1.alloc (.cells #[.string ⟨⟨[32]⟩⟩] 9)
 rw [hwc] at B0 B1 B2 lc
 have ewc:wb.alloc (.cells #[.string { data := #[32] }] 9)=wc:=hwc
 rw [ewc]
 have B3:=Boxed.new wc 3 (.int .i64 0)
 obtain ⟨wd,hwd⟩:∃ wd,wc.alloc (.cells #[.int .i64 0] 3)=wd:=⟨_,rfl⟩
 have sd:wd.heap.size=w.heap.size+4:=by rw [<-hwd];simp;omega
 have ld:=lc.alloc (by omega) (.cells #[.int .i64 0] 3)
 have B0:=B0.alloc (.cells #[.int .i64 0] 3)
 have B1:=B1.alloc (.cells #[.int .i64 0] 3)
 have B2:=B2.alloc (.cells #[.int .i64 0] 3)
 rw [hwd] at B0 B1 B2 B3 ld ⊢
 rw [sa] at B1
 rw [sb] at B2
 rw [sc] at B3
 have eg:∀ args W,(callFunc 153 args).run Tryz.prog W = .ok (.enter 153 args) W:=enters_of Tryz.func153 (by kernel_rfl) rfl
 refine range_own (by omega) (gf:=153) (lb := #[.pointer (some ⟨w.heap.size+1+1,0,none⟩),.pointer (some ⟨w.heap.size+1,0,none⟩),.pointer (some ⟨w.heap.size+1+2,0,none⟩)]) rfl eg
  (fun W=>∃ r v,TrimI w (splitP s) r v W/\W.heap[w.heap.size+4]? = some (.deferred (some []))) ?hit ?done
 case hit=>
  intro fn rec hrec
  obtain ⟨we,hwe⟩:∃ we,(wd.alloc (.deferred (some []))).alloc (.loop (rec .ready none))=we:=⟨_,rfl⟩
  rw [hwe,sd]
  have hml:0<w.heap.size:=by
   obtain ⟨o,ho,_⟩:=cells_of_cell hm
   exact (Array.getElem?_eq_some_iff.1 ho).1
  refine (split_in 4 (by omega) (w.heap.size+4+1) (w.heap.size+1) (w.heap.size+1+1) (w.heap.size+1+2) m
   (fun pre r W=>∃ v,TrimI w pre r v W/\W.heap[w.heap.size+4]? = some (.deferred (some []))/\W.heap[w.heap.size+4+1]? = some (.loop (rec .ready none))) ?_ ?_ s hs ?_ we ?_).mono ?_
  ·rintro pre r W ⟨v,h,hD,hL⟩
   exact ⟨h.b1.cell,h.b1.frozen,h.b2.cell,h.b3.cell,(h.below.cell (p:=⟨0,0,none⟩) hml).trans hm⟩
  ·rintro pre r r' W ⟨v,h,hD,hL⟩
   exact ⟨v,h.set r',(Below.heap_setCell _ _ _ _ (by simp)).trans hD,(Below.heap_setCell _ _ _ _ (by simp)).trans hL⟩
  ·rintro pre x r W ⟨v,h,hD,hL⟩ hpl hxl
   have hy:=run_yield (P:=Tryz.prog) (args := #[.string ⟨⟨x⟩⟩]) hL (by rw [hrec];rfl)
   rw [hrec] at hy
   obtain ⟨R,hRe⟩:∃ R:Ending->World->Prop,Hid (R=fun e W'=>e = .returned (.bool true)/\∃ v,TrimI w (pre ++ [x]) r v W'/\W'.heap[w.heap.size+4]? = some (.deferred (some []))/\W'.heap[w.heap.size+4+1]? = some (.loop (rec .ready none))):=⟨_,rfl⟩
   refine YieldAt.mono (R:=R) ?_ (fun e W' hr=>by rw [hRe.out] at hr;exact hr)
   have hrd:(rec .ready none).state = .ready:=by rw [hrec]
   have hre:rec .ready none = { { rec .ready none with state := .busy } with state:=if (none:Option Code).isNone then .ready else .done,pending:=none }:=by rw [hrec];rfl
   have HR:Hid (rec=fun st pe=>_):=hrec
   clear hrec
   refine ⟨fn,_,_,_,hy,roundIn_of_wpIn trivial ?_⟩
   clear hy
   have HR2:Hid (rec .ready none = { { rec .ready none with state := .busy } with state:=if (none:Option Code).isNone then .ready else .done,pending:=none }):=hre
   clear hre
   gi_wp2
   refine ⟨_,run_beginRound hL hrd,?_⟩
   have h2:=h.put (.loop { rec .ready none with state := .busy }) hL rfl (by omega)
   have hD2:(W.putObj (w.heap.size+4+1) (.loop { rec .ready none with state := .busy })).heap[w.heap.size+4]? = some (.deferred (some [])):=(World.putObj_heap_other (by omega)).trans hD
   have hL2:(W.putObj (w.heap.size+4+1) (.loop { rec .ready none with state := .busy })).heap[w.heap.size+4+1]? = some (.loop { rec .ready none with state := .busy }):=World.putObj_heap_same (by have:=h.size;omega)
   obtain ⟨W2,hW2⟩:∃ W2,W.putObj (w.heap.size+4+1) (.loop { rec .ready none with state := .busy })=W2:=⟨_,rfl⟩
   rw [hW2] at h2 hD2 hL2 ⊢
   have fin:∀ (v':Value) (W3:World),TrimI w (pre ++ [x]) r v' W3->W3.heap[w.heap.size+4]? = some (.deferred (some []))->W3.heap[w.heap.size+4+1]? = some (.loop { rec .ready none with state := .busy }) →
     ∃ u W4,(Instr.endRound (w.heap.size+4+1) none).run Tryz.prog W3 = .ok u W4/\R (.returned u) W4:=by
    intro v' W3 h3 hD3 hL3
    have he:=run_endRound (P:=Tryz.prog) none hL3
    refine ⟨_,_,he,?_⟩
    rw [hRe.out]
    refine ⟨rfl,v',h3.put _ hL3 rfl (by omega),(World.putObj_heap_other (by omega)).trans hD3,?_⟩
    rw [World.putObj_heap_same (by have:=h3.size;omega),← HR2.out]
   have c0:=h2.b0.cell
   have f0:=h2.b0.frozen
   by_cases hx:x = []
   ·subst hx
    have h4:TrimI w (pre ++ [[]]) r v W2:=⟨h2.b0,by rw [keptP_miss pre rfl];exact h2.row,h2.b1,h2.b2,h2.b3,h2.below,h2.size⟩
    have FIN:Hid _:=fin v W2 h4 hD2 hL2
    clear fin
    gi_wp2
    exact FIN.out
   ·have FIN:Hid _:=fin
    clear fin
    have hkl:=keptP_len pre
    have hmx:(keptP pre).length+1<=maxLen:=by unfold maxLen;omega
    gi_wp2_with (gi_at_builtin;refine wpListIn_append_own _ rfl _ _ 71 rfl (w.heap.size+6) 9 i0 (.string ⟨#[]⟩) 1 16 Tryz.underlying71 hi hz0 hz1 hz2 rfl (by decide) _ _ _ rfl (h2.row.alloc _) ⟨W2.heap.size,0,none⟩ 1 1 [.string ⟨⟨x⟩⟩] rfl rfl (cell_one_new _ _ _) (by simp [Value.oneCell']) (by omega) (by omega) (by have:=h2.size;simp;omega) ?_;intro v' w1 hown' hgrow _;obtain ⟨g',cap',rfl⟩:=ownsRow_succ hown';obtain ⟨hv1,h4,hk4⟩:=h2.app hx hown' hgrow;have HK:Hid _:=hk4;clear hk4;have hc1:=hv1.cell;have hf1:=hv1.frozen)
    ·exact FIN.out _ _ h4 ((HK.out _ (by omega) (by omega)).trans hD2) ((HK.out _ (by omega) (by omega)).trans hL2)
    ·exfalso
     simp_all
  ·have hs5:we.heap.size=w.heap.size+6:=by rw [<-hwe];simp;omega
   refine ⟨.slice none 0 0,⟨?_,World.ownsRow_nil _ _ _ _,?_,?_,?_,?_,by omega⟩,?_,?_⟩
   ·rw [<-hwe];exact (B0.alloc _).alloc _
   ·rw [<-hwe];exact (B1.alloc _).alloc _
   ·rw [<-hwe];exact (B2.alloc _).alloc _
   ·rw [<-hwe];exact (B3.alloc _).alloc _
   ·rw [<-hwe];exact (ld.alloc (by omega) _).alloc (by simp;omega) _
   ·rw [<-hwe]
    refine (Below.heap_alloc _ _ _ (by simp;omega)).trans ?_
    have:=World.alloc_heap_new wd (.deferred (some []))
    rw [sd] at this
    exact this
   ·rw [<-hwe]
    have:=World.alloc_heap_new (wd.alloc (.deferred (some []))) (.loop (rec .ready none))
    rw [World.size_alloc,sd] at this
    exact this
  ·rintro e W ⟨he,r,v,h,hD,hL⟩
   exact ⟨he,⟨r,v,h,hD⟩,hL⟩
 case done=>
  rintro W o o' ⟨r,v,hI,hD⟩ hl ho
  rw [sd] at hl ⊢
  have hI2:=hI.put o' hl ho (by omega)
  have hD2:(W.putObj (w.heap.size+4+1) o').heap[w.heap.size+4]? = some (.deferred (some [])):=(World.putObj_heap_other (by omega)).trans hD
  obtain ⟨W2,hW2⟩:∃ W2,W.putObj (w.heap.size+4+1) o'=W2:=⟨_,rfl⟩
  rw [hW2] at hI2 hD2 ⊢
  have c0:=hI2.b0.cell
  have hJn:=join_row (keptP (splitP s)) hI2.row (by have h1:=keptP_len (splitP s);have h2:=splitP_len s;omega) (by have:=kept_join s;omega)
  gi_wp2_with (refine ⟨trivial,?_⟩;gi_at_call 121;refine (callsIn_wide.2 hJn).mono ?_;rintro e w' ⟨rfl,hB⟩)
  have hD3:w'.heap[w.heap.size+4]? = some (.deferred (some [])):=(hB.block _ (by have:=hI2.size;omega)).trans hD2
  refine ⟨by simp,.inl ⟨_,_,rfl,run_takeDeferred hD3,?_⟩⟩
  refine ⟨_,results_tmp rfl _ _ _,rfl,?_⟩
  exact ((hI2.below).trans (hB.mono (by have:=hI2.size;omega))).trans (belowK_b (w:=w) (Nat.le_refl _) w' _ _ _ (by omega) hD3 rfl rfl)
end Go.Proofs
namespace Go.A
open Go.Proofs Go.Lib
theorem all256 (p:UInt8->Bool) (h:(List.range 256).all (fun n=>p (UInt8.ofNat n))=true) (c:UInt8):p c=true:=by
 have:=(List.all_eq_true.1 h) c.toNat (List.mem_range.2 c.toNat_lt)
 simpa using this
theorem gr_hi (c:UInt8) (h:128<=c.toNat):greatC c=c:=by unfold greatC;rw [if_neg (by omega)]
theorem gr_lo (c:UInt8) (h:c.toNat<128):(greatC c).toNat<128:=by
 simpa [h] using all256 (fun c=>decide (c.toNat<128->(greatC c).toNat<128)) (by decide +kernel) c
theorem dec_valid (l:List UInt8):(decodeL l).1<55296\/(57343<(decodeL l).1/\(decodeL l).1<=1114111):=by
 rw [decodeL_N]
 generalize l.length=n
 generalize (l.getD 0 0).toNat=b0
 generalize (l.getD 1 0).toNat=b1
 generalize (l.getD 2 0).toNat=b2
 generalize (l.getD 3 0).toNat=b3
 unfold decodeN
 repeat' split
 all_goals simp only []
 all_goals omega
theorem enc_rune {c:Nat} (hv:c<55296\/(57343<c/\c<=1114111)):encU (c:Int)=encodeRune (c:Int):=by
 unfold encodeRune encodeRuneZ
 rcases encU_cases hv with ⟨h1,e⟩|⟨h1,h2,e⟩|⟨h1,h2,e⟩|⟨h1,h2,e⟩
 ·rw [e,if_pos (by omega)]
  rfl
 ·rw [e,if_neg (by omega),if_pos (by omega)]
  rfl
 ·rw [e,if_neg (by omega),if_neg (by omega),if_pos (by omega)]
  rfl
 ·rw [e,if_neg (by omega),if_neg (by omega),if_neg (by omega),if_pos (by omega)]
  rfl
theorem vp_enc {p:List UInt8} (h:VP p):encU ((decodeL p).1:Int)=p:=by
 obtain ⟨h1,h2,h3⟩:=h
 have h4:=encode_decode p h1 (fun e=>h2 (by rw [<-e.1,← e.2]))
 rw [h3,List.take_of_length_le (Nat.le_refl _)] at h4
 rw [enc_rune (dec_valid p)]
 exact h4
theorem vp_cases {p:List UInt8} (h:VP p):(∃ c:UInt8,p = [c]/\c.toNat<128)\/(∀ b∈p,128<=b.toNat):=by
 have he:=vp_enc h
 have hv:=dec_valid p
 generalize (decodeL p).1=c at *
 have u:∀ k,k<256->(UInt8.ofNat k).toNat=k:=fun k hk=>by have:=u8_nat hk;omega
 rcases encU_cases hv with ⟨h1,e⟩|⟨h1,h2,e⟩|⟨h1,h2,e⟩|⟨h1,h2,e⟩
 ·exact .inl ⟨UInt8.ofNat c,by rw [<-he,e],by rw [u _ (by omega)];exact h1⟩
 all_goals
  refine .inr fun b hb=>?_
  rw [<-he,e] at hb
  simp only [List.mem_cons,List.not_mem_nil,or_false] at hb
  rcases hb with rfl|rfl|rfl|rfl<;>rw [u _ (by omega)]<;>omega
theorem vp_ascii {c:UInt8} (h:c.toNat<128):VP [c]/\(decodeL [c]).1=c.toNat:=by
 have hv:c.toNat<55296\/(57343<c.toNat/\c.toNat<=1114111) := .inl (by omega)
 have he:encU (c.toNat:Int) = [c]:=by
  rcases encU_cases hv with ⟨h1,e⟩|⟨h1,h2,e⟩|⟨h1,h2,e⟩|⟨h1,h2,e⟩
  ·rw [e];simp
  all_goals omega
 have h1:=enc_vp hv
 have h2:=dec_enc hv []
 rw [he] at h1 h2
 rw [List.append_nil] at h2
 exact ⟨h1,by rw [h2]⟩
theorem vp_great {p:List UInt8} (h:VP p):VP (greatP p):=by
 rcases vp_cases h with ⟨c,rfl,hc⟩|hb
 ·exact (vp_ascii (gr_lo c hc)).1
 ·rw [show greatP p=p from (List.map_congr_left fun b hb'=>gr_hi b (hb b hb')).trans (List.map_id' p)];exact h
theorem prop_vp {q t:List UInt8} (h:VP q) (ins:Bool):propQ ins (q++t)=(if ins=true then smallP q else greatP q)++propQ (letterB ((decodeL q).1:Int)) t:=by
 have hne:q++t ≠ []:=by simp [h.1]
 rw [propQ_step ins hne,h.app,vp_enc h,h.2.2,List.drop_left]
def revP (s:List UInt8):List UInt8:=(runesBytes (runesOf s).reverse).data.toList
theorem runes_flat:∀ (ns:List Int) (b:ByteArray),(ns.foldl (fun r n=>r++Utf8.encode n) b).data.toList=b.data.toList++(ns.map encU).flatten
 | [],b=>by simp
 | n::ns,b=>by
   rw [List.foldl_cons,runes_flat ns,List.map_cons,List.flatten_cons,← List.append_assoc]
   congr 1
theorem map_enc:∀ P:List (List UInt8),(∀ p∈P,VP p)->(P.map fun p=>((decodeL p).1:Int)).map encU=P
 | [],_=>rfl
 | p::P,h=>by
   rw [List.map_cons,List.map_cons,vp_enc (h p List.mem_cons_self),map_enc P fun q hq=>h q (List.mem_cons_of_mem _ hq)]
theorem runes_pcs (s:List UInt8):∀ (f i:Nat),s.length-i<=f->Whole (s.drop i)->runesZ ⟨⟨s⟩⟩ f i=(pcs (s.drop i)).map fun p=>((decodeL p).1:Int)
 | 0,i,h,_=>by
   rw [List.drop_eq_nil_of_le (by omega)]
   try rfl
 | f+1,i,h,hw=>by
   unfold runesZ
   by_cases hi:i<s.length
   ·obtain ⟨r1,r2,r3,r4⟩:=range_at hi
    rw [if_pos (by simpa [ByteArray.size] using hi),r2]
    obtain ⟨w1,w2⟩:=(whole_step r1).1 hw
    have hv:=take_vp r1 w1
    have e:=hv.app ((s.drop i).drop (decodeL (s.drop i)).2)
    rw [List.take_append_drop] at e
    rw [List.drop_drop] at w2
    rw [runes_pcs s f _ (by omega) w2,pcs_step r1,List.map_cons,List.drop_drop,← e]
   ·rw [if_neg (by simpa [ByteArray.size] using hi),List.drop_eq_nil_of_le (by omega)]
    rfl
theorem rev_pcs {s:List UInt8} (h:Whole s):revP s=(pcs s).reverse.flatten:=by
 have h1:=runes_pcs s s.length 0 (by omega) h
 rw [List.drop_zero] at h1
 unfold revP runesOf runesBytes
 rw [h1,runes_flat,← List.map_reverse,map_enc _ fun p hp=>h p (List.mem_reverse.1 hp)]
 rfl
def trimT (s:List UInt8):List UInt8:=Lib.join (keptP (splitP s)) [32]
theorem splitP_no:∀ (s:List UInt8),∀ p∈splitP s,∀ b∈p,b≠32
 | [],p,hp,b,hb=>by rw [splitP,List.mem_singleton] at hp;subst hp;cases hb
 | c::l,p,hp,b,hb=>by
   have ih:=splitP_no l
   rw [splitP] at hp
   split at hp
   ·rcases List.mem_cons.1 hp with rfl|hp
    ·cases hb
    ·exact ih p hp b hb
   ·rename_i hc
    split at hp
    ·rw [List.mem_singleton] at hp;subst hp
     rw [List.mem_singleton.1 hb];exact hc
    ·rename_i h t e
     rcases List.mem_cons.1 hp with rfl|hp
     ·rcases List.mem_cons.1 hb with rfl|hb
      ·exact hc
      ·exact ih h (by rw [e];exact List.mem_cons_self) b hb
     ·exact ih p (by rw [e];exact List.mem_cons_of_mem _ hp) b hb
end Go.A
namespace Go.A
open Go.Proofs
/-! 32: tabular/tabularref10.Great -/
def c32_15:ACode := .seq (.ops [ oq 10 (.bin .lss (.t 9) (.t 8))]) (.seq (.cond (.t 10) .skip (.exit 0)) (.seq (.block 1 (.seq (.ops [ oq 11 (.mv (.t 9)),oq 4 (.mv (.t 11))]) (.seq (.ops [ oq 12 (.mv (.t 3)),oq 13 (.mv (.t 4)),oq 14 (.ia 1 (.t 12) (.t 13)),oq 15 (.ld none (.t 14)),oq 16 (.bin .geq (.t 15) (.v (.int .u8 97))),oq 17 (.mv (.t 16)),⟨some 18,some (17,true),.q (.mv (.t 3)),[]⟩,⟨some 19,some (17,true),.q (.mv (.t 4)),[]⟩,⟨some 20,some (17,true),.q (.ia 1 (.t 18) (.t 19)),[]⟩,⟨some 21,some (17,true),.q (.ld none (.t 20)),[]⟩,⟨some 22,some (17,true),.q (.bin .leq (.t 21) (.v (.int .u8 122))),[]⟩,oq 23 (.pick (.t 17) (.t 22) (.v (.bool false)))]) (.cond (.t 23) (.ops [ oq 24 (.mv (.t 3)),oq 25 (.mv (.t 4)),oq 26 (.ia 1 (.t 24) (.t 25)),oq 27 (.ld none (.t 26)),oq 28 (.bin .sub (.t 27) (.v (.int .u8 32))),oq 29 (.ia 1 (.t 24) (.t 25)),oz (.store 1 (.t 29) (.t 28))]) .skip)))) (.ops [ oq 30 (.bin .add (.t 9) (.v (.int .i64 1))),oq 9 (.mv (.t 30))])))
def c32_23:ACode := .seq (.ops [ oq 2 (.mv (.v (.str [])))]) (.seq (.ops [ oq 5 (.mv (.t 0)),oe 6 (.s2b (.t 5)),oq 3 (.mv (.t 6))]) (.seq (.seq (.ops [ oq 7 (.mv (.t 3)),oq 8 (.len (.t 7)),oq 9 (.mv (.v (.int .i64 0)))]) (.block 0 (.loop c32_15))) (.seq (.ops [ oq 31 (.mv (.t 3)),oq 32 (.b2s (.t 31)),oq 2 (.mv (.t 32))]) .ret)))
@[go_sem] def c32_15_wp:=wp_of c32_15.eq_1
@[go_sem] def c32_23_wp:=wp_of c32_23.eq_1
def c32:AFn:=⟨33,[.t 2],c32_23⟩
theorem c32_ok:compF Tryz.prog Tryz.f32=some c32:=by kernel_rfl
theorem a32 {args:List AV} {σ:ASt} {R:AV->ASt->Prop} (hl:args.length<=33) (h:c32_23.wp Tryz.prog (RetQ [.t 2] R) (init args) σ):ACalls Tryz.prog 32 args σ R:=acalls_of Tryz.func32 c32_ok hl h
end Go.A
