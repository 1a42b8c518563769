/- Part 6 of what TabularTiles leans on: CodeJo CodeJp Jp Jq CodeVd Vd CodeVe Ve CodeVf Vf Vke CodeJs Js Gp Wc Ea Zd CodeEq Eq CodeWb Wb CodeZe Ze. -/
import Derived.Test.YtfnhdjigeedieaaGreatDoorProg
import Derived.KernelRfl
import Derived.Lib.ItoaNum
import Derived.Lib.LaidU8
import Derived.Lib.Replace
import Derived.Test.YtfnhdjigeedieaaGreatDoorZTabularTilese
set_option linter.defProp false
set_option linter.unusedSimpArgs false
set_option linter.unusedVariables false
set_option maxRecDepth 100000
namespace Go.A
open Go.Proofs
/-! 29: tabular/value.Input -/
def c29_49:ACode := .seq (.ops [ oq 45 (.bin .lss (.t 44) (.t 43))]) (.seq (.cond (.t 45) .skip (.exit 1)) (.seq (.block 2 (.seq (.ops [ oq 46 (.mv (.t 44)),oq 47 (.ia 1 (.t 42) (.t 44)),oq 48 (.ld none (.t 47)),oq 9 (.mv (.t 46)),oq 10 (.mv (.t 48))]) (.seq (.ops [ oq 49 (.mv (.t 8)),oq 50 (.mv (.t 10)),oq 51 (.bin .eql (.t 49) (.t 50))]) (.cond (.t 51) (.seq (.ops [ oq 52 (.mv (.t 9)),oq 53 (.bin .add (.t 52) (.v (.int .i64 1))),oq 54 (.mki 77 (.t 53)),oq 2 (.mv (.t 54))]) .ret) .skip)))) (.ops [ oq 55 (.bin .add (.t 44) (.v (.int .i64 1))),oq 44 (.mv (.t 55))])))
def c29_54:ACode := .seq (.ops [ oq 56 (.mv (.t 0)),oq 57 (.mki 135 (.t 56)),oq 2 (.mv (.t 57))]) .ret
def c29_61:ACode := .seq (.ops [ oq 2 (.mv (.v .nili))]) (.seq (.seq (.ops [ oq 12 (.mv (.t 0)),oe 13 (.call 67 [(.t 12),(.v (.str [39]))]),oq 11 (.mv (.t 13)),oq 14 (.ext 0 (.t 11)),oq 15 (.ext 1 (.t 11)),oq 3 (.mv (.t 14)),oq 4 (.mv (.t 15))]) (.seq (.ops [ oq 16 (.mv (.t 4))]) (.cond (.t 16) (.seq (.ops [ oq 17 (.mv (.t 3)),oq 18 (.mki 135 (.t 17)),oq 2 (.mv (.t 18))]) .ret) .skip))) (.seq (.ops [ oq 19 (.mv (.t 0)),oe 20 (.call 68 [(.t 19)]),oq 5 (.mv (.t 20))]) (.seq (.seq (.ops [ oq 22 (.mv (.t 5)),oe 23 (.call 62 [(.t 22)]),oq 21 (.mv (.t 23)),oq 24 (.ext 0 (.t 21)),oq 25 (.ext 1 (.t 21)),oq 6 (.mv (.t 24)),oq 7 (.mv (.t 25))]) (.seq (.ops [ oq 26 (.mv (.t 7))]) (.cond (.t 26) (.seq (.ops [ oq 27 (.mv (.t 6)),oq 28 (.mki 136 (.t 27)),oq 2 (.mv (.t 28))]) .ret) .skip))) (.seq (.ops [ oq 29 (.mv (.t 5)),oe 30 (.call 69 [(.t 29)]),oq 8 (.mv (.t 30))]) (.seq (.seq (.ops [ oq 31 (.mv (.t 8))]) (.block 0 (.seq (.ops [ oq 33 (.bin .eql (.t 31) (.v (.str []))),oq 32 (.mv (.t 33))]) (.cond (.t 32) (.seq (.ops [ oq 34 (.build [] []),oq 35 (.mki 138 (.t 34)),oq 2 (.mv (.t 35))]) .ret) (.seq (.ops [ oq 37 (.bin .eql (.t 31) (.v (.str [84,82,85,69]))),oq 36 (.mv (.t 37))]) (.cond (.t 36) (.seq (.ops [ oq 38 (.mki 139 (.v (.bool true))),oq 2 (.mv (.t 38))]) .ret) (.seq (.ops [ oq 40 (.bin .eql (.t 31) (.v (.str [70,65,76,83,69]))),oq 39 (.mv (.t 40))]) (.cond (.t 39) (.seq (.ops [ oq 41 (.mki 139 (.v (.bool false))),oq 2 (.mv (.t 41))]) .ret) .skip)))))))) (.seq (.seq (.ops [ oe 42 (.call 70 []),oq 43 (.len (.t 42)),oq 44 (.mv (.v (.int .i64 0)))]) (.block 1 (.loop c29_49))) c29_54))))))
@[go_sem] def c29_49_wp:=wp_of c29_49.eq_1
@[go_sem] def c29_54_wp:=wp_of c29_54.eq_1
@[go_sem] def c29_61_wp:=wp_of c29_61.eq_1
def c29:AFn:=⟨58,[.t 2],c29_61⟩
theorem c29_ok:compF Tryz.prog Tryz.f29=some c29:=by kernel_rfl
theorem a29 {args:List AV} {σ:ASt} {R:AV->ASt->Prop} (hl:args.length<=58) (h:c29_61.wp Tryz.prog (RetQ [.t 2] R) (init args) σ):ACalls Tryz.prog 29 args σ R:=aFq Tryz.func29 c29_ok hl h
/-! 35: tabular/value.Typed -/
def c35_19:ACode := .seq (.ops [ oq 2 (.mv (.v (.str [])))]) (.seq (.ops [ oq 8 (.mv (.t 0)),oq 9 (.ta 135 (.str []) true (.t 8)),oq 7 (.mv (.t 9)),oq 10 (.ext 0 (.t 7)),oq 11 (.ext 1 (.t 7)),oq 3 (.mv (.t 10)),oq 4 (.mv (.t 11))]) (.seq (.seq (.ops [ oq 12 (.mv (.t 4)),oq 13 (.un .not (.t 12))]) (.cond (.t 13) (.seq (.ops [ oq 14 (.mv (.t 0)),oe 15 (.call 77 [(.t 14)]),oq 2 (.mv (.t 15))]) .ret) .skip)) (.seq (.seq (.ops [ oq 17 (.mv (.t 3)),oe 18 (.call 29 [(.t 17)]),oq 19 (.ta 135 (.str []) true (.t 18)),oq 16 (.mv (.t 19)),oq 20 (.ext 0 (.t 16)),oq 21 (.ext 1 (.t 16)),oq 5 (.mv (.t 20)),oq 6 (.mv (.t 21))]) (.seq (.ops [ oq 22 (.mv (.t 6)),oq 23 (.mv (.t 22)),⟨some 24,some (23,true),.q (.mv (.t 5)),[]⟩,⟨some 25,some (23,true),.q (.mv (.t 3)),[]⟩,⟨some 26,some (23,true),.q (.bin .eql (.t 24) (.t 25)),[]⟩,oq 27 (.pick (.t 23) (.t 26) (.v (.bool false)))]) (.cond (.t 27) (.seq (.ops [ oq 28 (.mv (.t 3)),oq 2 (.mv (.t 28))]) .ret) .skip))) (.seq (.ops [ oq 29 (.mv (.t 3)),oq 30 (.bin .add (.v (.str [39])) (.t 29)),oq 2 (.mv (.t 30))]) .ret))))
@[go_sem] def c35_19_wp:=wp_of c35_19.eq_1
def c35:AFn:=⟨31,[.t 2],c35_19⟩
theorem c35_ok:compF Tryz.prog Tryz.f35=some c35:=by kernel_rfl
theorem a35 {args:List AV} {σ:ASt} {R:AV->ASt->Prop} (hl:args.length<=31) (h:c35_19.wp Tryz.prog (RetQ [.t 2] R) (init args) σ):ACalls Tryz.prog 35 args σ R:=aFq Tryz.func35 c35_ok hl h
/-! 77: tabular/value.Show -/
def c77_13:ACode := .seq (.ops [ oq 2 (.mv (.v (.str [])))]) (.seq (.seq (.ops [ oq 8 (.mv (.t 0)),oe 9 (.call 30 [(.t 8)]),oq 7 (.mv (.t 9)),oq 10 (.ext 0 (.t 7)),oq 11 (.ext 1 (.t 7)),oq 3 (.mv (.t 10)),oq 4 (.mv (.t 11))]) (.seq (.ops [ oq 12 (.mv (.t 4))]) (.cond (.t 12) (.seq (.ops [ oe 13 (.call 70 []),oq 14 (.mv (.t 3)),oq 15 (.bin .sub (.t 14) (.v (.int .i64 1))),oq 16 (.ia 1 (.t 13) (.t 15)),oq 17 (.ld none (.t 16)),oq 2 (.mv (.t 17))]) .ret) .skip))) (.seq (.ops [ oq 19 (.mv (.t 0)),oe 20 (.call 130 [(.t 19)]),oq 18 (.mv (.t 20)),oq 21 (.ext 0 (.t 18)),oq 22 (.ext 1 (.t 18)),oq 5 (.mv (.t 21)),oq 6 (.mv (.t 22))]) (.seq (.ops [ oq 23 (.mv (.t 5)),oq 2 (.mv (.t 23))]) .ret)))
@[go_sem] def c77_13_wp:=wp_of c77_13.eq_1
def c77:AFn:=⟨24,[.t 2],c77_13⟩
theorem c77_ok:compF Tryz.prog Tryz.f77=some c77:=by kernel_rfl
theorem a77 {args:List AV} {σ:ASt} {R:AV->ASt->Prop} (hl:args.length<=24) (h:c77_13.wp Tryz.prog (RetQ [.t 2] R) (init args) σ):ACalls Tryz.prog 77 args σ R:=aFq Tryz.func77 c77_ok hl h
end Go.A
namespace Go.A
open Go.Proofs
/-! 79: tabular/tabularlaw15.Told -/
/-! 130: tabular/value.AsText -/
def c130_41:ACode := .seq (.ops [ oq 2 (.mv (.v (.str []))),oq 3 (.mv (.v (.int .i64 0)))]) (.seq (.seq (.ops [ oq 8 (.mv (.t 0))]) (.block 0 (.seq (.ops [ oq 9 (.ta 136 (.int .i64 0) true (.t 8)),oq 10 (.ext 1 (.t 9)),oq 11 (.ext 0 (.t 9))]) (.cond (.t 10) (.seq (.ops [ oq 4 (.mv (.t 11))]) (.seq (.ops [ oq 12 (.mv (.t 4)),oe 13 (.call 121 [(.t 12)]),oq 2 (.mv (.t 13)),oq 3 (.mv (.v (.int .i64 0)))]) .ret)) (.seq (.ops [ oq 14 (.ta 139 (.bool false) true (.t 8)),oq 15 (.ext 1 (.t 14)),oq 16 (.ext 0 (.t 14))]) (.cond (.t 15) (.seq (.ops [ oq 5 (.mv (.t 16))]) (.seq (.seq (.ops [ oq 17 (.mv (.t 5))]) (.cond (.t 17) (.seq (.ops [ oq 2 (.mv (.v (.str [84,82,85,69]))),oq 3 (.mv (.v (.int .i64 0)))]) .ret) .skip)) (.seq (.ops [ oq 2 (.mv (.v (.str [70,65,76,83,69]))),oq 3 (.mv (.v (.int .i64 0)))]) .ret))) (.seq (.ops [ oq 18 (.ta 135 (.str []) true (.t 8)),oq 19 (.ext 1 (.t 18)),oq 20 (.ext 0 (.t 18))]) (.cond (.t 19) (.seq (.ops [ oq 6 (.mv (.t 20))]) (.seq (.ops [ oq 21 (.mv (.t 6)),oq 2 (.mv (.t 21)),oq 3 (.mv (.v (.int .i64 0)))]) .ret)) (.seq (.ops [ oq 22 (.ta 77 (.int .i64 0) true (.t 8)),oq 23 (.ext 1 (.t 22)),oq 24 (.ext 0 (.t 22))]) (.cond (.t 23) (.seq (.ops [ oq 7 (.mv (.t 24))]) (.seq (.ops [ oq 25 (.mv (.t 7)),oq 2 (.mv (.v (.str []))),oq 3 (.mv (.t 25))]) .ret)) .skip)))))))))) (.seq (.ops [ oq 2 (.mv (.v (.str []))),oq 3 (.mv (.v (.int .i64 0)))]) .ret))
@[go_sem] def c130_41_wp:=wp_of c130_41.eq_1
def c130:AFn:=⟨26,[.t 2,.t 3],c130_41⟩
theorem c130_ok:compF Tryz.prog Tryz.f130=some c130:=by kernel_rfl
theorem a130 {args:List AV} {σ:ASt} {R:AV->ASt->Prop} (hl:args.length<=26) (h:c130_41.wp Tryz.prog (RetQ [.t 2,.t 3] R) (init args) σ):ACalls Tryz.prog 130 args σ R:=aFq Tryz.func130 c130_ok hl h
end Go.A
section
attribute [local go_sem] reduceCtorEq Nat.reduceEqDiff Nat.reduceAdd Nat.reduceSub Nat.reduceMul Nat.reduceLeDiff Int.reduceLT Int.reduceLE Int.reduceEq Int.reduceNeg Int.reduceAdd Int.reduceSub Int.reduceMul true_imp_iff forall_const Nat.mul_one Int.reduceToNat Nat.reducePow Int.reducePow Bool.true_and Bool.false_and Bool.and_false
attribute [local go_sem ↓] reduceIte
namespace Go.A
open Go.Proofs Go.Lib
def PV.good:PV->Prop
 | .num n=>n.natAbs<=999999999999999999
 | .fail n=>1<=n/\n<=7
 | _=>True
def asTextP:PV->List UInt8×Int
 | .blank=>([],0)
 | .num n=>(textD n,0)
 | .text s=>(s,0)
 | .bool b=>(if b=true then [84,82,85,69] else [70,65,76,83,69],0)
 | .fail f=>([],f)
theorem asText_ok {σ:ASt} (hT:Tab σ) (v:PV) (hv:v.good):ACalls Tryz.prog 130 [v.av] σ fun r σ'=>r = .tuple [.str (asTextP v).1,.int .i64 (asTextP v).2]/\σ'=σ:=by
 refine a130 (by simp) ?_
 cases v with
 | num n=>
   have hD:=dtext_ok hT hv
   simp only [PV.av,asTextP]
   simp (disch:=first|assumption|omega) only [go_sem]
   refine hD.mono ?_
   rintro v σ' ⟨rfl,rfl⟩
   simp (disch:=first|assumption|omega) only [go_sem]
   exact retC_by (by repeat' (first|exact Drop.refl _|with_reducible refine Drop.off ?_ (by assumption))) (.refl _) ⟨rfl,rfl⟩
 | bool b=>
   cases b<;>simp only [PV.av,asTextP]<;>simp (disch:=first|assumption|omega) only [go_sem]
   all_goals exact retC_by (by repeat' (first|exact Drop.refl _|with_reducible refine Drop.off ?_ (by assumption))) (.refl _) ⟨rfl,rfl⟩
 | blank=>
   simp only [PV.av,asTextP]
   simp (disch:=first|assumption|omega) only [go_sem]
   exact retC_by (by repeat' (first|exact Drop.refl _|with_reducible refine Drop.off ?_ (by assumption))) (.refl _) ⟨rfl,rfl⟩
 | text s=>
   simp only [PV.av,asTextP]
   simp (disch:=first|assumption|omega) only [go_sem]
   exact retC_by (by repeat' (first|exact Drop.refl _|with_reducible refine Drop.off ?_ (by assumption))) (.refl _) ⟨rfl,rfl⟩
 | fail s=>
   simp only [PV.av,asTextP]
   simp (disch:=first|assumption|omega) only [go_sem]
   exact retC_by (by repeat' (first|exact Drop.refl _|with_reducible refine Drop.off ?_ (by assumption))) (.refl _) ⟨rfl,rfl⟩
end Go.A
namespace Go.A
open Go.Proofs Go.Lib
def errV:List (List UInt8) := [[35,68,73,86,47,48,33],[35,78,85,77,33],[35,86,65,76,85,69,33],[35,82,69,70,33],[35,78,47,65],[35,78,65,77,69,63],[35,67,89,67,76,69,33]]
def errF (g:List UInt8):List (List UInt8)->Nat->Option Nat
 | [],_=>none
 | x::r,k=>if g=x then some k else errF g r (k+1)
theorem errF_rng (g:List UInt8):∀ (l:List (List UInt8)) (k j:Nat),errF g l k=some j->k<=j/\j<k+l.length
 | [],k,j,h=>by cases h
 | x::r,k,j,h=>by
   rw [errF] at h
   by_cases he:g=x
   ·rw [if_pos he] at h
    injection h with h
    subst h
    simp
   ·rw [if_neg he] at h
    have:=errF_rng g r (k+1) j h
    simp only [List.length_cons]
    omega
def inputP (s:List UInt8):PV:=
 if Lib.hasPrefix s [39]=true then .text (Lib.trimPrefix s [39])
 else match parseD (Lib.trimB s 32) with
  | some n => .num n
  | none=>
    if greatP (Lib.trimB s 32) = [] then .blank
    else if greatP (Lib.trimB s 32) = [84,82,85,69] then .bool true
    else if greatP (Lib.trimB s 32) = [70,65,76,83,69] then .bool false
    else match errF (greatP (Lib.trimB s 32)) errV 0 with
     | some i => .fail (i+1)
     | none => .text s
theorem input_ok (s:List UInt8) (hl:s.length<=100000):Pure Tryz.prog 29 [.str s] (inputP s).av:=by
 intro σ
 have h1:=cutPrefix_ok s [39]
 have h2:=trim_ok s (by omega)
 have hle:=trimB_len s 32
 have h3:=dparse_ok (Lib.trimB s 32) (by omega)
 have h4:=vgreat_ok (Lib.trimB s 32) (by omega)
 have h5:=errors_ok
 obtain ⟨q,hq⟩:∃ q,inputP s=q:=⟨_,rfl⟩
 rw [hq]
 unfold inputP at hq
 generalize Lib.trimPrefix s [39]=u at *
 generalize hpf:Lib.hasPrefix s [39]=pf at *
 generalize Lib.trimB s 32=t at *
 cases pf with
 | true=>
   rw [if_pos rfl] at hq
   subst hq
   simp only [PV.av]
   refine a29 (by simp) ?_
   simp (disch:=first|assumption|omega) only [go_sem]
   refine h1.use ?_
   simp (disch:=first|assumption|omega) only [go_sem]
   exact retC_by (by repeat' (first|exact Drop.refl _|with_reducible refine Drop.off ?_ (by assumption))) (.refl _) ⟨rfl,rfl⟩
 | false=>
   rw [if_neg (by simp)] at hq
   cases hp:parseD t with
   | some n=>
     rw [hp] at hq h3
     simp only [resAV,Option.getD_some,Option.isSome_some] at h3
     dsimp only at hq
     subst hq
     simp only [PV.av]
     refine a29 (by simp) ?_
     simp (disch:=first|assumption|omega) only [go_sem]
     refine h1.use ?_
     simp (disch:=first|assumption|omega) only [go_sem]
     refine h2.use ?_
     simp (disch:=first|assumption|omega) only [go_sem]
     refine h3.use ?_
     simp (disch:=first|assumption|omega) only [go_sem]
     exact retC_by (by repeat' (first|exact Drop.refl _|with_reducible refine Drop.off ?_ (by assumption))) (.refl _) ⟨rfl,rfl⟩
   | none=>
     rw [hp] at hq h3
     simp only [resAV,Option.getD_none,Option.isSome_none] at h3
     dsimp only at hq
     generalize greatP t=g at *
     by_cases g0:g = []
     ·rw [if_pos g0] at hq
      subst hq g0
      simp only [PV.av]
      refine a29 (by simp) ?_
      simp (disch:=first|assumption|omega) only [go_sem]
      refine h1.use ?_
      simp (disch:=first|assumption|omega) only [go_sem]
      refine h2.use ?_
      simp (disch:=first|assumption|omega) only [go_sem]
      refine h3.use ?_
      simp (disch:=first|assumption|omega) only [go_sem]
      refine h4.use ?_
      simp (disch:=first|assumption|omega) only [go_sem,eq_self]
      exact retC_by (by repeat' (first|exact Drop.refl _|with_reducible refine Drop.off ?_ (by assumption))) (.refl _) ⟨rfl,rfl⟩
     rw [if_neg g0] at hq
     by_cases g1:g = [84,82,85,69]
     ·rw [if_pos g1] at hq
      subst hq g1
      simp only [PV.av]
      refine a29 (by simp) ?_
      simp (disch:=first|assumption|omega) only [go_sem]
      refine h1.use ?_
      simp (disch:=first|assumption|omega) only [go_sem]
      refine h2.use ?_
      simp (disch:=first|assumption|omega) only [go_sem]
      refine h3.use ?_
      simp (disch:=first|assumption|omega) only [go_sem]
      refine h4.use ?_
      simp (disch:=first|assumption|omega) only [go_sem,eq_self]
      exact retC_by (by repeat' (first|exact Drop.refl _|with_reducible refine Drop.off ?_ (by assumption))) (.refl _) ⟨rfl,rfl⟩
     rw [if_neg g1] at hq
     by_cases g2:g = [70,65,76,83,69]
     ·rw [if_pos g2] at hq
      subst hq g2
      simp only [PV.av]
      refine a29 (by simp) ?_
      simp (disch:=first|assumption|omega) only [go_sem]
      refine h1.use ?_
      simp (disch:=first|assumption|omega) only [go_sem]
      refine h2.use ?_
      simp (disch:=first|assumption|omega) only [go_sem]
      refine h3.use ?_
      simp (disch:=first|assumption|omega) only [go_sem]
      refine h4.use ?_
      simp (disch:=first|assumption|omega) only [go_sem,eq_self]
      exact retC_by (by repeat' (first|exact Drop.refl _|with_reducible refine Drop.off ?_ (by assumption))) (.refl _) ⟨rfl,rfl⟩
     rw [if_neg g2] at hq
     refine a29 (by simp) ?_
     simp (disch:=first|assumption|omega) only [go_sem]
     refine h1.use ?_
     simp (disch:=first|assumption|omega) only [go_sem]
     refine h2.use ?_
     simp (disch:=first|assumption|omega) only [go_sem]
     refine h3.use ?_
     simp (disch:=first|assumption|omega) only [go_sem]
     refine h4.use ?_
     obtain ⟨G,hG⟩:∃ G,G=ACode.wp Tryz.prog c29_54:=⟨_,rfl⟩
     simp (disch:=first|assumption|omega) only [go_sem,g0,g1,g2,←hG]
     refine h5.use ?_
     have hE:([.str [35,68,73,86,47,48,33],.str [35,78,85,77,33],.str [35,86,65,76,85,69,33],.str [35,82,69,70,33],.str [35,78,47,65],.str [35,78,65,77,69,63],.str [35,67,89,67,76,69,33]]:List AV)=errV.map AV.str:=rfl
     rw [hE]
     have hev:errV.length=7:=rfl
     generalize errV=E at *
     simp (disch:=first|assumption|omega) only [go_sem,hev]
     refine wLq (fun (i:Nat) a1 s2=>(i<=7/\(match errF g (E.drop i) i with|some i=>PV.fail (i+1)|none => .text s)=q)/\(a1 0 = .str s/\a1 8 = .str g/\a1 42 = .sl .shr (E.map AV.str)/\a1 43 = .int .i64 7/\a1 44 = .int .i64 i)/\s2=σ) (fun i=>7-i) 0 ⟨⟨Nat.zero_le _,by rw [List.drop_zero];exact hq⟩,?_,rfl⟩ ?_
     ·simp (disch:=first|assumption|omega) only [go_sem]
     rintro i a1 s2 ⟨⟨hi,hqi⟩,hf,rfl⟩
     by_cases hlt:i<7
     ·have hlt':(i:Int)<7:=by omega
      have hlt2:i<E.length:=by omega
      have hx : E[i]? = some (E[i]'hlt2) := List.getElem?_eq_getElem hlt2
      rw [List.drop_eq_getElem_cons hlt2,errF] at hqi
      obtain ⟨x, hxe⟩ : ∃ x, E[i]'hlt2 = x := ⟨_, rfl⟩
      rw [hxe] at hx hqi
      have hmx:(E.map AV.str)[i]? = some (.str x):=by rw [List.getElem?_map,hx];rfl
      generalize E.map AV.str=EL at *
      by_cases he:g=x
      ·rw [if_pos he] at hqi
       subst he
       dsimp only at hqi
       subst hqi
       simp only [PV.av]
       simp (disch:=first|assumption|omega) only [go_sem,hf,hlt',hmx,eq_self]
       exact retC_by (Drop.refl _) (.refl _) ⟨rfl,rfl⟩
      ·rw [if_neg he] at hqi
       simp (disch:=first|assumption|omega) only [go_sem,hf,hlt',hmx,he]
       exact ⟨i+1,by omega,⟨by omega,hqi⟩,rfl⟩
     ·have hlt':¬ (i:Int)<7:=by omega
      rw [List.drop_eq_nil_of_le (by omega),errF] at hqi
      dsimp only at hqi
      subst hqi
      simp only [PV.av]
      simp (disch:=first|assumption|omega) only [go_sem,hf,hlt']
      rw [hG]
      simp (disch:=first|assumption|omega) only [go_sem,hf]
      exact retC_by (Drop.refl _) (.refl _) ⟨rfl,rfl⟩
def showP:PV->List UInt8
 | .fail n=>errV.getD (n-1).toNat []
 | v=>(asTextP v).1
theorem show_ok {σ:ASt} (hT:Tab σ) (v:PV) (hv:v.good):ACalls Tryz.prog 77 [v.av] σ fun r σ'=>r = .str (showP v)/\σ'=σ:=by
 have h1:=failed_ok v
 have h2:=asText_ok hT v hv
 have h3:=errors_ok
 have hc:(∃ m,v = .fail m)\/(failedP v=(0,false)/\showP v=(asTextP v).1):=by
  cases v<;>first|exact .inl ⟨_,rfl⟩|exact .inr ⟨rfl,rfl⟩
 rcases hc with ⟨m,rfl⟩|⟨hc,hs⟩
 ·have hm:1<=m/\m<=7:=hv
  have hcs:m=1\/m=2\/m=3\/m=4\/m=5\/m=6\/m=7:=by omega
  simp only [failedP,PV.av] at h1 ⊢
  refine a77 (by simp) ?_
  simp (disch:=first|assumption|omega) only [go_sem]
  refine h1.use ?_
  simp (disch:=first|assumption|omega) only [go_sem]
  refine h3.use ?_
  rcases hcs with rfl|rfl|rfl|rfl|rfl|rfl|rfl
  all_goals
   simp (disch:=first|assumption|omega) only [go_sem]
   exact retC_by (Drop.refl _) (.refl _) ⟨rfl,rfl⟩
 ·rw [hc] at h1
  rw [hs]
  generalize (asTextP v).1=t at *
  generalize (asTextP v).2=f at *
  generalize v.av=a at *
  refine a77 (by simp) ?_
  simp (disch:=first|assumption|omega) only [go_sem]
  refine h1.use ?_
  simp (disch:=first|assumption|omega) only [go_sem]
  refine h2.mono ?_
  rintro r σ' ⟨rfl,rfl⟩
  simp (disch:=first|assumption|omega) only [go_sem]
  exact retC_by (Drop.refl _) (.refl _) ⟨rfl,rfl⟩
def typedP:PV->List UInt8
 | .text s=>if inputP s = .text s then s else 39::s
 | v=>showP v
theorem typed_ok {σ:ASt} (hT:Tab σ) (v:PV) (hv:v.good) (hs:v.small):ACalls Tryz.prog 35 [v.av] σ fun r σ'=>r = .str (typedP v)/\σ'=σ:=by
 have h2:=show_ok hT v hv
 cases v with
 | text s=>
   have hsl:s.length<=100000:=hs
   have h1:=input_ok s hsl
   have e1:binS .add [39] s=some (.str (39::s)):=binS_add (by simp;omega)
   have ht:typedP (.text s)=if inputP s = .text s then s else 39::s:=rfl
   rw [ht]
   have hc:(∃ t,inputP s = .text t)\/∀ t,inputP s ≠ .text t:=by
    cases inputP s<;>first|exact .inl ⟨_,rfl⟩|exact .inr fun t h=>by cases h
   rcases hc with ⟨t,ht⟩|hc
   ·rw [ht] at h1 ⊢
    simp only [PV.av] at h1 ⊢
    by_cases hts:t=s
    ·subst hts
     rw [if_pos rfl]
     refine a35 (by simp) ?_
     simp (disch:=first|assumption|omega) only [go_sem]
     refine h1.use ?_
     simp (disch:=first|assumption|omega) only [go_sem,eq_self]
     exact retC_by (Drop.refl _) (.refl _) ⟨rfl,rfl⟩
    ·rw [if_neg (fun h=>hts (by injection h))]
     refine a35 (by simp) ?_
     simp (disch:=first|assumption|omega) only [go_sem]
     refine h1.use ?_
     simp (disch:=first|assumption|omega) only [go_sem,hts,e1]
     exact retC_by (Drop.refl _) (.refl _) ⟨rfl,rfl⟩
   ·rw [if_neg (hc s)]
    cases hi:inputP s with
    | text t=>exact absurd hi (hc t)
    | blank=>
      rw [hi] at h1
      simp only [PV.av] at h1 ⊢
      refine a35 (by simp) ?_
      simp (disch:=first|assumption|omega) only [go_sem]
      refine h1.use ?_
      simp (disch:=first|assumption|omega) only [go_sem,e1]
      exact retC_by (Drop.refl _) (.refl _) ⟨rfl,rfl⟩
    | num n=>
      rw [hi] at h1
      simp only [PV.av] at h1 ⊢
      refine a35 (by simp) ?_
      simp (disch:=first|assumption|omega) only [go_sem]
      refine h1.use ?_
      simp (disch:=first|assumption|omega) only [go_sem,e1]
      exact retC_by (Drop.refl _) (.refl _) ⟨rfl,rfl⟩
    | bool n=>
      rw [hi] at h1
      simp only [PV.av] at h1 ⊢
      refine a35 (by simp) ?_
      simp (disch:=first|assumption|omega) only [go_sem]
      refine h1.use ?_
      simp (disch:=first|assumption|omega) only [go_sem,e1]
      exact retC_by (Drop.refl _) (.refl _) ⟨rfl,rfl⟩
    | fail n=>
      rw [hi] at h1
      simp only [PV.av] at h1 ⊢
      refine a35 (by simp) ?_
      simp (disch:=first|assumption|omega) only [go_sem]
      refine h1.use ?_
      simp (disch:=first|assumption|omega) only [go_sem,e1]
      exact retC_by (Drop.refl _) (.refl _) ⟨rfl,rfl⟩
 | blank=>
   simp only [PV.av,typedP] at h2 ⊢
   generalize showP .blank=t at *
   refine a35 (by simp) ?_
   simp (disch:=first|assumption|omega) only [go_sem]
   refine h2.mono ?_
   rintro r σ' ⟨rfl,rfl⟩
   simp (disch:=first|assumption|omega) only [go_sem]
   exact retC_by (Drop.refl _) (.refl _) ⟨rfl,rfl⟩
 | num n=>
   simp only [PV.av,typedP] at h2 ⊢
   generalize showP (.num n)=t at *
   refine a35 (by simp) ?_
   simp (disch:=first|assumption|omega) only [go_sem]
   refine h2.mono ?_
   rintro r σ' ⟨rfl,rfl⟩
   simp (disch:=first|assumption|omega) only [go_sem]
   exact retC_by (Drop.refl _) (.refl _) ⟨rfl,rfl⟩
 | bool n=>
   simp only [PV.av,typedP] at h2 ⊢
   generalize showP (.bool n)=t at *
   refine a35 (by simp) ?_
   simp (disch:=first|assumption|omega) only [go_sem]
   refine h2.mono ?_
   rintro r σ' ⟨rfl,rfl⟩
   simp (disch:=first|assumption|omega) only [go_sem]
   exact retC_by (Drop.refl _) (.refl _) ⟨rfl,rfl⟩
 | fail n=>
   simp only [PV.av,typedP] at h2 ⊢
   generalize showP (.fail n)=t at *
   refine a35 (by simp) ?_
   simp (disch:=first|assumption|omega) only [go_sem]
   refine h2.mono ?_
   rintro r σ' ⟨rfl,rfl⟩
   simp (disch:=first|assumption|omega) only [go_sem]
   exact retC_by (Drop.refl _) (.refl _) ⟨rfl,rfl⟩
end Go.A
namespace Go.A
open Go.Proofs
/-! 40: (*tabular/vint.Writer).Uint -/
def c40_7:ACode := .seq (.seq (.ops [ oq 4 (.mv (.t 1)),oq 5 (.bin .gtr (.t 4) (.v (.int .u64 127)))]) (.cond (.t 5) .skip (.exit 0))) (.seq (.block 1 (.ops [ oq 8 (.mv (.t 0)),oq 9 (.mv (.t 0)),oq 10 (.nc (.t 9)),oq 11 (.fa 0 (.t 10)),oq 12 (.ld none (.t 11)),oq 13 (.mv (.t 1)),oq 14 (.conv .u8 (.t 13)),oq 15 (.bin .or (.t 14) (.v (.int .u8 128))),oq 16 (.bsl 1 [(.t 15)]),oe 17 (.app 5 1 1 [(.int .u8 0)] (.t 12) (.t 16)),oq 18 (.nc (.t 8)),oq 19 (.fa 0 (.t 18)),oz (.store 1 (.t 19) (.t 17))])) (.ops [ oq 6 (.mv (.t 1)),oq 7 (.bin .shr (.t 6) (.v (.int .u64 7))),oq 1 (.mv (.t 7))]))
def c40_11:ACode := .seq (.block 0 (.loop c40_7)) (.ops [ oq 20 (.mv (.t 0)),oq 21 (.mv (.t 0)),oq 22 (.nc (.t 21)),oq 23 (.fa 0 (.t 22)),oq 24 (.ld none (.t 23)),oq 25 (.mv (.t 1)),oq 26 (.conv .u8 (.t 25)),oq 27 (.bsl 1 [(.t 26)]),oe 28 (.app 5 1 1 [(.int .u8 0)] (.t 24) (.t 27)),oq 29 (.nc (.t 20)),oq 30 (.fa 0 (.t 29)),oz (.store 1 (.t 30) (.t 28))])
@[go_sem] def c40_7_wp:=wp_of c40_7.eq_1
@[go_sem] def c40_11_wp:=wp_of c40_11.eq_1
def c40:AFn:=⟨31,[],c40_11⟩
theorem c40_ok:compF Tryz.prog Tryz.f40=some c40:=by kernel_rfl
theorem a40 {args:List AV} {σ:ASt} {R:AV->ASt->Prop} (hl:args.length<=31) (h:c40_11.wp Tryz.prog (RetQ [] R) (init args) σ):ACalls Tryz.prog 40 args σ R:=aFq Tryz.func40 c40_ok hl h
/-! 43: (*tabular/vint.Writer).Bytes -/
def c43_3:ACode := .seq (.ops [ oq 2 (.mv (.v (.str [])))]) (.seq (.ops [ oq 3 (.mv (.t 0)),oq 4 (.nc (.t 3)),oq 5 (.fa 0 (.t 4)),oq 6 (.ld none (.t 5)),oq 7 (.b2s (.t 6)),oq 2 (.mv (.t 7))]) .ret)
@[go_sem] def c43_3_wp:=wp_of c43_3.eq_1
def c43:AFn:=⟨8,[.t 2],c43_3⟩
theorem c43_ok:compF Tryz.prog Tryz.f43=some c43:=by kernel_rfl
theorem a43 {args:List AV} {σ:ASt} {R:AV->ASt->Prop} (hl:args.length<=8) (h:c43_3.wp Tryz.prog (RetQ [.t 2] R) (init args) σ):ACalls Tryz.prog 43 args σ R:=aFq Tryz.func43 c43_ok hl h
/-! 44: (*tabular/vint.Writer).Rising -/
def c44_15:ACode := .seq (.ops [ oq 14 (.bin .lss (.t 13) (.t 12))]) (.seq (.cond (.t 14) .skip (.exit 0)) (.seq (.block 1 (.seq (.ops [ oq 15 (.mv (.t 13)),oq 16 (.ia 1 (.t 11) (.t 13)),oq 17 (.ld none (.t 16)),oq 4 (.mv (.t 15)),oq 5 (.mv (.t 17))]) (.seq (.ops [ oq 18 (.mv (.t 4)),oq 19 (.bin .eql (.t 18) (.v (.int .i64 0)))]) (.cond (.t 19) (.ops [ oq 20 (.mv (.t 0)),oq 21 (.mv (.t 5)),oe 22 (.call 40 [(.t 20),(.t 21)])]) (.ops [ oq 23 (.mv (.t 0)),oq 24 (.mv (.t 5)),oq 25 (.mv (.t 1)),oq 26 (.mv (.t 4)),oq 27 (.bin .sub (.t 26) (.v (.int .i64 1))),oq 28 (.ia 1 (.t 25) (.t 27)),oq 29 (.ld none (.t 28)),oq 30 (.bin .sub (.t 24) (.t 29)),oq 31 (.bin .sub (.t 30) (.v (.int .u64 1))),oe 32 (.call 40 [(.t 23),(.t 31)])]))))) (.ops [ oq 33 (.bin .add (.t 13) (.v (.int .i64 1))),oq 13 (.mv (.t 33))])))
def c44_19:ACode := .seq (.ops [ oq 6 (.mv (.t 0)),oq 7 (.mv (.t 1)),oq 8 (.len (.t 7)),oq 9 (.conv .u64 (.t 8)),oe 10 (.call 40 [(.t 6),(.t 9)])]) (.seq (.ops [ oq 11 (.mv (.t 1)),oq 12 (.len (.t 11)),oq 13 (.mv (.v (.int .i64 0)))]) (.block 0 (.loop c44_15)))
@[go_sem] def c44_15_wp:=wp_of c44_15.eq_1
@[go_sem] def c44_19_wp:=wp_of c44_19.eq_1
def c44:AFn:=⟨34,[],c44_19⟩
theorem c44_ok:compF Tryz.prog Tryz.f44=some c44:=by kernel_rfl
theorem a44 {args:List AV} {σ:ASt} {R:AV->ASt->Prop} (hl:args.length<=34) (h:c44_19.wp Tryz.prog (RetQ [] R) (init args) σ):ACalls Tryz.prog 44 args σ R:=aFq Tryz.func44 c44_ok hl h
/-! 115: (*tabular/vint.Writer).Int -/
def c115_0:ACode := .ops [ oq 4 (.mv (.t 0)),oq 5 (.mv (.t 1)),oq 6 (.conv .u64 (.t 5)),oq 7 (.bin .shl (.t 6) (.v (.int .u64 1))),oq 8 (.mv (.t 1)),oq 9 (.bin .shr (.t 8) (.v (.int .u64 63))),oq 10 (.conv .u64 (.t 9)),oq 11 (.bin .xor (.t 7) (.t 10)),oe 12 (.call 40 [(.t 4),(.t 11)])]
@[go_sem] def c115_0_wp:=wp_of c115_0.eq_1
def c115:AFn:=⟨13,[],c115_0⟩
theorem c115_ok:compF Tryz.prog Tryz.f115=some c115:=by kernel_rfl
theorem a115 {args:List AV} {σ:ASt} {R:AV->ASt->Prop} (hl:args.length<=13) (h:c115_0.wp Tryz.prog (RetQ [] R) (init args) σ):ACalls Tryz.prog 115 args σ R:=aFq Tryz.func115 c115_ok hl h
/-! 116: (*tabular/vint.Writer).Text -/
def c116_2:ACode := .seq (.ops [ oq 4 (.mv (.t 0)),oq 5 (.mv (.t 1)),oq 6 (.lenS (.t 5)),oq 7 (.conv .u64 (.t 6)),oe 8 (.call 40 [(.t 4),(.t 7)])]) (.ops [ oq 9 (.mv (.t 0)),oq 10 (.mv (.t 0)),oq 11 (.nc (.t 10)),oq 12 (.fa 0 (.t 11)),oq 13 (.ld none (.t 12)),oq 14 (.mv (.t 1)),oe 15 (.apps 5 (.t 13) (.t 14)),oq 16 (.nc (.t 9)),oq 17 (.fa 0 (.t 16)),oz (.store 1 (.t 17) (.t 15))])
@[go_sem] def c116_2_wp:=wp_of c116_2.eq_1
def c116:AFn:=⟨18,[],c116_2⟩
theorem c116_ok:compF Tryz.prog Tryz.f116=some c116:=by kernel_rfl
theorem a116 {args:List AV} {σ:ASt} {R:AV->ASt->Prop} (hl:args.length<=18) (h:c116_2.wp Tryz.prog (RetQ [] R) (init args) σ):ACalls Tryz.prog 116 args σ R:=aFq Tryz.func116 c116_ok hl h
end Go.A
namespace Go.A
open Go.Proofs Go.Vint
def W (σ0:ASt) (b:Nat) (l:List UInt8) (σ:ASt):Prop:=∃ k,Grown (σ0.set b (some (.obj [.sl k (bytesAV l)]))) σ k (bytesAV l).length 1
theorem W.cell {σ0 σ:ASt} {b:Nat} {l:List UInt8} {k:SK} (h:Grown (σ0.set b (some (.obj [.sl k (bytesAV l)]))) σ k (bytesAV l).length 1):σ b=some (.obj [.sl k (bytesAV l)]):=h.at (ASt.set_same _ _ _)
theorem vb_app (l m:List UInt8):bytesAV l++bytesAV m=bytesAV (l++m):=by simp [bytesAV]
theorem bytesAV_one {n:Int} (h0:0<=n) (h1:n<256) : [AV.int .u8 n]=bytesAV [u8Of n]:=by
 have:=u8_nat (n:=n.toNat) (by omega)
 simp only [bytesAV,u8Of,List.map_cons,List.map_nil,this]
 rw [Int.toNat_of_nonneg h0]
theorem W.app {σ0 σ:ASt} {b:Nat} {l m:List UInt8} {k k':SK} (h:Grown (σ0.set b (some (.obj [.sl k (bytesAV l)]))) σ k' (bytesAV l++bytesAV m).length 1) :
  W σ0 b (l++m) (σ.set b (some (.obj [.sl k' (bytesAV l++bytesAV m)]))):=by
 rw [vb_app] at h ⊢
 exact ⟨k',h.obj⟩
theorem or128 (u:Int):((BitVec.ofInt 8 (u % 256) ||| BitVec.ofInt 8 128).toNat:Int)=128+u % 128:=by
 have h:IntKind.wrap .u8 ((BitVec.ofInt 8 (u % 256) ||| BitVec.ofInt 8 128).toNat:Int)=128+u % 128:=or_128 u
 rwa [IntKind.wrap_u8,Int.emod_eq_of_lt (by omega) (by omega)] at h
theorem fold64 {n:Int} (h1 : -9223372036854775808<=n) (h2:n<=9223372036854775807) :
  ((BitVec.ofInt 64 (IntKind.wrap .u64 (IntKind.wrap .u64 n*2)) ^^^ BitVec.ofInt 64 (IntKind.wrap .u64 (n / 9223372036854775808))).toNat:Int)=foldI n:=by
 have h:IntKind.wrap .u64 ((BitVec.ofInt 64 (IntKind.wrap .u64 (IntKind.wrap .u64 n*2)) ^^^ BitVec.ofInt 64 (IntKind.wrap .u64 (n / 9223372036854775808))).toNat:Int)=foldI n:=fold_bits n h1 h2
 rwa [IntKind.wrap_u64,Int.emod_eq_of_lt (by omega) (by omega)] at h
theorem vappB {T:TypeId} {σ σ0:ASt} {k k2:SK} {xs z:List AV} {n m:Int} {K:AV->ASt->Prop} (h:Grown σ0 σ k xs.length 1) (hn:n=m) (h0:0<=m) (h1:m<256) (hl:xs.length<4611686018427)
  (hK:∀ k' σ',Grown σ0 σ' k' (xs++bytesAV [u8Of m]).length 1->K (.sl k' (xs++bytesAV [u8Of m])) σ'):appC T 1 1 z (.sl k xs) (.sl k2 [.int .u8 n]) σ K:=by
 subst hn
 rw [bytesAV_one h0 h1]
 exact appC_by h rfl rfl (by simp [bytesAV];omega) (by simp [bytesAV];omega) hK
theorem wrap8 (u:Int):IntKind.wrap .u8 u=u % 256:=IntKind.wrap_u8 u
theorem wuint_ok (σ0:ASt) (b:Nat) (u:Int) (l:List UInt8) (σ:ASt) (hW:W σ0 b l σ) (h0:0<=u) (h1:u<=18446744073709551615) (hl:l.length+(uintB u.toNat).length<=10000000) :
  ACalls Tryz.prog 40 [.ptr b 0,.int .u64 u] σ fun v σ'=>v = .tuple []/\W σ0 b (l++uintB u.toNat) σ':=by
 obtain ⟨q,hq⟩:∃ q,l++uintB u.toNat=q:=⟨_,rfl⟩
 have hql:q.length<=10000000:=by rw [<-hq];simpa using hl
 rw [hq]
 refine a40 (by simp) ?_
 simp (disch:=first|assumption|omega) only [go_sem]
 refine wLq (fun (i:Int×List UInt8) a σ'=>(0<=i.1/\i.1<=18446744073709551615/\i.2++uintB i.1.toNat=q)/\(a 0 = .ptr b 0/\a 1 = .int .u64 i.1)/\W σ0 b i.2 σ') (fun i=>i.1.toNat) (u,l) ⟨⟨h0,h1,hq⟩,?_,hW⟩ ?_
 ·simp (disch:=first|assumption|omega) only [go_sem]
 rintro ⟨u,l⟩ a σ ⟨⟨h0,h1,hq⟩,hf,k,hg⟩
 dsimp only at h0 h1 hq hf hg
 have hb:=W.cell hg
 have hll:l.length<=10000000:=by rw [<-hq] at hql;simp at hql;omega
 have hll':(bytesAV l).length<=10000000:=by simpa [bytesAV] using hll
 by_cases hu:127<u
 ·have hw:=wrap8 u
  simp (disch:=first|assumption|omega) only [go_sem,hf,hb,hu,hw]
  refine vappB hg (or128 u) (by omega) (by omega) (by omega) fun k' σ' hg'=>?_
  have hb':=(hg'.at (ASt.set_same _ _ _))
  simp (disch:=first|assumption|omega) only [go_sem,hf,hb']
  refine ⟨(u / 128,l ++ [u8Of (128+u % 128)]),by dsimp only;omega,⟨by dsimp only;omega,by dsimp only;omega,?_⟩,?_,W.app hg'⟩
  ·dsimp only
   rw [<-hq,uintB_j (u:=u) (by omega)]
   simp
  ·simp (disch:=first|assumption|omega) only [go_sem]
 ·have hw:=wrap8 u
  have hw2:u % 256=u:=by omega
  rw [hw2] at hw
  have hu':=uintB_i h0 (by omega)
  rw [hu'] at hq
  subst hq
  simp (disch:=first|assumption|omega) only [go_sem,hf,hb,hu,hw]
  refine vappB hg rfl (by omega) (by omega) (by omega) fun k' σ' hg'=>?_
  have hb':=(hg'.at (ASt.set_same _ _ _))
  simp (disch:=first|assumption|omega) only [go_sem,hb']
  exact retC_by (Drop.refl _) (.refl _) ⟨rfl,W.app hg'⟩
theorem wint_ok (σ0:ASt) (b:Nat) (n:Int) (l:List UInt8) (σ:ASt) (hW:W σ0 b l σ) (h1 : -9223372036854775808<=n) (h2:n<=9223372036854775807) (hl:l.length+10<=10000000) :
  ACalls Tryz.prog 115 [.ptr b 0,.int .i64 n] σ fun v σ'=>v = .tuple []/\W σ0 b (l++uintB (foldI n).toNat) σ':=by
 refine a115 (by simp) ?_
 obtain ⟨f0,f1⟩:=foldI_bd h1 h2
 simp (disch:=first|assumption|omega) only [go_sem]
 refine ACalls.of_eq (congrArg (fun x => [AV.ptr b 0,AV.int .u64 x]) (fold64 h1 h2)) ?_
 refine (wuint_ok σ0 b (foldI n) l σ hW f0 f1 (by have:=uintB_le f1;omega)).mono ?_
 rintro v σ' ⟨rfl,h⟩
 simp (disch:=first|assumption|omega) only [go_sem]
 exact retC_by (Drop.refl _) (.refl _) ⟨rfl,h⟩
theorem wtext_ok (σ0:ASt) (b:Nat) (s l:List UInt8) (σ:ASt) (hW:W σ0 b l σ) (hl:l.length+10+s.length<=10000000) :
  ACalls Tryz.prog 116 [.ptr b 0,.str s] σ fun v σ'=>v = .tuple []/\W σ0 b (l++textB s) σ':=by
 refine a116 (by simp) ?_
 simp (disch:=first|assumption|omega) only [go_sem]
 have hu:=uintB_le (u:=s.length) (by omega)
 rw [Int.toNat_natCast] at hu
 refine (wuint_ok σ0 b s.length l σ hW (by omega) (by omega) (by rw [Int.toNat_natCast];omega)).mono ?_
 rintro v σ' ⟨rfl,k,hg⟩
 rw [Int.toNat_natCast] at hg
 have hb:=W.cell hg
 simp (disch:=first|assumption|omega) only [go_sem,hb]
 have hlen:(bytesAV (l++uintB s.length)).length+s.length<=140737488355328:=by simp [bytesAV];omega
 refine appsC_by hg hlen fun k' σ' hg'=>?_
 have hb':=(hg'.at (ASt.set_same _ _ _))
 simp (disch:=first|assumption|omega) only [go_sem,hb']
 refine retC_by (Drop.refl _) (.refl _) ⟨rfl,?_⟩
 have:l++textB s=(l++uintB s.length)++s:=by simp [textB]
 rw [this]
 refine W.app (k:=k) ?_
 rw [List.length_append,bytesAV_length (l:=s)]
 exact hg'
theorem wbytes_ok (σ0:ASt) (b:Nat) (l:List UInt8) (σ:ASt) (hW:W σ0 b l σ):ACalls Tryz.prog 43 [.ptr b 0] σ fun v σ'=>v = .str l/\σ'=σ:=by
 obtain ⟨k,hg⟩:=hW
 have hb:=W.cell hg
 refine a43 (by simp) ?_
 simp (disch:=first|assumption|omega) only [go_sem,hb]
 exact retC_by (Drop.refl _) (.refl _) ⟨rfl,rfl⟩
theorem W.add {σ0 σ:ASt} {b c:Nat} {l:List UInt8} {r:Role} (h:W σ0 b l σ) (hc:σ c=none):W (σ0.set c (some r)) b l (σ.set c (some r))/\c≠b/\σ0 c=none:=by
 obtain ⟨k,hg⟩:=h
 have hb:=W.cell hg
 have hcb:c≠b:=by rintro rfl;rw [hb] at hc;cases hc
 have h0:σ0 c=none:=by
  rcases hg with ⟨_,_,rfl⟩|⟨t,T,_,_,rfl⟩
  ·rwa [ASt.set_ne hcb] at hc
  ·obtain ⟨_,_,hc⟩:=set_none hc
   rwa [ASt.set_ne hcb] at hc
 refine ⟨⟨k,?_⟩,hcb,h0⟩
 rcases hg with ⟨h1,h2,rfl⟩|⟨t,T,h1,h2,rfl⟩
 ·exact .inl ⟨h1,h2,set_swap (Ne.symm hcb)⟩
 ·obtain ⟨h3,h4,_⟩:=set_none hc
  obtain ⟨h5,h6,h7⟩:=set_none h2
  refine .inr ⟨t,T,h1,?_,?_⟩
  ·rw [ASt.set_ne h5,ASt.set_ne (Ne.symm h3)];exact h7
  ·rw [set_swap h4,set_swap (Ne.symm hcb)]
theorem W.off {σ0 σ:ASt} {b c:Nat} {l:List UInt8} {r:Role} (h:W (σ0.set c (some r)) b l σ) (hcb:c≠b) (hc:σ0 c=none):∃ σ',Drop σ σ'/\W σ0 b l σ'/\σ=σ'.set c (some r):=by
 obtain ⟨k,hg⟩:=h
 rcases hg with ⟨h1,h2,rfl⟩|⟨t,T,h1,h2,rfl⟩
 ·refine ⟨σ0.set b (some (.obj [.sl k (bytesAV l)])),?_,⟨k,.inl ⟨h1,h2,rfl⟩⟩,(set_swap hcb)⟩
  rw [set_swap hcb]
  exact Drop.set (by rw [ASt.set_ne hcb];exact hc)
 ·obtain ⟨h3,h4,h5⟩:=set_none h2
  obtain ⟨h6,h7,h8⟩:=set_none h5
  have e:((σ0.set c (some r)).set b (some (.obj [.sl k (bytesAV l)]))).set t (some (.tok ((bytesAV l).length*1)))=((σ0.set b (some (.obj [.sl k (bytesAV l)]))).set t (some (.tok ((bytesAV l).length*1)))).set c (some r):=by
   rw [set_swap hcb,set_swap h7]
  refine ⟨(σ0.set b (some (.obj [.sl k (bytesAV l)]))).set t (some (.tok ((bytesAV l).length*1))),?_,⟨k,.inr ⟨t,T,h1,?_,rfl⟩⟩,e⟩
  ·rw [e]
   exact Drop.set (by rw [ASt.set_ne h7,ASt.set_ne hcb];exact hc)
  ·rw [ASt.set_ne h3];exact h8
theorem W.role {σ0 σ:ASt} {b c:Nat} {l:List UInt8} {r:Role} (h:W (σ0.set c (some r)) b l σ) (hcb:c≠b):σ c=some r:=by
 obtain ⟨k,hg⟩:=h
 exact hg.at (by rw [ASt.set_ne hcb,ASt.set_same])
def u64sAV (L:List Int):AV := .sl .shr (L.map (AV.int .u64))
theorem wrising_ok (σ0:ASt) (b:Nat) (L:List Int) (l:List UInt8) (σ:ASt) (hW:W σ0 b l σ) (hL:Rises L) (hn:L.length<=1000) (hl:l.length+10+10*L.length<=9000000) :
  ACalls Tryz.prog 44 [.ptr b 0,u64sAV L] σ fun v σ'=>v = .tuple []/\W σ0 b (l++risingB L) σ':=by
 refine a44 (by simp) ?_
 have hu:=uintB_le (u:=L.length) (by omega)
 rw [Int.toNat_natCast] at hu
 have hgl:=gaps_length L
 have hgb:=gaps_bd hL
 simp (disch:=first|assumption|omega) only [go_sem,u64sAV]
 refine (wuint_ok σ0 b L.length l σ hW (by omega) (by omega) (by rw [Int.toNat_natCast];omega)).mono ?_
 rintro v σ1 ⟨rfl,hW1⟩
 rw [Int.toNat_natCast] at hW1
 simp (disch:=first|assumption|omega) only [go_sem]
 have hnl:∀ i,(numsB ((gaps L).take i)).length<=10*L.length:=fun i=>by
  have:=numsB_len ((gaps L).take i) (fun x hx=>hgb x (List.mem_of_mem_take hx))
  simp at this
  omega
 refine wLq (fun (i:Nat) a σ'=>i<=L.length/\(a 0 = .ptr b 0/\a 1 = .sl .shr (L.map (AV.int .u64))/\a 11 = .sl .shr (L.map (AV.int .u64))/\a 12 = .int .i64 L.length/\a 13 = .int .i64 i)/\W σ0 b (l++uintB L.length++numsB ((gaps L).take i)) σ')
  (fun i=>L.length-i) 0 ⟨Nat.zero_le _,?_,by simpa [numsB] using hW1⟩ ?_
 ·simp (disch:=first|assumption|omega) only [go_sem]
 rintro i a σ ⟨hi,hf,hW⟩
 have hni:=hnl i
 by_cases hlt:i<L.length
 ·have hlt':(i:Int)<L.length:=by omega
  have hidx : L[i]? = some (L[i]'hlt) := List.getElem?_eq_getElem hlt
  obtain ⟨x, hx⟩ : ∃ x, L[i]'hlt = x := ⟨_, rfl⟩
  rw [hx] at hidx
  obtain ⟨x0,x1⟩:=hL.at_ hidx
  have hbx:=uintB_le x1
  have hmap:(L.map (AV.int .u64))[i]? = some (.int .u64 x):=by rw [List.getElem?_map,hidx];rfl
  by_cases hi0:i=0
  ·subst hi0
   have hz:((0:Nat):Int)=0:=rfl
   simp (disch:=first|assumption|omega) only [go_sem,hf,hmap,hz]
   refine (wuint_ok σ0 b x _ σ hW x0 x1 (by simp only [List.length_append];omega)).mono ?_
   rintro v σ1 ⟨rfl,hW1⟩
   simp (disch:=first|assumption|omega) only [go_sem,hf]
   refine ⟨0+1,by omega,by omega,?_,?_⟩
   ·simp (disch:=first|assumption|omega) only [go_sem]
   ·rw [numsB_snoc (gaps_zero hidx),← List.append_assoc];exact hW1
  ·obtain ⟨j,hji⟩:∃ j,i=j+1:=⟨i-1,by omega⟩
   have hj : L[j]? = some (L[j]'(by omega)) := List.getElem?_eq_getElem (by omega)
   obtain ⟨y, hy⟩ : ∃ y, L[j]'(by omega) = y := ⟨_, rfl⟩
   rw [hy] at hj
   obtain ⟨y0,y1⟩:=hL.at_ hj
   have hxy:=hL.2 j y x hj (hji▸hidx)
   have hbx':=uintB_le (u:=x-y-1) (by omega)
   have hmapj:(L.map (AV.int .u64))[j]? = some (.int .u64 y):=by rw [List.getElem?_map,hj];rfl
   have hnz:¬ (i:Int)=0:=by omega
   have hsub:(i:Int)-1=j:=by omega
   simp (disch:=first|assumption|omega) only [go_sem,hf,hlt',hmap,hnz,hsub,hmapj]
   refine (wuint_ok σ0 b (x-y-1) _ σ hW (by omega) (by omega) (by simp only [List.length_append];omega)).mono ?_
   rintro v σ1 ⟨rfl,hW1⟩
   simp (disch:=first|assumption|omega) only [go_sem,hf]
   refine ⟨i+1,by omega,by omega,?_,?_⟩
   ·simp (disch:=first|assumption|omega) only [go_sem]
   ·have:=numsB_snoc (gaps_succ hj (hji▸hidx))
    rw [hji,this,← List.append_assoc,← hji];exact hW1
 ·have hlt':¬ (i:Int)<L.length:=by omega
  have e:(gaps L).take i=gaps L:=List.take_of_length_le (by omega)
  rw [e,List.append_assoc] at hW
  simp (disch:=first|assumption|omega) only [go_sem,hf,hlt']
  exact retC_by (Drop.refl _) (.refl _) ⟨rfl,hW⟩
end Go.A
namespace Go.A
open Go.Proofs
/-! 52: tabular/vint.Read -/
def c52_3:ACode := .seq (.ops [ oq 2 (.mv (.v .nilp))]) (.seq (.ops [ oq 3 (.mv (.t 0)),oq 4 (.build [(.str []),(.int .i64 0),(.int .i64 0)] [(0,1,(.t 3))]),oe 5 (.box (.t 4)),oq 2 (.mv (.t 5))]) .ret)
@[go_sem] def c52_3_wp:=wp_of c52_3.eq_1
def c52:AFn:=⟨6,[.t 2],c52_3⟩
theorem c52_ok:compF Tryz.prog Tryz.f52=some c52:=by kernel_rfl
theorem a52 {args:List AV} {σ:ASt} {R:AV->ASt->Prop} (hl:args.length<=6) (h:c52_3.wp Tryz.prog (RetQ [.t 2] R) (init args) σ):ACalls Tryz.prog 52 args σ R:=aFq Tryz.func52 c52_ok hl h
/-! 53: (*tabular/vint.Reader).Uint -/
def c53_32:ACode := .seq (.seq (.ops [ oq 6 (.mv (.t 0)),oq 7 (.nc (.t 6)),oq 8 (.fa 2 (.t 7)),oq 9 (.ld none (.t 8)),oq 10 (.bin .eql (.t 9) (.v (.int .i64 0)))]) (.cond (.t 10) .skip (.exit 0))) (.seq (.block 1 (.seq (.seq (.ops [ oq 13 (.mv (.t 0)),oq 14 (.nc (.t 13)),oq 15 (.fa 1 (.t 14)),oq 16 (.ld none (.t 15)),oq 17 (.mv (.t 4)),oq 18 (.bin .add (.t 16) (.t 17)),oq 19 (.mv (.t 0)),oq 20 (.nc (.t 19)),oq 21 (.fa 0 (.t 20)),oq 22 (.ld none (.t 21)),oq 23 (.lenS (.t 22)),oq 24 (.bin .geq (.t 18) (.t 23))]) (.cond (.t 24) (.seq (.ops [ oq 25 (.mv (.t 0)),oe 26 (.call 93 [(.t 25),(.v (.int .i64 2))])]) (.exit 0)) .skip)) (.seq (.ops [ oq 27 (.mv (.t 0)),oq 28 (.nc (.t 27)),oq 29 (.fa 0 (.t 28)),oq 30 (.ld none (.t 29)),oq 31 (.mv (.t 0)),oq 32 (.nc (.t 31)),oq 33 (.fa 1 (.t 32)),oq 34 (.ld none (.t 33)),oq 35 (.mv (.t 4)),oq 36 (.bin .add (.t 34) (.t 35)),oq 37 (.idx (.t 30) (.t 36)),oq 5 (.mv (.t 37))]) (.seq (.seq (.ops [ oq 38 (.mv (.t 4)),oq 39 (.bin .eql (.t 38) (.v (.int .i64 9))),oq 40 (.mv (.t 39)),⟨some 41,some (40,true),.q (.mv (.t 5)),[]⟩,⟨some 42,some (40,true),.q (.bin .gtr (.t 41) (.v (.int .u8 1))),[]⟩,oq 43 (.pick (.t 40) (.t 42) (.v (.bool false))),oq 44 (.mv (.t 43)),⟨some 45,some (44,false),.q (.mv (.t 4)),[]⟩,⟨some 46,some (44,false),.q (.bin .gtr (.t 45) (.v (.int .i64 0))),[]⟩,⟨some 47,some (44,false),.q (.mv (.t 46)),[]⟩,⟨some 48,some (47,true),.q (.mv (.t 5)),[]⟩,⟨some 49,some (47,true),.q (.bin .eql (.t 48) (.v (.int .u8 0))),[]⟩,⟨some 50,some (44,false),.q (.pick (.t 47) (.t 49) (.v (.bool false))),[]⟩,oq 51 (.pick (.t 44) (.v (.bool true)) (.t 50))]) (.cond (.t 51) (.seq (.ops [ oq 52 (.mv (.t 0)),oe 53 (.call 93 [(.t 52),(.v (.int .i64 3))])]) (.exit 0)) .skip)) (.seq (.ops [ oq 54 (.mv (.t 3)),oq 55 (.mv (.t 5)),oq 56 (.bin .and (.t 55) (.v (.int .u8 127))),oq 57 (.conv .u64 (.t 56)),oq 58 (.mv (.t 4)),oq 59 (.bin .mul (.v (.int .i64 7)) (.t 58)),oq 60 (.bin .shl (.t 57) (.t 59)),oq 61 (.bin .or (.t 54) (.t 60)),oq 3 (.mv (.t 61))]) (.seq (.ops [ oq 62 (.mv (.t 5)),oq 63 (.bin .lss (.t 62) (.v (.int .u8 128)))]) (.cond (.t 63) (.seq (.ops [ oq 64 (.mv (.t 0)),oq 65 (.nc (.t 64)),oq 66 (.fa 1 (.t 65)),oq 67 (.ld none (.t 66)),oq 68 (.mv (.t 4)),oq 69 (.bin .add (.t 68) (.v (.int .i64 1))),oq 70 (.bin .add (.t 67) (.t 69)),oq 71 (.nc (.t 64)),oq 72 (.fa 1 (.t 71)),oz (.store 1 (.t 72) (.t 70))]) (.seq (.ops [ oq 73 (.mv (.t 3)),oq 2 (.mv (.t 73))]) .ret)) .skip))))))) (.ops [ oq 11 (.mv (.t 4)),oq 12 (.bin .add (.t 11) (.v (.int .i64 1))),oq 4 (.mv (.t 12))]))
def c53_40:ACode := .seq (.ops [ oq 2 (.mv (.v (.int .u64 0)))]) (.seq (.ops [ oq 3 (.mv (.v (.int .u64 0)))]) (.seq (.seq (.ops [ oq 4 (.mv (.v (.int .i64 0)))]) (.block 0 (.loop c53_32))) (.seq (.ops [ oq 2 (.mv (.v (.int .u64 0)))]) .ret)))
@[go_sem] def c53_32_wp:=wp_of c53_32.eq_1
@[go_sem] def c53_40_wp:=wp_of c53_40.eq_1
def c53:AFn:=⟨74,[.t 2],c53_40⟩
theorem c53_ok:compF Tryz.prog Tryz.f53=some c53:=by kernel_rfl
theorem a53 {args:List AV} {σ:ASt} {R:AV->ASt->Prop} (hl:args.length<=74) (h:c53_40.wp Tryz.prog (RetQ [.t 2] R) (init args) σ):ACalls Tryz.prog 53 args σ R:=aFq Tryz.func53 c53_ok hl h
/-! 54: (*tabular/vint.Reader).Err -/
def c54_3:ACode := .seq (.ops [ oq 2 (.mv (.v (.int .i64 0)))]) (.seq (.ops [ oq 3 (.mv (.t 0)),oq 4 (.nc (.t 3)),oq 5 (.fa 2 (.t 4)),oq 6 (.ld none (.t 5)),oq 2 (.mv (.t 6))]) .ret)
@[go_sem] def c54_3_wp:=wp_of c54_3.eq_1
def c54:AFn:=⟨7,[.t 2],c54_3⟩
theorem c54_ok:compF Tryz.prog Tryz.f54=some c54:=by kernel_rfl
theorem a54 {args:List AV} {σ:ASt} {R:AV->ASt->Prop} (hl:args.length<=7) (h:c54_3.wp Tryz.prog (RetQ [.t 2] R) (init args) σ):ACalls Tryz.prog 54 args σ R:=aFq Tryz.func54 c54_ok hl h
/-! 57: (*tabular/vint.Reader).Done -/
def c57_8:ACode := .seq (.ops [ oq 2 (.mv (.v (.int .i64 0)))]) (.seq (.seq (.ops [ oq 3 (.mv (.t 0)),oq 4 (.nc (.t 3)),oq 5 (.fa 1 (.t 4)),oq 6 (.ld none (.t 5)),oq 7 (.mv (.t 0)),oq 8 (.nc (.t 7)),oq 9 (.fa 0 (.t 8)),oq 10 (.ld none (.t 9)),oq 11 (.lenS (.t 10)),oq 12 (.bin .lss (.t 6) (.t 11))]) (.cond (.t 12) (.ops [ oq 13 (.mv (.t 0)),oe 14 (.call 93 [(.t 13),(.v (.int .i64 3))])]) .skip)) (.seq (.ops [ oq 15 (.mv (.t 0)),oq 16 (.nc (.t 15)),oq 17 (.fa 2 (.t 16)),oq 18 (.ld none (.t 17)),oq 2 (.mv (.t 18))]) .ret))
@[go_sem] def c57_8_wp:=wp_of c57_8.eq_1
def c57:AFn:=⟨19,[.t 2],c57_8⟩
theorem c57_ok:compF Tryz.prog Tryz.f57=some c57:=by kernel_rfl
theorem a57 {args:List AV} {σ:ASt} {R:AV->ASt->Prop} (hl:args.length<=19) (h:c57_8.wp Tryz.prog (RetQ [.t 2] R) (init args) σ):ACalls Tryz.prog 57 args σ R:=aFq Tryz.func57 c57_ok hl h
/-! 93: (*tabular/vint.Reader).fail -/
def c93_3:ACode := .seq (.ops [ oq 4 (.mv (.t 0)),oq 5 (.nc (.t 4)),oq 6 (.fa 2 (.t 5)),oq 7 (.ld none (.t 6)),oq 8 (.bin .eql (.t 7) (.v (.int .i64 0)))]) (.cond (.t 8) (.ops [ oq 9 (.mv (.t 0)),oq 10 (.mv (.t 1)),oq 11 (.nc (.t 9)),oq 12 (.fa 2 (.t 11)),oz (.store 1 (.t 12) (.t 10))]) .skip)
@[go_sem] def c93_3_wp:=wp_of c93_3.eq_1
def c93:AFn:=⟨13,[],c93_3⟩
theorem c93_ok:compF Tryz.prog Tryz.f93=some c93:=by kernel_rfl
theorem a93 {args:List AV} {σ:ASt} {R:AV->ASt->Prop} (hl:args.length<=13) (h:c93_3.wp Tryz.prog (RetQ [] R) (init args) σ):ACalls Tryz.prog 93 args σ R:=aFq Tryz.func93 c93_ok hl h
end Go.A
namespace Go.A
open Go.Proofs Go.Vint
def rd (s:List UInt8) (p:Nat) (e:Int):Option Role:=some (.obj [.str s,.int .i64 p,.int .i64 e])
theorem set_self {σ:ASt} {b:Nat} {r:Option Role} (h:σ b=r):σ.set b r=σ:=by
 funext x
 simp only [ASt.set]
 split
 ·rename_i hx;rw [hx,h]
 ·rfl
def firstErr (err e:Int):Int:=if err=0 then e else err
theorem rread_ok (s:List UInt8) (σ:ASt):ACalls Tryz.prog 52 [.str s] σ fun v σ'=>∃ b,v = .ptr b 0/\σ b=none/\σ'=σ.set b (rd s 0 0):=by
 refine a52 (by simp) ?_
 simp (disch:=first|assumption|omega) only [go_sem]
 refine boxC_by rfl fun b hb=>?_
 simp (disch:=first|assumption|omega) only [go_sem]
 exact retC_by (Drop.refl _) (.refl _) ⟨b,rfl,hb,rfl⟩
theorem rerr_ok (s:List UInt8) (p:Nat) (e:Int) (b:Nat) (σ:ASt) (hb:σ b=rd s p e):ACalls Tryz.prog 54 [.ptr b 0] σ fun v σ'=>v = .int .i64 e/\σ'=σ:=by
 refine a54 (by simp) ?_
 simp (disch:=first|assumption|omega) only [go_sem,hb,rd]
 exact retC_by (Drop.refl _) (.refl _) ⟨rfl,rfl⟩
theorem rfail_ok (s:List UInt8) (p:Nat) (e e0:Int) (b:Nat) (σ:ASt) (hb:σ b=rd s p e):ACalls Tryz.prog 93 [.ptr b 0,.int .i64 e0] σ fun v σ'=>v = .tuple []/\σ'=σ.set b (rd s p (firstErr e e0)):=by
 refine a93 (by simp) ?_
 by_cases he:e=0
 ·simp (disch:=first|assumption|omega) only [go_sem,hb,rd,he]
  exact retC_by (Drop.refl _) (.refl _) ⟨rfl,by simp [firstErr]⟩
 ·simp (disch:=first|assumption|omega) only [go_sem,hb,rd,he]
  refine retC_by (Drop.refl _) (.refl _) ⟨rfl,?_⟩
  rw [show firstErr e e0=e by simp [firstErr,he]]
  exact (set_self hb).symm
theorem rdone_ok (s:List UInt8) (p:Nat) (e:Int) (b:Nat) (σ:ASt) (hb:σ b=rd s p e):ACalls Tryz.prog 57 [.ptr b 0] σ fun v σ'=>v = .int .i64 (if p<s.length then firstErr e 3 else e)/\σ'=σ.set b (rd s p (if p<s.length then firstErr e 3 else e)):=by
 refine a57 (by simp) ?_
 by_cases h:p<s.length
 ·have h':(p:Int)<s.length:=by omega
  rw [if_pos h]
  simp (disch:=first|assumption|omega) only [go_sem,hb,rd,h']
  refine (rfail_ok s p e 3 b _ hb).mono ?_
  rintro v σ' ⟨rfl,rfl⟩
  simp (disch:=first|assumption|omega) only [go_sem,rd]
  exact retC_by (Drop.refl _) (.refl _) ⟨rfl,rfl⟩
 ·have h':¬ (p:Int)<s.length:=by omega
  rw [if_neg h]
  simp (disch:=first|assumption|omega) only [go_sem,hb,rd,h']
  exact retC_by (Drop.refl _) (.refl _) ⟨rfl,(set_self hb).symm⟩
theorem or_sh {k U:Nat} {c:UInt8} (hk:k<=9) (hU:U<128 ^ k) (hc:k=9->(c.toNat:Int)<=1) :
  ((BitVec.ofInt 64 (U:Int) ||| BitVec.ofInt 64 (IntKind.wrap .u64 (((BitVec.ofInt 8 (c.toNat:Int) &&& BitVec.ofInt 8 127).toNat:Int)*2 ^ (7*(k:Int)).toNat))).toNat:Int)=((U+c.toNat % 128*128 ^ k:Nat):Int):=by
 have h:=or_shift hk hU hc
 rw [show (7*(k:Int)).toNat=7*k by omega]
 have e1:bits BinOp.and IntKind.u8 (c.toNat:Int) 127=((BitVec.ofInt 8 (c.toNat:Int) &&& BitVec.ofInt 8 127).toNat:Int):=by
  show IntKind.wrap .u8 ((BitVec.ofInt 8 (c.toNat:Int) &&& BitVec.ofInt 8 127).toNat:Int)=_
  rw [IntKind.wrap_u8,Int.emod_eq_of_lt (by omega) (by omega)]
 rw [e1,show IntKind.wrap .u64 ((BitVec.ofInt 8 (c.toNat:Int) &&& BitVec.ofInt 8 127).toNat:Int)=((BitVec.ofInt 8 (c.toNat:Int) &&& BitVec.ofInt 8 127).toNat:Int) by
  rw [IntKind.wrap_u64,Int.emod_eq_of_lt (by omega) (by omega)]] at h
 have h':IntKind.wrap .u64 ((BitVec.ofInt 64 (U:Int) ||| BitVec.ofInt 64 (IntKind.wrap .u64 (((BitVec.ofInt 8 (c.toNat:Int) &&& BitVec.ofInt 8 127).toNat:Int)*2 ^ (7*k)))).toNat:Int)=_:=h
 rwa [IntKind.wrap_u64,Int.emod_eq_of_lt (by omega) (by omega)] at h'
set_option maxHeartbeats 1000000 in
theorem ruint_ok (s:List UInt8) (p:Nat) (e:Int) (b:Nat) (σ:ASt) (hb:σ b=rd s p e) (hs:s.length<=4611686018427387904) (hp:p<=s.length) :
  ACalls Tryz.prog 53 [.ptr b 0] σ fun v σ'=>v = .int .u64 (readU s p e).1/\σ'=σ.set b (rd s (readU s p e).2.1 (readU s p e).2.2):=by
 refine a53 (by simp) ?_
 by_cases he:e=0
 ·subst he
  obtain ⟨q,hq⟩:∃ q,scan 0 0 (s.drop p)=q:=⟨_,rfl⟩
  rw [readU_of hq]
  dsimp only
  simp (disch:=first|assumption|omega) only [go_sem]
  refine wLq (fun (i:Nat×Nat) a σ'=>(i.1<=9/\p+i.1<=s.length/\i.2<128 ^ i.1/\scan i.1 i.2 (s.drop (p+i.1))=q)/\(a 0 = .ptr b 0/\a 3 = .int .u64 i.2/\a 4 = .int .i64 i.1)/\σ'=σ)
   (fun i=>10-i.1) (0,0) ⟨⟨by simp,by simpa using hp,by simp,by simpa using hq⟩,?_,rfl⟩ ?_
  ·simp (disch:=first|assumption|omega) only [go_sem]
  rintro ⟨k,U⟩ a σ1 ⟨⟨hk,hpk,hU,hsc⟩,hf,rfl⟩
  dsimp only at hk hpk hU hsc hf
  by_cases hlt:p+k<s.length
  ·have hlt':(p:Int)+k<s.length:=by omega
   have hidx : s[p + k]? = some (s[p + k]'hlt) := List.getElem?_eq_getElem hlt
   obtain ⟨c, hc⟩ : ∃ c, s[p + k]'hlt = c := ⟨_, rfl⟩
   rw [hc] at hidx
   have hidx':s[((p:Int)+k).toNat]? = some c:=by rw [show ((p:Int)+k).toNat=p+k by omega];exact hidx
   have hcb:=u8_lt c
   rw [scan_step hidx] at hsc
   have r0:¬ (p:Int)+k<0:=by omega
   by_cases hbad:(k=9/\1<c.toNat)\/(0<k/\c.toNat=0)
   ·rw [if_pos hbad] at hsc
    subst hsc
    repeat' (first|(simp (disch:=first|assumption|omega) only [go_sem,hf,hb,rd,hidx'])|refine (rfail_ok s p 0 3 b _ hb).mono ?_|with_reducible refine gC_d (fun h=>?_) (fun h=>?_)|with_reducible refine gC_dn (fun h=>?_) (fun h=>?_)|with_reducible refine condC_d (fun h=>?_) (fun h=>?_)|with_reducible refine condC_n (fun h=>?_) (fun h=>?_)|with_reducible refine condC_b (fun h=>?_) (fun h=>?_)|with_reducible refine boxC_by ?_ fun b hb=>?_)
    all_goals first
     | (exfalso;omega)
     | (rintro v σ' ⟨rfl,rfl⟩
        simp (disch:=first|assumption|omega) only [go_sem,firstErr]
        exact retC_by (Drop.refl _) (.refl _) ⟨rfl,by simp [rd]⟩)
   ·rw [if_neg hbad] at hsc
    have hor:=or_sh (k:=k) (U:=U) (c:=c) (by omega) hU (by omega)
    have hbd:=or_shift_bd (k:=k) (U:=U) (c:=c) hU
    have hmn:mnb (7*(k:Int)).toNat 64=(7*(k:Int)).toNat:=mnb_le (by omega)
    by_cases hc7:c.toNat<128
    ·have hc7':(c.toNat:Int)<128:=by omega
     rw [if_pos hc7] at hsc
     subst hsc
     repeat' (first|(simp (disch:=first|assumption|omega) only [go_sem,hf,hb,rd,hidx',hmn,hc7'])|with_reducible refine gC_d (fun h=>?_) (fun h=>?_)|with_reducible refine gC_dn (fun h=>?_) (fun h=>?_)|with_reducible refine condC_d (fun h=>?_) (fun h=>?_)|with_reducible refine condC_n (fun h=>?_) (fun h=>?_)|with_reducible refine condC_b (fun h=>?_) (fun h=>?_)|with_reducible refine boxC_by ?_ fun b hb=>?_)
     all_goals first
      | (exfalso;omega)
      | exact retC_by (Drop.refl _) (.refl _) ⟨congrArg (AV.int .u64) hor,rfl⟩
    ·have hc7':¬ (c.toNat:Int)<128:=by omega
     rw [if_neg hc7] at hsc
     repeat' (first|(simp (disch:=first|assumption|omega) only [go_sem,hf,hb,rd,hidx',hmn,hc7'])|with_reducible refine gC_d (fun h=>?_) (fun h=>?_)|with_reducible refine gC_dn (fun h=>?_) (fun h=>?_)|with_reducible refine condC_d (fun h=>?_) (fun h=>?_)|with_reducible refine condC_n (fun h=>?_) (fun h=>?_)|with_reducible refine condC_b (fun h=>?_) (fun h=>?_)|with_reducible refine boxC_by ?_ fun b hb=>?_)
     all_goals first
      | (exfalso;omega)
      | (refine ⟨(k+1,U+c.toNat % 128*128 ^ k),by dsimp only;omega,⟨by dsimp only;omega,by dsimp only;omega,hbd,hsc⟩,congrArg (AV.int .u64) hor,rfl⟩)
  ·have hlt':¬ (p:Int)+k<s.length:=by omega
   rw [scan_stop (by omega)] at hsc
   subst hsc
   simp (disch:=first|assumption|omega) only [go_sem,hf,hb,rd]
   refine (rfail_ok s p 0 2 b _ hb).mono ?_
   rintro v σ' ⟨rfl,rfl⟩
   simp (disch:=first|assumption|omega) only [go_sem,firstErr]
   exact retC_by (Drop.refl _) (.refl _) ⟨rfl,by simp [rd]⟩
 ·have hr:readU s p e=(0,p,e):=by unfold readU;rw [if_pos he]
  rw [hr]
  dsimp only
  simp (disch:=first|assumption|omega) only [go_sem]
  refine wLq (fun (i:Unit) a σ'=>a 0 = .ptr b 0/\σ'=σ) (fun _=>0) () ⟨by simp (disch:=first|assumption|omega) only [go_sem],rfl⟩ ?_
  rintro ⟨⟩ a σ1 ⟨h0,rfl⟩
  simp (disch:=first|assumption|omega) only [go_sem,h0,hb,rd,he]
  exact retC_by (Drop.refl _) (.refl _) ⟨rfl,(set_self hb).symm⟩
end Go.A
namespace Go.A
open Go.Proofs
/-! 55: (*tabular/vint.Reader).Rising -/
def c55_15:ACode := .seq (.seq (.ops [ oq 11 (.mv (.t 7)),oq 12 (.mv (.t 5)),oq 13 (.bin .lss (.t 11) (.t 12)),oq 14 (.mv (.t 13)),⟨some 15,some (14,true),.q (.mv (.t 0)),[]⟩,⟨some 16,some (14,true),.q (.nc (.t 15)),[]⟩,⟨some 17,some (14,true),.q (.fa 2 (.t 16)),[]⟩,⟨some 18,some (14,true),.q (.ld none (.t 17)),[]⟩,⟨some 19,some (14,true),.q (.bin .eql (.t 18) (.v (.int .i64 0))),[]⟩,oq 20 (.pick (.t 14) (.t 19) (.v (.bool false)))]) (.cond (.t 20) .skip (.exit 0))) (.seq (.block 1 (.seq (.ops [ oq 23 (.mv (.t 7)),oq 24 (.bin .eql (.t 23) (.v (.int .i64 0)))]) (.cond (.t 24) (.ops [ oq 25 (.mv (.t 6)),oq 26 (.mv (.t 0)),oe 27 (.call 53 [(.t 26)]),oq 28 (.bsl 1 [(.t 27)]),oe 29 (.app 94 1 8 [(.int .u64 0)] (.t 25) (.t 28)),oq 6 (.mv (.t 29))]) (.ops [ oq 30 (.mv (.t 6)),oq 31 (.mv (.t 0)),oq 32 (.mv (.t 6)),oq 33 (.mv (.t 7)),oq 34 (.bin .sub (.t 33) (.v (.int .i64 1))),oq 35 (.ia 1 (.t 32) (.t 34)),oq 36 (.ld none (.t 35)),oe 37 (.call 95 [(.t 31),(.t 36)]),oq 38 (.bsl 1 [(.t 37)]),oe 39 (.app 94 1 8 [(.int .u64 0)] (.t 30) (.t 38)),oq 6 (.mv (.t 39))])))) (.ops [ oq 21 (.mv (.t 7)),oq 22 (.bin .add (.t 21) (.v (.int .i64 1))),oq 7 (.mv (.t 22))]))
def c55_26:ACode := .seq (.seq (.ops [ oq 40 (.mv (.t 0)),oq 41 (.nc (.t 40)),oq 42 (.fa 2 (.t 41)),oq 43 (.ld none (.t 42)),oq 44 (.bin .neq (.t 43) (.v (.int .i64 0)))]) (.cond (.t 44) (.seq (.ops [ oq 4 (.mv (.v (.sl .full [])))]) .ret) .skip)) (.seq (.ops [ oq 45 (.mv (.t 6)),oq 4 (.mv (.t 45))]) .ret)
def c55_30:ACode := .seq (.ops [ oq 4 (.mv (.v (.sl .full [])))]) (.seq (.ops [ oq 8 (.mv (.t 0)),oq 9 (.mv (.t 1)),oe 10 (.call 94 [(.t 8),(.t 9)]),oq 5 (.mv (.t 10))]) (.seq (.ops [ oq 6 (.mv (.v (.sl .full [])))]) (.seq (.seq (.ops [ oq 7 (.mv (.v (.int .i64 0)))]) (.block 0 (.loop c55_15))) c55_26)))
@[go_sem] def c55_15_wp:=wp_of c55_15.eq_1
@[go_sem] def c55_26_wp:=wp_of c55_26.eq_1
@[go_sem] def c55_30_wp:=wp_of c55_30.eq_1
def c55:AFn:=⟨46,[.t 4],c55_30⟩
theorem c55_ok:compF Tryz.prog Tryz.f55=some c55:=by kernel_rfl
theorem a55 {args:List AV} {σ:ASt} {R:AV->ASt->Prop} (hl:args.length<=46) (h:c55_30.wp Tryz.prog (RetQ [.t 4] R) (init args) σ):ACalls Tryz.prog 55 args σ R:=aFq Tryz.func55 c55_ok hl h
/-! 94: (*tabular/vint.Reader).count -/
def c94_16:ACode := .seq (.ops [ oq 4 (.mv (.v (.int .i64 0)))]) (.seq (.ops [ oq 6 (.mv (.t 0)),oe 7 (.call 53 [(.t 6)]),oq 5 (.mv (.t 7))]) (.seq (.seq (.ops [ oq 8 (.mv (.t 0)),oq 9 (.nc (.t 8)),oq 10 (.fa 2 (.t 9)),oq 11 (.ld none (.t 10)),oq 12 (.bin .eql (.t 11) (.v (.int .i64 0))),oq 13 (.mv (.t 12)),⟨some 14,some (13,true),.q (.mv (.t 5)),[]⟩,⟨some 15,some (13,true),.q (.mv (.t 1)),[]⟩,⟨some 16,some (13,true),.q (.mnx true (.t 15) (.v (.int .i64 0))),[]⟩,⟨some 17,some (13,true),.q (.conv .u64 (.t 16)),[]⟩,⟨some 18,some (13,true),.q (.bin .gtr (.t 14) (.t 17)),[]⟩,oq 19 (.pick (.t 13) (.t 18) (.v (.bool false)))]) (.cond (.t 19) (.ops [ oq 20 (.mv (.t 0)),oe 21 (.call 93 [(.t 20),(.v (.int .i64 11))])]) .skip)) (.seq (.seq (.ops [ oq 22 (.mv (.t 0)),oq 23 (.nc (.t 22)),oq 24 (.fa 2 (.t 23)),oq 25 (.ld none (.t 24)),oq 26 (.bin .neq (.t 25) (.v (.int .i64 0)))]) (.cond (.t 26) (.seq (.ops [ oq 4 (.mv (.v (.int .i64 0)))]) .ret) .skip)) (.seq (.ops [ oq 27 (.mv (.t 5)),oq 28 (.conv .i64 (.t 27)),oq 4 (.mv (.t 28))]) .ret))))
@[go_sem] def c94_16_wp:=wp_of c94_16.eq_1
def c94:AFn:=⟨29,[.t 4],c94_16⟩
theorem c94_ok:compF Tryz.prog Tryz.f94=some c94:=by kernel_rfl
theorem a94 {args:List AV} {σ:ASt} {R:AV->ASt->Prop} (hl:args.length<=29) (h:c94_16.wp Tryz.prog (RetQ [.t 4] R) (init args) σ):ACalls Tryz.prog 94 args σ R:=aFq Tryz.func94 c94_ok hl h
/-! 95: (*tabular/vint.Reader).after -/
def c95_10:ACode := .seq (.ops [ oq 4 (.mv (.v (.int .u64 0)))]) (.seq (.ops [ oq 6 (.mv (.t 0)),oe 7 (.call 53 [(.t 6)]),oq 5 (.mv (.t 7))]) (.seq (.seq (.ops [ oq 8 (.mv (.t 0)),oq 9 (.nc (.t 8)),oq 10 (.fa 2 (.t 9)),oq 11 (.ld none (.t 10)),oq 12 (.bin .eql (.t 11) (.v (.int .i64 0))),oq 13 (.mv (.t 12)),⟨some 14,some (13,true),.q (.mv (.t 5)),[]⟩,⟨some 15,some (13,true),.q (.mv (.t 1)),[]⟩,⟨some 16,some (13,true),.q (.bin .sub (.v (.int .u64 18446744073709551615)) (.t 15)),[]⟩,⟨some 17,some (13,true),.q (.bin .geq (.t 14) (.t 16)),[]⟩,oq 18 (.pick (.t 13) (.t 17) (.v (.bool false)))]) (.cond (.t 18) (.ops [ oq 19 (.mv (.t 0)),oe 20 (.call 93 [(.t 19),(.v (.int .i64 3))])]) .skip)) (.seq (.ops [ oq 21 (.mv (.t 1)),oq 22 (.mv (.t 5)),oq 23 (.bin .add (.t 21) (.t 22)),oq 24 (.bin .add (.t 23) (.v (.int .u64 1))),oq 4 (.mv (.t 24))]) .ret)))
@[go_sem] def c95_10_wp:=wp_of c95_10.eq_1
def c95:AFn:=⟨25,[.t 4],c95_10⟩
theorem c95_ok:compF Tryz.prog Tryz.f95=some c95:=by kernel_rfl
theorem a95 {args:List AV} {σ:ASt} {R:AV->ASt->Prop} (hl:args.length<=25) (h:c95_10.wp Tryz.prog (RetQ [.t 4] R) (init args) σ):ACalls Tryz.prog 95 args σ R:=aFq Tryz.func95 c95_ok hl h
/-! 117: (*tabular/vint.Reader).Int -/
def c117_5:ACode := .seq (.ops [ oq 2 (.mv (.v (.int .i64 0)))]) (.seq (.ops [ oq 4 (.mv (.t 0)),oe 5 (.call 53 [(.t 4)]),oq 3 (.mv (.t 5))]) (.seq (.ops [ oq 6 (.mv (.t 3)),oq 7 (.bin .shr (.t 6) (.v (.int .u64 1))),oq 8 (.conv .i64 (.t 7)),oq 9 (.mv (.t 3)),oq 10 (.bin .and (.t 9) (.v (.int .u64 1))),oq 11 (.conv .i64 (.t 10)),oq 12 (.un .neg (.t 11)),oq 13 (.bin .xor (.t 8) (.t 12)),oq 2 (.mv (.t 13))]) .ret))
@[go_sem] def c117_5_wp:=wp_of c117_5.eq_1
def c117:AFn:=⟨14,[.t 2],c117_5⟩
theorem c117_ok:compF Tryz.prog Tryz.f117=some c117:=by kernel_rfl
theorem a117 {args:List AV} {σ:ASt} {R:AV->ASt->Prop} (hl:args.length<=14) (h:c117_5.wp Tryz.prog (RetQ [.t 2] R) (init args) σ):ACalls Tryz.prog 117 args σ R:=aFq Tryz.func117 c117_ok hl h
/-! 118: (*tabular/vint.Reader).Text -/
def c118_23:ACode := .seq (.ops [ oq 4 (.mv (.v (.str [])))]) (.seq (.ops [ oq 6 (.mv (.t 0)),oe 7 (.call 53 [(.t 6)]),oq 5 (.mv (.t 7))]) (.seq (.seq (.ops [ oq 8 (.mv (.t 0)),oq 9 (.nc (.t 8)),oq 10 (.fa 2 (.t 9)),oq 11 (.ld none (.t 10)),oq 12 (.bin .eql (.t 11) (.v (.int .i64 0))),oq 13 (.mv (.t 12)),⟨some 14,some (13,true),.q (.mv (.t 5)),[]⟩,⟨some 15,some (13,true),.q (.mv (.t 1)),[]⟩,⟨some 16,some (13,true),.q (.mnx true (.t 15) (.v (.int .i64 0))),[]⟩,⟨some 17,some (13,true),.q (.conv .u64 (.t 16)),[]⟩,⟨some 18,some (13,true),.q (.bin .gtr (.t 14) (.t 17)),[]⟩,oq 19 (.pick (.t 13) (.t 18) (.v (.bool false)))]) (.cond (.t 19) (.ops [ oq 20 (.mv (.t 0)),oe 21 (.call 93 [(.t 20),(.v (.int .i64 11))])]) .skip)) (.seq (.seq (.ops [ oq 22 (.mv (.t 0)),oq 23 (.nc (.t 22)),oq 24 (.fa 2 (.t 23)),oq 25 (.ld none (.t 24)),oq 26 (.bin .eql (.t 25) (.v (.int .i64 0))),oq 27 (.mv (.t 26)),⟨some 28,some (27,true),.q (.mv (.t 5)),[]⟩,⟨some 29,some (27,true),.q (.mv (.t 0)),[]⟩,⟨some 30,some (27,true),.q (.nc (.t 29)),[]⟩,⟨some 31,some (27,true),.q (.fa 0 (.t 30)),[]⟩,⟨some 32,some (27,true),.q (.ld none (.t 31)),[]⟩,⟨some 33,some (27,true),.q (.lenS (.t 32)),[]⟩,⟨some 34,some (27,true),.q (.mv (.t 0)),[]⟩,⟨some 35,some (27,true),.q (.nc (.t 34)),[]⟩,⟨some 36,some (27,true),.q (.fa 1 (.t 35)),[]⟩,⟨some 37,some (27,true),.q (.ld none (.t 36)),[]⟩,⟨some 38,some (27,true),.q (.bin .sub (.t 33) (.t 37)),[]⟩,⟨some 39,some (27,true),.q (.conv .u64 (.t 38)),[]⟩,⟨some 40,some (27,true),.q (.bin .gtr (.t 28) (.t 39)),[]⟩,oq 41 (.pick (.t 27) (.t 40) (.v (.bool false)))]) (.cond (.t 41) (.ops [ oq 42 (.mv (.t 0)),oe 43 (.call 93 [(.t 42),(.v (.int .i64 2))])]) .skip)) (.seq (.seq (.ops [ oq 44 (.mv (.t 0)),oq 45 (.nc (.t 44)),oq 46 (.fa 2 (.t 45)),oq 47 (.ld none (.t 46)),oq 48 (.bin .neq (.t 47) (.v (.int .i64 0)))]) (.cond (.t 48) (.seq (.ops [ oq 4 (.mv (.v (.str [])))]) .ret) .skip)) (.seq (.ops [ oq 49 (.mv (.t 0)),oq 50 (.nc (.t 49)),oq 51 (.fa 1 (.t 50)),oq 52 (.ld none (.t 51)),oq 53 (.mv (.t 5)),oq 54 (.conv .i64 (.t 53)),oq 55 (.bin .add (.t 52) (.t 54)),oq 56 (.nc (.t 49)),oq 57 (.fa 1 (.t 56)),oz (.store 1 (.t 57) (.t 55))]) (.seq (.ops [ oq 58 (.mv (.t 0)),oq 59 (.nc (.t 58)),oq 60 (.fa 0 (.t 59)),oq 61 (.ld none (.t 60)),oq 62 (.mv (.t 0)),oq 63 (.nc (.t 62)),oq 64 (.fa 1 (.t 63)),oq 65 (.ld none (.t 64)),oq 66 (.mv (.t 5)),oq 67 (.conv .i64 (.t 66)),oq 68 (.bin .sub (.t 65) (.t 67)),oq 69 (.mv (.t 0)),oq 70 (.nc (.t 69)),oq 71 (.fa 1 (.t 70)),oq 72 (.ld none (.t 71)),oq 73 (.sls (true,0) (.t 61) (.t 68) (.t 72)),oq 4 (.mv (.t 73))]) .ret))))))
@[go_sem] def c118_23_wp:=wp_of c118_23.eq_1
def c118:AFn:=⟨74,[.t 4],c118_23⟩
theorem c118_ok:compF Tryz.prog Tryz.f118=some c118:=by kernel_rfl
theorem a118 {args:List AV} {σ:ASt} {R:AV->ASt->Prop} (hl:args.length<=74) (h:c118_23.wp Tryz.prog (RetQ [.t 4] R) (init args) σ):ACalls Tryz.prog 118 args σ R:=aFq Tryz.func118 c118_ok hl h
end Go.A
namespace Go.A
open Go.Proofs Go.Vint
theorem scan_facts:∀ (l:List UInt8) (k U:Nat),U<128 ^ k->k<=9->(scan k U l).2.1<18446744073709551616/\(scan k U l).2.2<=k+l.length/\((scan k U l).1=0\/(scan k U l).1=2/\(scan k U l).2.1=0/\(scan k U l).2.2=0\/(scan k U l).1=3/\(scan k U l).2.1=0/\(scan k U l).2.2=0)
 | [],k,U,hU,hk=>by simp [scan]
 | c::r,k,U,hU,hk=>by
   have hbd:=or_shift_bd (k:=k) (U:=U) (c:=c) hU
   have hcb:=c.toNat_lt
   unfold scan
   split
   ·simp
   ·rename_i hbad
    split
    ·refine ⟨?_,by simp only [List.length_cons];omega,.inl rfl⟩
     dsimp only
     rcases Nat.lt_or_ge k 9 with h|h
     ·have h2:128 ^ (k+1)<=128 ^ 9:=Nat.pow_le_pow_right (by omega) (by omega)
      have e9:(128:Nat) ^ 9=9223372036854775808:=by decide
      omega
     ·obtain rfl:k=9:=by omega
      have e9:(128:Nat) ^ 9=9223372036854775808:=by decide
      rw [e9] at hU ⊢
      have:c.toNat<=1:=by omega
      omega
    ·have hk9:k≠9:=by omega
     have ih:=scan_facts r (k+1) (U+c.toNat % 128*128 ^ k) hbd (by omega)
     refine ⟨ih.1,by simp;omega,ih.2.2⟩
theorem rUq (s:List UInt8) (p:Nat) (e:Int) (hp:p<=s.length):(readU s p e).1<18446744073709551616/\(readU s p e).2.1<=s.length/\((readU s p e).2.2≠0->(readU s p e).1=0/\(readU s p e).2.1=p)/\(e≠0->(readU s p e).2.2=e):=by
 unfold readU
 by_cases he:e≠0
 ·rw [if_pos he];simp;exact hp
 ·rw [if_neg he]
  obtain ⟨h1,h2,h3⟩:=scan_facts (s.drop p) 0 0 (by simp) (by omega)
  refine ⟨h1,by simp at h2 ⊢;omega,fun h=>?_,fun h=>absurd h he⟩
  dsimp only at h ⊢
  omega
def unfI (u:Nat):Int:=if u % 2=1 then -((u / 2:Nat):Int)-1 else ((u / 2:Nat):Int)
theorem unf_fold {n:Int} (h1 : -9223372036854775808<=n) (h2:n<=9223372036854775807):unfI (foldI n).toNat=n:=by
 unfold foldI unfI
 split<;>split<;>omega
theorem unf_bits {u:Nat} (hu:u<18446744073709551616) :
  IntKind.wrap .i64 ((BitVec.ofInt 64 ((u:Int) / 2) ^^^ BitVec.ofInt 64 (IntKind.wrap .i64 (0-IntKind.wrap .i64 ((BitVec.ofInt 64 (u:Int) &&& BitVec.ofInt 64 1).toNat:Int)))).toNat:Int)=unfI u:=by
 have ofi:∀ a:Nat,a<18446744073709551616->(BitVec.ofInt 64 (a:Int)).toNat=a:=fun a ha=>ofInt_u64 a ha
 have h1:(BitVec.ofInt 64 (u:Int) &&& BitVec.ofInt 64 1).toNat=u % 2:=by
  rw [BitVec.toNat_and,ofi u hu,show BitVec.ofInt 64 1=1#64 by decide +kernel]
  simp [Nat.and_one_is_mod]
 rw [h1,show (u:Int) / 2=((u / 2:Nat):Int) by omega]
 unfold unfI
 rcases Nat.mod_two_eq_zero_or_one u with h|h
 ·rw [h,if_neg (by omega)]
  have e3:BitVec.ofInt 64 (IntKind.wrap .i64 (0-IntKind.wrap .i64 ((0:Nat):Int)))=0#64:=by decide +kernel
  rw [e3,BitVec.xor_zero,ofi _ (by omega),wrap_i64 (by omega) (by omega)]
 ·rw [h,if_pos rfl]
  have e3:BitVec.ofInt 64 (IntKind.wrap .i64 (0-IntKind.wrap .i64 ((1:Nat):Int)))=BitVec.allOnes 64:=by decide +kernel
  rw [e3,BitVec.xor_allOnes,BitVec.toNat_not,ofi _ (by omega)]
  rw [IntKind.wrap_i64]
  omega
theorem rint_ok (s:List UInt8) (p:Nat) (e:Int) (b:Nat) (σ:ASt) (hb:σ b=rd s p e) (hs:s.length<=4611686018427387904) (hp:p<=s.length) :
  ACalls Tryz.prog 117 [.ptr b 0] σ fun v σ'=>v = .int .i64 (unfI (readU s p e).1)/\σ'=σ.set b (rd s (readU s p e).2.1 (readU s p e).2.2):=by
 refine a117 (by simp) ?_
 obtain ⟨f1,f2,f3,f4⟩:=rUq s p e hp
 simp (disch:=first|assumption|omega) only [go_sem]
 refine (ruint_ok s p e b σ hb hs hp).mono ?_
 rintro v σ' ⟨rfl,rfl⟩
 generalize readU s p e=R at *
 obtain ⟨u,p',e'⟩:=R
 dsimp only at *
 simp (disch:=first|assumption|omega) only [go_sem]
 exact retC_by (Drop.refl _) (.refl _) ⟨congrArg (AV.int .i64) (unf_bits f1),rfl⟩
def rtxP (s:List UInt8) (p:Nat) (e:Int) (most:Nat):List UInt8×Nat×Int:=
 if (readU s p e).2.2≠0 then ([],(readU s p e).2.1,(readU s p e).2.2)
 else if most<(readU s p e).1 then ([],(readU s p e).2.1,11)
 else if s.length<(readU s p e).2.1+(readU s p e).1 then ([],(readU s p e).2.1,2)
 else ((s.drop (readU s p e).2.1).take (readU s p e).1,(readU s p e).2.1+(readU s p e).1,0)
theorem rtext_ok (s:List UInt8) (p:Nat) (e:Int) (most:Nat) (b:Nat) (σ:ASt) (hb:σ b=rd s p e) (hs:s.length<=4611686018427387904) (hp:p<=s.length) (hm:most<=1000000) :
  ACalls Tryz.prog 118 [.ptr b 0,.int .i64 most] σ fun v σ'=>v = .str (rtxP s p e most).1/\σ'=σ.set b (rd s (rtxP s p e most).2.1 (rtxP s p e most).2.2):=by
 refine a118 (by simp) ?_
 obtain ⟨q,hq⟩:∃ q,rtxP s p e most=q:=⟨_,rfl⟩
 rw [hq]
 unfold rtxP at hq
 obtain ⟨f1,f2,f3,f4⟩:=rUq s p e hp
 simp (disch:=first|assumption|omega) only [go_sem]
 refine (ruint_ok s p e b σ hb hs hp).mono ?_
 rintro v σ' ⟨rfl,rfl⟩
 generalize readU s p e=R at *
 obtain ⟨u,p',e'⟩:=R
 dsimp only at *
 have hmx:max (most:Int) 0=most:=by omega
 by_cases he:e'=0
 ·subst he
  rw [if_neg (by simp)] at hq
  by_cases h1:most<u
  ·have h1':(most:Int)<u:=by omega
   rw [if_pos h1] at hq
   subst hq
   simp (disch:=first|assumption|omega) only [go_sem,rd,hmx,h1']
   refine (rfail_ok s p' 0 11 b _ (ASt.set_same _ _ _)).mono ?_
   rintro v σ' ⟨rfl,rfl⟩
   simp (disch:=first|assumption|omega) only [go_sem,rd,firstErr]
   exact retC_by (Drop.refl _) (.refl _) ⟨rfl,rfl⟩
  ·have h1':¬ (most:Int)<u:=by omega
   rw [if_neg h1] at hq
   by_cases h2:s.length<p'+u
   ·have h2':(s.length:Int)-p'<u:=by omega
    rw [if_pos h2] at hq
    subst hq
    simp (disch:=first|assumption|omega) only [go_sem,rd,hmx,h1',h2']
    refine (rfail_ok s p' 0 2 b _ (ASt.set_same _ _ _)).mono ?_
    rintro v σ' ⟨rfl,rfl⟩
    simp (disch:=first|assumption|omega) only [go_sem,rd,firstErr]
    exact retC_by (Drop.refl _) (.refl _) ⟨rfl,rfl⟩
   ·have h2':¬ (s.length:Int)-p'<u:=by omega
    rw [if_neg h2] at hq
    subst hq
    have e1:(p':Int)+u-u=p':=by omega
    have e2:((p':Int)+u).toNat=p'+u:=by omega
    simp (disch:=first|assumption|omega) only [go_sem,rd,hmx,h1',h2',e1,e2]
    refine retC_by (Drop.refl _) (.refl _) ⟨?_,rfl⟩
    rw [List.drop_take,Nat.add_sub_cancel_left]
    rfl
 ·rw [if_pos he] at hq
  subst hq
  simp (disch:=first|assumption|omega) only [go_sem,rd,he]
  exact retC_by (Drop.refl _) (.refl _) ⟨rfl,rfl⟩
def countP (s:List UInt8) (p:Nat) (e:Int) (most:Nat):Nat×Nat×Int:=
 if (readU s p e).2.2≠0 then (0,(readU s p e).2.1,(readU s p e).2.2)
 else if most<(readU s p e).1 then (0,(readU s p e).2.1,11)
 else ((readU s p e).1,(readU s p e).2.1,0)
theorem rcount_ok (s:List UInt8) (p:Nat) (e:Int) (most:Nat) (b:Nat) (σ:ASt) (hb:σ b=rd s p e) (hs:s.length<=4611686018427387904) (hp:p<=s.length) (hm:most<=1000000) :
  ACalls Tryz.prog 94 [.ptr b 0,.int .i64 most] σ fun v σ'=>v = .int .i64 (countP s p e most).1/\σ'=σ.set b (rd s (countP s p e most).2.1 (countP s p e most).2.2):=by
 refine a94 (by simp) ?_
 obtain ⟨q,hq⟩:∃ q,countP s p e most=q:=⟨_,rfl⟩
 rw [hq]
 unfold countP at hq
 obtain ⟨f1,f2,f3,f4⟩:=rUq s p e hp
 simp (disch:=first|assumption|omega) only [go_sem]
 refine (ruint_ok s p e b σ hb hs hp).mono ?_
 rintro v σ' ⟨rfl,rfl⟩
 generalize readU s p e=R at *
 obtain ⟨u,p',e'⟩:=R
 dsimp only at *
 have hmx:max (most:Int) 0=most:=by omega
 by_cases he:e'=0
 ·subst he
  rw [if_neg (by simp)] at hq
  by_cases h1:most<u
  ·have h1':(most:Int)<u:=by omega
   rw [if_pos h1] at hq
   subst hq
   simp (disch:=first|assumption|omega) only [go_sem,rd,hmx,h1']
   refine (rfail_ok s p' 0 11 b _ (ASt.set_same _ _ _)).mono ?_
   rintro v σ' ⟨rfl,rfl⟩
   simp (disch:=first|assumption|omega) only [go_sem,rd,firstErr]
   exact retC_by (Drop.refl _) (.refl _) ⟨rfl,rfl⟩
  ·have h1':¬ (most:Int)<u:=by omega
   rw [if_neg h1] at hq
   subst hq
   simp (disch:=first|assumption|omega) only [go_sem,rd,hmx,h1']
   exact retC_by (Drop.refl _) (.refl _) ⟨rfl,rfl⟩
 ·rw [if_pos he] at hq
  subst hq
  simp (disch:=first|assumption|omega) only [go_sem,rd,he]
  exact retC_by (Drop.refl _) (.refl _) ⟨rfl,rfl⟩
def afterP (s:List UInt8) (p:Nat) (e:Int) (x:Int):Int×Nat×Int:=
 if (readU s p e).2.2=0/\18446744073709551615-x<=(readU s p e).1 then ((x+(readU s p e).1+1) % 18446744073709551616,(readU s p e).2.1,3)
 else ((x+(readU s p e).1+1) % 18446744073709551616,(readU s p e).2.1,(readU s p e).2.2)
theorem rafter_ok (s:List UInt8) (p:Nat) (e:Int) (x:Int) (b:Nat) (σ:ASt) (hb:σ b=rd s p e) (hs:s.length<=4611686018427387904) (hp:p<=s.length) (h0:0<=x) (h1:x<=18446744073709551615) :
  ACalls Tryz.prog 95 [.ptr b 0,.int .u64 x] σ fun v σ'=>v = .int .u64 (afterP s p e x).1/\σ'=σ.set b (rd s (afterP s p e x).2.1 (afterP s p e x).2.2):=by
 refine a95 (by simp) ?_
 obtain ⟨q,hq⟩:∃ q,afterP s p e x=q:=⟨_,rfl⟩
 rw [hq]
 unfold afterP at hq
 obtain ⟨f1,f2,f3,f4⟩:=rUq s p e hp
 simp (disch:=first|assumption|omega) only [go_sem]
 refine (ruint_ok s p e b σ hb hs hp).mono ?_
 rintro v σ' ⟨rfl,rfl⟩
 generalize readU s p e=R at *
 obtain ⟨u,p',e'⟩:=R
 dsimp only at *
 have hw:IntKind.wrap .u64 (IntKind.wrap .u64 (x+u)+1)=(x+u+1) % 18446744073709551616:=by
  rw [IntKind.wrap_u64,IntKind.wrap_u64];omega
 by_cases hc:e'=0/\18446744073709551615-x<=u
 ·rw [if_pos hc] at hq
  subst hq
  obtain ⟨rfl,hc⟩:=hc
  simp (disch:=first|assumption|omega) only [go_sem,rd,hc]
  refine (rfail_ok s p' 0 3 b _ (ASt.set_same _ _ _)).mono ?_
  rintro v σ' ⟨rfl,rfl⟩
  obtain ⟨m,hm⟩:∃ m,(x+u+1) % 18446744073709551616=m:=⟨_,rfl⟩
  rw [hm] at hw ⊢
  simp (disch:=first|assumption|omega) only [go_sem,rd,firstErr,hw]
  exact retC_by (Drop.refl _) (.refl _) ⟨rfl,rfl⟩
 ·rw [if_neg hc] at hq
  subst hq
  by_cases he:e'=0
  ·subst he
   have hc':¬ 18446744073709551615-x<=u:=by omega
   simp (disch:=first|assumption|omega) only [go_sem,rd,hc']
   rw [Int.emod_eq_of_lt (by omega) (by omega)]
   exact retC_by (Drop.refl _) (.refl _) ⟨rfl,rfl⟩
  ·obtain ⟨rfl,rfl⟩:=f3 he
   simp (disch:=first|assumption|omega) only [go_sem,rd,he]
   refine retC_by (Drop.refl _) (.refl _) ⟨?_,rfl⟩
   rw [resV_one,IntKind.wrap_u64]
theorem afterP_facts (s:List UInt8) (p:Nat) (e:Int) (x:Int) (hp:p<=s.length) (h0:0<=x) (h1:x<=18446744073709551615):0<=(afterP s p e x).1/\(afterP s p e x).1<=18446744073709551615/\(afterP s p e x).2.1<=s.length:=by
 obtain ⟨f1,f2,f3,f4⟩:=rUq s p e hp
 unfold afterP
 split<;>(refine ⟨?_,?_,f2⟩<;>dsimp only<;>omega)
theorem countP_facts (s:List UInt8) (p:Nat) (e:Int) (most:Nat) (hp:p<=s.length):(countP s p e most).1<=most/\(countP s p e most).2.1<=s.length:=by
 obtain ⟨f1,f2,f3,f4⟩:=rUq s p e hp
 unfold countP
 split
 ·exact ⟨Nat.zero_le _,f2⟩
 ·split
  ·exact ⟨Nat.zero_le _,f2⟩
  ·exact ⟨by dsimp only;omega,f2⟩
def risF (s:List UInt8):Nat->List Int->Nat->Int->List Int×Nat×Int
 | 0,l,p,e=>(l,p,e)
 | k+1,l,p,e=>if e≠0 then (l,p,e) else match l.getLast? with
   | none=>risF s k (l ++ [((readU s p e).1:Int)]) (readU s p e).2.1 (readU s p e).2.2
   | some x=>risF s k (l ++ [(afterP s p e x).1]) (afterP s p e x).2.1 (afterP s p e x).2.2
def risingR (s:List UInt8) (p:Nat) (e:Int) (most:Nat):List Int×Nat×Int:=
 if (risF s (countP s p e most).1 [] (countP s p e most).2.1 (countP s p e most).2.2).2.2≠0 then ([],(risF s (countP s p e most).1 [] (countP s p e most).2.1 (countP s p e most).2.2).2)
 else risF s (countP s p e most).1 [] (countP s p e most).2.1 (countP s p e most).2.2
theorem last_at {l:List Int} {i:Nat} (h:l.length=i+1):∃ x,l.getLast? = some x/\l[i]? = some x:=by
 have hlt:i<l.length:=by omega
 refine ⟨l[i],?_,List.getElem?_eq_getElem hlt⟩
 rw [List.getLast?_eq_getElem?,show l.length-1=i by omega,List.getElem?_eq_getElem hlt]
theorem rrising_ok (s:List UInt8) (p:Nat) (e:Int) (most:Nat) (b:Nat) (σ:ASt) (hb:σ b=rd s p e) (hs:s.length<=4611686018427387904) (hp:p<=s.length) (hm:most<=1000000) :
  ACalls Tryz.prog 55 [.ptr b 0,.int .i64 most] σ fun v σ'=>v=u64sAV (risingR s p e most).1/\σ'=σ.set b (rd s (risingR s p e most).2.1 (risingR s p e most).2.2):=by
 refine a55 (by simp) ?_
 obtain ⟨q,hq⟩:∃ q,risingR s p e most=q:=⟨_,rfl⟩
 rw [hq]
 unfold risingR at hq
 obtain ⟨c1,c2⟩:=countP_facts s p e most hp
 obtain ⟨F,hF⟩:∃ F,F=ACode.wp Tryz.prog c55_26:=⟨_,rfl⟩
 simp (disch:=first|assumption|omega) only [go_sem]
 refine (rcount_ok s p e most b σ hb hs hp hm).mono ?_
 rintro v σ' ⟨rfl,rfl⟩
 generalize countP s p e most=C at *
 obtain ⟨n,p1,e1⟩:=C
 dsimp only at *
 obtain ⟨r,hr⟩:∃ r,risF s n [] p1 e1=r:=⟨_,rfl⟩
 rw [hr] at hq
 have fin:∀ (a:AFr) (k:SK) (σ':ASt),a 0 = .ptr b 0->a 6 = .sl k (r.1.map (AV.int .u64))->Grown (σ.set b (rd s r.2.1 r.2.2)) σ' k (r.1.map (AV.int .u64)).length 1 →
   F (RetQ [.t 4] fun v σ'=>v=u64sAV q.1/\σ'=σ.set b (rd s q.2.1 q.2.2)) a σ':=by
  intro a k σ' h0 h6 hg
  have hb':=hg.at (x:=b) (ASt.set_same _ _ _)
  rw [hF]
  by_cases he:r.2.2=0
  ·rw [if_neg (by simp [he])] at hq
   subst hq
   simp (disch:=first|assumption|omega) only [go_sem,h0,h6,hb',rd,he]
   rw [<-he]
   exact retC_by hg.drop (.sl _ _) ⟨rfl,rfl⟩
  ·rw [if_pos he] at hq
   subst hq
   simp (disch:=first|assumption|omega) only [go_sem,h0,hb',rd,he]
   exact retC_by hg.drop (.sl _ _) ⟨rfl,rfl⟩
 simp (disch:=first|assumption|omega) only [go_sem,←hF]
 refine wLq (fun (i:Nat×List Int×Nat×Int) a σ'=>(i.1<=n/\i.2.1.length=i.1/\i.2.2.1<=s.length/\(∀ x∈i.2.1,0<=x/\x<=18446744073709551615)/\risF s (n-i.1) i.2.1 i.2.2.1 i.2.2.2=r) ∧
   (a 0 = .ptr b 0/\a 5 = .int .i64 n/\a 7 = .int .i64 i.1)/\∃ k,a 6 = .sl k (i.2.1.map (AV.int .u64))/\Grown (σ.set b (rd s i.2.2.1 i.2.2.2)) σ' k (i.2.1.map (AV.int .u64)).length 1)
  (fun i=>n-i.1) (0,[],p1,e1) ⟨⟨Nat.zero_le _,rfl,c2,by simp,hr⟩,?_,.full,?_,.inl ⟨rfl,rfl,rfl⟩⟩ ?_
 ·simp (disch:=first|assumption|omega) only [go_sem]
 ·simp (disch:=first|assumption|omega) only [go_sem]
 rintro ⟨i,l,p2,e2⟩ a σ1 ⟨⟨hi,hl,hp2,hbd,hri⟩,hf,k,h6,hg⟩
 dsimp only at hi hl hp2 hbd hri hf h6 hg
 have hb':σ1 b=some (.obj [.str s,.int .i64 p2,.int .i64 e2]):=hg.at (x:=b) (ASt.set_same _ _ _)
 by_cases hin:i<n
 ·have hin':(i:Int)<n:=by omega
  by_cases he:e2=0
  ·subst he
   rw [show n-i=(n-(i+1))+1 by omega,risF,if_neg (by simp)] at hri
   by_cases hi0:i=0
   ·subst hi0
    obtain rfl:l = []:=List.eq_nil_of_length_eq_zero hl
    have hz:((0:Nat):Int)=0:=rfl
    obtain ⟨f1,f2,f3,f4⟩:=rUq s p2 0 hp2
    simp only [List.getLast?_nil] at hri
    simp only [List.map_nil] at h6 hg
    simp (disch:=first|assumption|omega) only [go_sem,hf,h6,hb',hz]
    refine (ruint_ok s p2 0 b σ1 hb' hs hp2).mono ?_
    rintro v σ2 ⟨rfl,rfl⟩
    generalize readU s p2 0=R at *
    obtain ⟨u,p3,e3⟩:=R
    dsimp only at *
    simp (disch:=first|assumption|omega) only [go_sem]
    have hg2:Grown (σ.set b (rd s p3 e3)) (σ1.set b (rd s p3 e3)) k (List.length (α:=AV) []) 1:=hg.obj
    refine appC_by hg2 rfl rfl (by simp) (by simp) fun k' σ' hg'=>?_
    simp (disch:=first|assumption|omega) only [go_sem,hf]
    refine ⟨(0+1,[(u:Int)],p3,e3),by dsimp only;omega,⟨by dsimp only;omega,rfl,f2,by simp;omega,hri⟩,?_,k',?_,hg'⟩
    ·simp (disch:=first|assumption|omega) only [go_sem]
    ·rfl
   ·obtain ⟨j,hj⟩:∃ j,i=j+1:=⟨i-1,by omega⟩
    obtain ⟨x,hx1,hx2⟩:=last_at (hl.trans hj)
    simp only [hx1] at hri
    obtain ⟨x0,x1⟩:=hbd x (List.mem_of_getElem? hx2)
    have hnz:¬ (i:Int)=0:=by omega
    have hsub:(i:Int)-1=j:=by omega
    have hmapj:(l.map (AV.int .u64))[j]? = some (.int .u64 x):=by rw [List.getElem?_map,hx2];rfl
    obtain ⟨f1,f2,f3⟩:=afterP_facts s p2 0 x hp2 x0 x1
    simp (disch:=first|assumption|omega) only [go_sem,hf,h6,hb',hin',hnz,hsub,hmapj]
    refine (rafter_ok s p2 0 x b σ1 hb' hs hp2 x0 x1).mono ?_
    rintro v σ2 ⟨rfl,rfl⟩
    generalize afterP s p2 0 x=R at *
    obtain ⟨u,p3,e3⟩:=R
    dsimp only at *
    simp (disch:=first|assumption|omega) only [go_sem]
    have hg2:Grown (σ.set b (rd s p3 e3)) (σ1.set b (rd s p3 e3)) k (l.map (AV.int .u64)).length 1:=hg.obj
    refine appC_by hg2 rfl rfl (by simp;omega) (by simp;omega) fun k' σ' hg'=>?_
    have hap:l.map (AV.int .u64) ++ [.int .u64 u]=(l ++ [u]).map (AV.int .u64):=by simp
    rw [hap] at hg' ⊢
    simp (disch:=first|assumption|omega) only [go_sem,hf]
    refine ⟨(i+1,l ++ [u],p3,e3),by dsimp only;omega,⟨by dsimp only;omega,by simp [hl],f3,?_,hri⟩,?_,k',?_,by simpa using hg'⟩
    ·intro y hy
     rcases List.mem_append.1 hy with hy|hy
     ·exact hbd y hy
     ·simp at hy;subst hy;exact ⟨f1,f2⟩
    ·simp (disch:=first|assumption|omega) only [go_sem]
    ·rfl
  ·have hri':(l,p2,e2)=r:=by
    rw [show n-i=(n-(i+1))+1 by omega,risF,if_pos he] at hri
    exact hri
   subst hri'
   simp (disch:=first|assumption|omega) only [go_sem,hf,hb',hin',he]
   exact fin _ k σ1 (by simp (disch:=first|assumption|omega) only [go_sem,hf]) (by simp (disch:=first|assumption|omega) only [go_sem,h6]) hg
 ·have hin':¬ (i:Int)<n:=by omega
  have hri':(l,p2,e2)=r:=by
   rw [show n-i=0 by omega,risF] at hri
   exact hri
  subst hri'
  simp (disch:=first|assumption|omega) only [go_sem,hf,hin']
  exact fin _ k σ1 (by simp (disch:=first|assumption|omega) only [go_sem,hf]) (by simp (disch:=first|assumption|omega) only [go_sem,h6]) hg
end Go.A
namespace Go.A
open Go.Proofs Go.Vint
theorem u8_of_lt {n:Nat} (h:n<256):(u8Of (n:Int)).toNat=n:=by
 unfold u8Of
 rw [Int.toNat_natCast]
 simp;omega
theorem scan_uint:∀ (m:Nat) (w k U:Nat) (r:List UInt8),(uintB w).length=m->k<=9->U+w*128 ^ k<18446744073709551616->(0<k->0<w)->scan k U (uintB w++r)=(0,U+w*128 ^ k,k+(uintB w).length)
 | m,w,k,U,r,hm,hk,hb,hpos=>by
   by_cases hw:w<128
   ·rw [uintB_small hw]
    simp only [List.singleton_append,scan,List.length_singleton,u8_of_lt (show w<256 by omega)]
    have h1:¬ (k=9/\1<w\/0<k/\w=0):=by
     rintro (⟨rfl,h⟩|⟨h,h2⟩)
     ·have e:(128:Nat) ^ 9=9223372036854775808:=by decide
      rw [e] at hb
      omega
     ·have:=hpos h;omega
    rw [if_neg h1,if_pos hw,Nat.mod_eq_of_lt hw]
   ·rw [uintB_big hw] at hm ⊢
    have hc:(u8Of ((128+w % 128:Nat):Int)).toNat=128+w % 128:=u8_of_lt (by omega)
    simp only [List.cons_append,scan,hc,List.length_cons]
    have hk9:k≠9:=by
     rintro rfl
     have e:(128:Nat) ^ 9=9223372036854775808:=by decide
     rw [e] at hb
     omega
    rw [if_neg (by omega),if_neg (by omega)]
    have e1:(128+w % 128) % 128=w % 128:=by omega
    have e2:U+w % 128*128 ^ k+w / 128*128 ^ (k+1)=U+w*128 ^ k:=by
     rw [Nat.pow_succ,Nat.add_assoc]
     congr 1
     rw [<-Nat.mul_assoc,Nat.mul_right_comm (w / 128),← Nat.add_mul]
     congr 1
     omega
    rw [e1]
    simp only [List.length_cons] at hm
    rw [scan_uint (m-1) (w / 128) (k+1) _ r (by omega) (by omega) (by rw [e2];exact hb) (by omega),e2]
    simp;omega
theorem drop_app {s l r:List UInt8} {p:Nat} (h:s.drop p=l++r):s.drop (p+l.length)=r:=by
 rw [<-List.drop_drop,h];simp
theorem readU_uint {s r:List UInt8} {p u:Nat} (h:s.drop p=uintB u++r) (hu:u<18446744073709551616):readU s p 0=(u,p+(uintB u).length,0):=by
 have:=scan_uint _ u 0 0 r rfl (by omega) (by omega) (by omega)
 rw [readU_of (h▸this)]
 simp
end Go.A
namespace Go.A
open Go.Proofs
/-! 71: tabular/value.Put -/
def c71_20:ACode := .seq (.ops [ oq 5 (.mv (.t 1)),oe 6 (.call 50 [(.t 5)]),oe 4 (.alloc [(.int .i64 0),(.int .i64 0),(.str [])]),oz (.store 3 (.t 4) (.t 6))]) (.seq (.ops [ oq 7 (.mv (.t 0)),oq 8 (.fa 0 (.t 4)),oq 9 (.ld none (.t 8)),oq 10 (.conv .u64 (.t 9)),oe 11 (.call 40 [(.t 7),(.t 10)])]) (.seq (.ops [ oq 12 (.fa 0 (.t 4)),oq 13 (.ld none (.t 12))]) (.block 0 (.seq (.seq (.ops [ oq 15 (.bin .eql (.t 13) (.v (.int .i64 1))),oq 14 (.mv (.t 15))]) (.cond (.t 14) .skip (.seq (.ops [ oq 16 (.bin .eql (.t 13) (.v (.int .i64 3))),oq 14 (.mv (.t 16))]) (.cond (.t 14) .skip (.ops [ oq 17 (.bin .eql (.t 13) (.v (.int .i64 4))),oq 14 (.mv (.t 17))]))))) (.cond (.t 14) (.ops [ oq 18 (.mv (.t 0)),oq 19 (.fa 1 (.t 4)),oq 20 (.ld none (.t 19)),oe 21 (.call 115 [(.t 18),(.t 20)])]) (.seq (.ops [ oq 23 (.bin .eql (.t 13) (.v (.int .i64 2))),oq 22 (.mv (.t 23))]) (.cond (.t 22) (.ops [ oq 24 (.mv (.t 0)),oq 25 (.fa 2 (.t 4)),oq 26 (.ld none (.t 25)),oe 27 (.call 116 [(.t 24),(.t 26)])]) .skip)))))))
@[go_sem] def c71_20_wp:=wp_of c71_20.eq_1
def c71:AFn:=⟨28,[],c71_20⟩
theorem c71_ok:compF Tryz.prog Tryz.f71=some c71:=by kernel_rfl
theorem a71 {args:List AV} {σ:ASt} {R:AV->ASt->Prop} (hl:args.length<=28) (h:c71_20.wp Tryz.prog (RetQ [] R) (init args) σ):ACalls Tryz.prog 71 args σ R:=aFq Tryz.func71 c71_ok hl h
/-! 72: tabular/value.Get -/
def c72_34:ACode := .seq (.seq (.ops [ oq 25 (.mv (.t 0)),oe 26 (.call 54 [(.t 25)]),oq 27 (.bin .neq (.t 26) (.v (.int .i64 0)))]) (.cond (.t 27) (.seq (.ops [ oq 28 (.build [] []),oq 29 (.mki 138 (.t 28)),oq 30 (.mv (.t 0)),oe 31 (.call 54 [(.t 30)]),oq 2 (.mv (.t 29)),oq 3 (.mv (.t 31))]) .ret) .skip)) (.seq (.ops [ oq 32 (.ld (some 3) (.t 4)),oe 33 (.call 33 [(.t 32)]),oq 5 (.mv (.t 33))]) (.seq (.seq (.ops [ oq 34 (.mv (.t 5)),oq 36 (.ld (some 3) (.t 4)),⟨some 35,none,.e (.call 50 [(.t 34)]),[⟨none,.ld (some 3) (.t 4),36⟩]⟩,oq 37 (.eqs true [(0,0),(1,0),(2,2)] (.t 35) (.t 36))]) (.cond (.t 37) (.seq (.ops [ oq 38 (.build [] []),oq 39 (.mki 138 (.t 38)),oq 2 (.mv (.t 39)),oq 3 (.mv (.v (.int .i64 3)))]) .ret) .skip)) (.seq (.ops [ oq 40 (.mv (.t 5)),oq 2 (.mv (.t 40)),oq 3 (.mv (.v (.int .i64 0)))]) .ret)))
def c72_37:ACode := .seq (.ops [ oq 2 (.mv (.v .nili)),oq 3 (.mv (.v (.int .i64 0)))]) (.seq (.ops [ oq 6 (.mv (.t 0)),oe 7 (.call 53 [(.t 6)]),oq 8 (.mnx false (.t 7) (.v (.int .u64 9))),oq 9 (.conv .i64 (.t 8)),oq 10 (.build [(.int .i64 0),(.int .i64 0),(.str [])] [(0,1,(.t 9))]),oe 4 (.alloc [(.int .i64 0),(.int .i64 0),(.str [])]),oz (.store 3 (.t 4) (.t 10))]) (.seq (.seq (.ops [ oq 11 (.fa 0 (.t 4)),oq 12 (.ld none (.t 11))]) (.block 0 (.seq (.seq (.ops [ oq 14 (.bin .eql (.t 12) (.v (.int .i64 1))),oq 13 (.mv (.t 14))]) (.cond (.t 13) .skip (.seq (.ops [ oq 15 (.bin .eql (.t 12) (.v (.int .i64 3))),oq 13 (.mv (.t 15))]) (.cond (.t 13) .skip (.ops [ oq 16 (.bin .eql (.t 12) (.v (.int .i64 4))),oq 13 (.mv (.t 16))]))))) (.cond (.t 13) (.ops [ oq 17 (.mv (.t 0)),oe 18 (.call 117 [(.t 17)]),oq 19 (.fa 1 (.t 4)),oz (.store 1 (.t 19) (.t 18))]) (.seq (.ops [ oq 21 (.bin .eql (.t 12) (.v (.int .i64 2))),oq 20 (.mv (.t 21))]) (.cond (.t 20) (.ops [ oq 22 (.mv (.t 0)),oe 23 (.call 118 [(.t 22),(.v (.int .i64 2000))]),oq 24 (.fa 2 (.t 4)),oz (.store 1 (.t 24) (.t 23))]) .skip)))))) c72_34))
@[go_sem] def c72_34_wp:=wp_of c72_34.eq_1
@[go_sem] def c72_37_wp:=wp_of c72_37.eq_1
def c72:AFn:=⟨41,[.t 2,.t 3],c72_37⟩
theorem c72_ok:compF Tryz.prog Tryz.f72=some c72:=by kernel_rfl
theorem a72 {args:List AV} {σ:ASt} {R:AV->ASt->Prop} (hl:args.length<=41) (h:c72_37.wp Tryz.prog (RetQ [.t 2,.t 3] R) (init args) σ):ACalls Tryz.prog 72 args σ R:=aFq Tryz.func72 c72_ok hl h
end Go.A
namespace Go.A
open Go.Proofs Go.Lib Go.Vint
def plOf:PV->Pl
 | .blank=>⟨0,0,[]⟩
 | .num n=>⟨1,n,[]⟩
 | .text s=>⟨2,0,s⟩
 | .bool b=>⟨3,if b=true then 1 else 0,[]⟩
 | .fail n=>⟨4,n,[]⟩
theorem tell_pl (v:PV):tellAV v=plAV (plOf v):=by cases v<;>rfl
theorem of_back (v:PV) (hg:v.good) (ht:∀ t,v = .text t->(sgT t).isSome=true/\t.length<=2000):ofP (plOf v)=v:=by
 cases v with
 | blank=>rfl
 | num n=>
   show (if n.natAbs<=999999999999999999 then PV.num n else PV.blank)=PV.num n
   exact if_pos hg
 | text s=>
   show (if (sgT s).isSome=true/\s.length<=2000 then PV.text s else PV.blank)=PV.text s
   exact if_pos (ht s rfl)
 | bool b=>cases b<;>rfl
 | fail n=>
   show (if 1<=n/\n<=7 then PV.fail n else PV.blank)=PV.fail n
   exact if_pos hg
def putB:PV->List UInt8
 | .blank=>uintB 0
 | .num n=>uintB 1++uintB (foldI n).toNat
 | .text s=>uintB 2++textB s
 | .bool b=>uintB 3++uintB (foldI (if b=true then 1 else 0)).toNat
 | .fail n=>uintB 4++uintB (foldI n).toNat
theorem rtx_written {s t r:List UInt8} {p most:Nat} (h:s.drop p=textB t++r) (ht:t.length<=most) (hm:most<=1000000):rtxP s p 0 most=(t,p+(textB t).length,0):=by
 have h1:s.drop p=uintB t.length++(t++r):=by rw [h];simp [textB]
 have h2:=readU_uint h1 (by omega)
 have h3:=drop_app h1
 have hlen:p+(uintB t.length).length+t.length<=s.length:=by
  have:=congrArg List.length h3
  rw [List.length_drop,List.length_append] at this
  by_cases h0:t.length=0
  ·have h4:=congrArg List.length h1
   rw [List.length_drop,List.length_append] at h4
   have:=uintB_pos t.length
   omega
  ·omega
 unfold rtxP
 rw [h2]
 dsimp only
 rw [if_neg (by simp),if_neg (by omega),if_neg (by omega),h3]
 simp [textB]
 omega
end Go.A
namespace Go.A
open Go.Proofs Go.Lib Go.Vint
def plB (k:Int) (y:Int) (z:List UInt8):List UInt8:=uintB k.toNat++(if k=1\/k=3\/k=4 then uintB (foldI y).toNat else if k=2 then textB z else [])
theorem put_pl (v:PV) (hg:v.good) (ht:∀ t,v = .text t->t.length<=2000):∃ k y z,plOf v=⟨k,y,z⟩/\putB v=plB k y z/\y.natAbs<=999999999999999999/\z.length<=2000/\((k=1\/k=3\/k=4)/\z = []\/k=2/\y=0\/k=0/\y=0/\z = []):=by
 cases v with
 | blank=>exact ⟨_,_,_,rfl,by simp [putB,plB],by decide,by simp,.inr (.inr ⟨rfl,rfl,rfl⟩)⟩
 | num n=>exact ⟨_,_,_,rfl,by simp [putB,plB],hg,by simp,.inl ⟨.inl rfl,rfl⟩⟩
 | text s=>exact ⟨_,_,_,rfl,by simp [putB,plB],by decide,ht s rfl,.inr (.inl ⟨rfl,rfl⟩)⟩
 | bool b=>exact ⟨_,_,_,rfl,by simp [putB,plB],by cases b<;>decide,by simp,.inl ⟨.inr (.inl rfl),rfl⟩⟩
 | fail n=>
   have:1<=n/\n<=7:=hg
   exact ⟨_,_,_,rfl,by simp [putB,plB],by omega,by simp,.inl ⟨.inr (.inr rfl),rfl⟩⟩
theorem vput_ok (σ0:ASt) (b:Nat) (v:PV) (l:List UInt8) (σ:ASt) (hW:W σ0 b l σ) (hg:v.good) (ht:∀ t,v = .text t->t.length<=2000) (hl:l.length<=9000000) :
  ACalls Tryz.prog 71 [.ptr b 0,v.av] σ fun r σ'=>r = .tuple []/\W σ0 b (l++putB v) σ':=by
 obtain ⟨k,y,z,hp,hB,hy,hz,hk⟩:=put_pl v hg ht
 have hT:=tell_ok v
 rw [tell_pl,hp] at hT
 rw [hB]
 unfold plAV at hT
 dsimp only at hT
 generalize v.av=a at *
 have hk4:0<=k/\k<=4:=by omega
 have hu:=uintB_le (u:=k) (by omega)
 have hwk:IntKind.wrap .u64 k=k:=by rw [IntKind.wrap_u64,Int.emod_eq_of_lt (by omega) (by omega)]
 refine a71 (by simp) ?_
 simp (disch:=first|assumption|omega) only [go_sem]
 refine hT.use ?_
 simp (disch:=first|assumption|omega) only [go_sem]
 refine aBq fun c hc=>?_
 obtain ⟨hW1,hcb,hc0⟩:=hW.add hc (r := .obj [.int .i64 k,.int .i64 y,.str z])
 have hcr:=hW1.role hcb
 simp (disch:=first|assumption|omega) only [go_sem,ASt.set_set,hwk]
 refine (wuint_ok _ b k l _ hW1 (by omega) (by omega) (by omega)).mono ?_
 rintro r σ1 ⟨rfl,hW2⟩
 have hcr2:=hW2.role hcb
 rcases hk with ⟨hk,_⟩|⟨rfl,_⟩|⟨rfl,_⟩
 ·have hend:plB k y z=uintB k.toNat++uintB (foldI y).toNat:=by unfold plB;rw [if_pos hk]
  rw [hend]
  rcases hk with rfl|rfl|rfl
  all_goals
   simp (disch:=first|assumption|omega) only [go_sem,hcr2]
   refine (wint_ok _ b y _ _ hW2 (by omega) (by omega) (by simp only [List.length_append];omega)).mono ?_
   rintro r σ2 ⟨rfl,hW3⟩
   obtain ⟨σ3,hd,hW4,_⟩:=hW3.off hcb hc0
   simp (disch:=first|assumption|omega) only [go_sem]
   exact retC_by hd (.refl _) ⟨rfl,by rw [<-List.append_assoc];exact hW4⟩
 ·have hend:plB 2 y z=uintB (2:Int).toNat++textB z:=rfl
  rw [hend]
  simp (disch:=first|assumption|omega) only [go_sem,hcr2]
  refine (wtext_ok _ b z _ _ hW2 (by simp only [List.length_append];omega)).mono ?_
  rintro r σ2 ⟨rfl,hW3⟩
  obtain ⟨σ3,hd,hW4,_⟩:=hW3.off hcb hc0
  simp (disch:=first|assumption|omega) only [go_sem]
  exact retC_by hd (.refl _) ⟨rfl,by rw [<-List.append_assoc];exact hW4⟩
 ·have hend:plB 0 y z=uintB (0:Int).toNat:=by unfold plB;simp
  rw [hend]
  simp (disch:=first|assumption|omega) only [go_sem,hcr2]
  obtain ⟨σ3,hd,hW4,_⟩:=hW2.off hcb hc0
  exact retC_by hd (.refl _) ⟨rfl,hW4⟩
theorem U8.rd {σ:ASt} (h:U8 σ) {b:Nat} {s:List UInt8} {p:Nat} {e:Int} (hb:σ b=rd s p e) (p':Nat) (e':Int):U8 (σ.set b (rd s p' e')):=by
 unfold A.rd at hb
 unfold U8 at h ⊢
 obtain ⟨h1,h2⟩:=h
 constructor
 ·rw [ASt.set_ne]
  ·exact h1
  ·rintro rfl;rw [hb] at h1;cases h1
 ·rw [ASt.set_ne]
  ·exact h2
  ·rintro rfl;rw [hb] at h2;cases h2
end Go.A
namespace Go.A
open Go.Proofs
theorem lettersF_len:∀ k n,(lettersF k n).length<=k
 | 0,n=>Nat.le_refl _
 | k+1,n=>by
   unfold lettersF
   split
   ·exact Nat.zero_le _
   ·have:=lettersF_len k ((n-1) / 26)
    simp;omega
theorem letters_len (c:Int):(lettersP c).length<=4:=by
 unfold lettersP
 split
 ·exact Nat.zero_le _
 ·exact lettersF_len _ _
end Go.A
namespace Go.A
open Go.Proofs
def digF:Nat->Nat->List UInt8
 | 0,_ => []
 | k+1,n=>if n<10 then [UInt8.ofNat (48+n)] else digF k (n / 10) ++ [UInt8.ofNat (48+n % 10)]
theorem digF_eq:∀ (k n:Nat),n<10 ^ (k+1)->Lib.decDigits n=digF (k+1) n
 | 0,n,h=>by
   rw [Lib.decDigits,dif_pos (by omega)]
   unfold digF
   rw [if_pos (by omega)]
 | k+1,n,h=>by
   rw [Lib.decDigits]
   unfold digF
   by_cases h1:n<10
   ·rw [dif_pos h1,if_pos h1]
   ·rw [dif_neg h1,if_neg h1,digF_eq k (n / 10) (by rw [Nat.pow_succ] at h;omega)]
def numT (row:Int):List UInt8:=digF 4 (row+1).toNat
theorem itoa_num {row:Int} (h0:0<=row) (h1:row<3000):Lib.itoa (row+1)=numT row:=by
 unfold Lib.itoa numT
 rw [if_neg (by omega),digF_eq 3 _ (by omega)]
theorem num_all:(List.range 3000).all (fun i=>decide (numF 0 (numT i)=(i:Int)+1) && (numT i).all isD && decide (1<=(numT i).length) && decide ((numT i).length<=4) && decide (atP (numT i) 0≠48))=true:=by decide +kernel
theorem num_facts {row:Int} (h0:0<=row) (h1:row<3000):numF 0 (numT row)=row+1/\(∀ c∈numT row,isD c=true)/\1<=(numT row).length/\(numT row).length<=4/\atP (numT row) 0≠48:=by
 obtain ⟨i,rfl⟩:∃ i:Nat,row=i:=⟨row.toNat,by omega⟩
 have:=List.all_eq_true.1 num_all i (List.mem_range.2 (by omega))
 simpa [and_assoc] using this
theorem let_all:(List.range 700).all (fun i=>(lettersP i).all isL && decide (1<=(lettersP i).length))=true:=by decide +kernel
theorem let_facts {col:Int} (h0:0<=col) (h1:col<700):(∀ c∈lettersP col,isL c=true)/\1<=(lettersP col).length:=by
 obtain ⟨i,rfl⟩:∃ i:Nat,col=i:=⟨col.toNat,by omega⟩
 have:=List.all_eq_true.1 let_all i (List.mem_range.2 (by omega))
 simpa using this
theorem runL_app {p:UInt8->Bool} {x:List UInt8} (hx:∀ c,x[0]? = some c->p c=false):∀ {l:List UInt8},(∀ c∈l,p c=true)->runL p (l++x)=l.length
 | [],_=>by
   cases x with
   | nil=>rfl
   | cons c x=>
     simp only [List.nil_append,runL,hx c rfl]
     rfl
 | c::l,h=>by
   simp only [List.cons_append,runL,h c (by simp),if_true,List.length_cons]
   rw [runL_app hx fun c hc=>h c (by simp [hc])]
def dolP (b:Bool):List UInt8:=if b then [36] else []
def textP (r:Ref):List UInt8:=dolP r.absCol++lettersP r.col++dolP r.absRow++numT r.row
theorem text_len {r:Ref} (hg:r.good=true):2<=(textP r).length/\(textP r).length<=10:=by
 simp only [Ref.good,decide_eq_true_eq] at hg
 obtain ⟨g1,g2,g3,g4⟩:=hg
 obtain ⟨l1,l2⟩:=let_facts g3 g4
 obtain ⟨n1,n2,n3,n4,n5⟩:=num_facts g1 g2
 have:=letters_len r.col
 unfold textP dolP
 simp only [List.length_append]
 constructor
 ·omega
 ·split<;>split<;>simp<;>omega
end Go.A
namespace Go.A
inductive Nd where
 | mk (op n:Int) (s:List UInt8) (a b:Ref) (kids:List Nd)
instance:Inhabited Nd:=⟨.mk 0 0 [] .zero .zero []⟩
def Nd.op:Nd->Int | .mk op _ _ _ _ _=>op
def Nd.kids:Nd->List Nd | .mk _ _ _ _ _ k=>k
mutual
def Nd.av:Nd->AV
 | .mk op n s a b kids => .agg [.int .i64 op,.int .i64 n,.str s,.int .i64 a.row,.int .i64 a.col,.bool a.absRow,.bool a.absCol,.int .i64 b.row,.int .i64 b.col,.bool b.absRow,.bool b.absCol,.sl .shr (Nd.avs kids)]
def Nd.avs:List Nd->List AV
 | [] => []
 | x::xs=>x.av::Nd.avs xs
end
theorem Nd.avs_map:∀ l:List Nd,Nd.avs l=l.map Nd.av
 | []=>rfl
 | x::xs=>by rw [Nd.avs,Nd.avs_map xs];rfl
theorem Nd.av_eq (op n:Int) (s:List UInt8) (a b:Ref) (kids:List Nd):(Nd.mk op n s a b kids).av = .agg [.int .i64 op,.int .i64 n,.str s,.int .i64 a.row,.int .i64 a.col,.bool a.absRow,.bool a.absCol,.int .i64 b.row,.int .i64 b.col,.bool b.absRow,.bool b.absCol,.sl .shr (kids.map Nd.av)]:=by
 rw [Nd.av,Nd.avs_map]
def Nd.cs (op n:Int) (s:List UInt8) (a b:Ref) (L:List AV):List AV := [.int .i64 op,.int .i64 n,.str s,.int .i64 a.row,.int .i64 a.col,.bool a.absRow,.bool a.absCol,.int .i64 b.row,.int .i64 b.col,.bool b.absRow,.bool b.absCol,.sl .shr L]
theorem Nd.av_cs (op n:Int) (s:List UInt8) (a b:Ref) (kids:List Nd):(Nd.mk op n s a b kids).av = .agg (Nd.cs op n s a b (kids.map Nd.av)):=Nd.av_eq ..
section
variable {op n:Int} {s:List UInt8} {a b:Ref} {L:List AV}
@[go_sem] theorem cs_0:(Nd.cs op n s a b L)[0]? = some (.int .i64 op):=id rfl
@[go_sem] theorem cs_1:(Nd.cs op n s a b L)[1]? = some (.int .i64 n):=id rfl
@[go_sem] theorem cs_2:(Nd.cs op n s a b L)[2]? = some (.str s):=id rfl
@[go_sem] theorem cs_11:(Nd.cs op n s a b L)[11]? = some (.sl .shr L):=id rfl
@[go_sem] theorem cs_len:(Nd.cs op n s a b L).length=12:=id rfl
@[go_sem] theorem cs_leaves:leaves (Nd.cs op n s a b L)=true:=id rfl
@[go_sem] theorem cs_take:(Nd.cs op n s a b L).take 12=Nd.cs op n s a b L:=id rfl
@[go_sem] theorem cs_ta:((Nd.cs op n s a b L).drop 3).take 4 = [.int .i64 a.row,.int .i64 a.col,.bool a.absRow,.bool a.absCol]:=id rfl
@[go_sem] theorem cs_tb:((Nd.cs op n s a b L).drop 7).take 4 = [.int .i64 b.row,.int .i64 b.col,.bool b.absRow,.bool b.absCol]:=id rfl
end
theorem Nd.av_len (n:Nd):n.av.cells.length=12:=by cases n;rfl
theorem Nd.av_leaves (n:Nd):leaves n.av.cells=true:=by cases n;rfl
theorem Nd.get {l:List Nd} {i:Nat} {x:Nd} (h:l[i]? = some x):(l.map Nd.av)[i]? = some x.av:=by rw [List.getElem?_map,h];rfl
mutual
theorem Nd.deep:∀ n:Nd,Go.A.deep n.av=n.av
 | .mk op n s a b kids=>by
   rw [Nd.av,Go.A.deep]
   simp only [Go.A.deeps,Go.A.deep,Nd.deeps kids]
theorem Nd.deeps:∀ l:List Nd,Go.A.deeps (Nd.avs l)=Nd.avs l
 | []=>rfl
 | x::xs=>by rw [Nd.avs,Go.A.deeps,Nd.deep x,Nd.deeps xs]
end
mutual
def Nd.size:Nd->Nat
 | .mk _ _ _ _ _ kids=>1+Nd.sizes kids
def Nd.sizes:List Nd->Nat
 | []=>0
 | x::xs=>x.size+Nd.sizes xs
end
theorem Nd.size_kid:∀ {l:List Nd} {x:Nd},x∈l->x.size<=Nd.sizes l
 | [],_,h=>by cases h
 | y::l,x,h=>by
   rw [Nd.sizes]
   rcases List.mem_cons.1 h with rfl|h
   ·omega
   ·have:=Nd.size_kid h;omega
theorem Nd.size_pos (n:Nd):0<n.size:=by cases n;rw [Nd.size];omega
mutual
def Nd.depth:Nd->Nat
 | .mk _ _ _ _ _ kids=>Nd.depths kids+1
def Nd.depths:List Nd->Nat
 | []=>0
 | x::xs=>max x.depth (Nd.depths xs)
end
theorem Nd.depth_le_size:∀ n:Nd,n.depth<=n.size:=by
 intro n
 induction h:n.size using Nat.strongRecOn generalizing n with
 | _ k ih=>
   obtain ⟨op,m,s,a,b,kids⟩:=n
   subst h
   rw [Nd.size] at ih ⊢
   rw [Nd.depth]
   have key:∀ l:List Nd,(∀ x∈l,x.depth<=x.size)->Nd.depths l<=Nd.sizes l:=by
    intro l
    induction l with
    | nil=>intro _;exact Nat.le_refl _
    | cons x l ihl=>
      intro hx
      rw [Nd.depths,Nd.sizes]
      have h1:=hx x (by simp)
      have h2:=ihl fun y hy=>hx y (by simp [hy])
      omega
   have:=key kids fun x hx=>ih _ (by have:=Nd.size_kid hx;omega) x rfl
   omega
def levelP (op:Int):Int:=
 if op=7\/op=8 then 6 else if op=9 then 7 else if op<10\/22<=op then 8
 else if op<=11 then 3 else if op<=13 then 4 else if op=14 then 5 else if op=15 then 2 else 1
def signL:List (List UInt8) := [[43],[45],[42],[47],[94],[38],[61],[60,62],[60],[60,61],[62],[62,61]]
def errL:List (List UInt8) := [[35,68,73,86,47,48,33],[35,78,85,77,33],[35,86,65,76,85,69,33],[35,82,69,70,33],[35,78,47,65],[35,78,65,77,69,63],[35,67,89,67,76,69,33]]
def failT (op n:Int):List UInt8:=if op≠4\/n.tdiv 10000<1\/7<n.tdiv 10000 then [] else errL.getD (n.tdiv 10000-1).toNat []
def truthP (b:Bool):List UInt8:=if b=true then [84,82,85,69] else [70,65,76,83,69]
def quotT (s:List UInt8):List UInt8:=34::(s.flatMap fun c=>if c=34 then [34,34] else [c]) ++ [34]
def insT (least:Int) (op:Int) (t:List UInt8):List UInt8:=if least<=levelP op then t else 40::t ++ [41]
def joinC:List (Int×List UInt8)->List UInt8
 | [] => []
 | p::r=>p.2++r.flatMap fun q=>44::q.2
def spellK (op n:Int) (s:List UInt8) (a b:Ref) (ks:List (Int×List UInt8)):List UInt8:=
 if op=1 then textD n else if op=2 then quotT s else if op=3 then truthP (!decide (n=0)) else if op=4 then failT op n else if op=5 then textP a else if op=6 then textP a ++ [58]++textP b
 else if op=7\/op=8 then (if op=7 then 45 else 43)::insT 6 (ks.getD 0 (0,[])).1 (ks.getD 0 (0,[])).2
 else if op=9 then insT 7 (ks.getD 0 (0,[])).1 (ks.getD 0 (0,[])).2 ++ [37]
 else if op=22 then s++40::joinC ks ++ [41]
 else if op=23 then []
 else insT (levelP op) (ks.getD 0 (0,[])).1 (ks.getD 0 (0,[])).2++signL.getD (op-10).toNat []++insT (levelP op+1) (ks.getD 1 (0,[])).1 (ks.getD 1 (0,[])).2
mutual
def Nd.spell:Nd->List UInt8
 | .mk op n s a b kids=>spellK op n s a b (Nd.spells kids)
def Nd.spells:List Nd->List (Int×List UInt8)
 | [] => []
 | x::xs=>(x.op,x.spell)::Nd.spells xs
end
theorem Nd.spells_map:∀ l:List Nd,Nd.spells l=l.map fun x=>(x.op,x.spell)
 | []=>rfl
 | x::xs=>by rw [Nd.spells,Nd.spells_map xs];rfl
def nodeOk (op n:Int) (s:List UInt8) (a b:Ref) (k:Nat):Prop:=
 (1<=op/\op<=23)/\(op=1->n.natAbs<=999999999999999999)/\(op=2->s.length<=100000)/\(op=4->1<=n.tdiv 10000/\n.tdiv 10000<=7)/\(op=22->s ≠ [])/\(op=5\/op=6->a.good=true)/\(op=6->b.good=true)/\(op=7\/op=8\/op=9->1<=k)/\(10<=op/\op<=21->2<=k)/\k<=1000000
mutual
def Nd.ok:Nd->Prop
 | .mk op n s a b kids=>nodeOk op n s a b kids.length/\Nd.oks kids
def Nd.oks:List Nd->Prop
 | []=>True
 | x::xs=>x.ok/\Nd.oks xs
end
theorem Nd.oks_mem:∀ {l:List Nd},Nd.oks l↔∀ x∈l,x.ok
 | []=>by simp [Nd.oks]
 | y::l=>by rw [Nd.oks,Nd.oks_mem (l:=l)];simp
end Go.A
end
namespace Go.A
open Go.Proofs Go.Shelf Go.RowKit
section
variable {P:Program} {ρ:Ren}
set_option maxHeartbeats 2000000 in
theorem bstr_used (L:Lays.n169 P ρ) (X:Builder.Extra P ρ) (b g cap size:Nat) (l:List UInt8) (w:World) (h0:l ≠ []) (hc1:w.cell? ⟨b,1,none⟩=some (.slice (some ⟨g,0,none⟩) l.length cap)) (hcap:cap≠0)
  (hsh:w.shape? g=some (ρ.t 5,size)) (hle:l.length<=size) (h63:l.length<=9223372036854775807) (hcell:∀ j x,l[j]? = some x->w.cell? ⟨g,j,none⟩=some (.int .u8 x.toNat)) :
  Calls P (ρ.f 169) #[.pointer (some ⟨b,0,none⟩)] w fun e w'=>e = .returned (.string ⟨l.toArray⟩)/\w'=w.drew.freeze ⟨g,0,none⟩ l.length:=by
 have c1:w.drew.cell? ⟨b,1,none⟩=some (.slice (some ⟨g,0,none⟩) l.length cap):=hc1
 have hSD:(Builtin.unsafeSliceData_ #[(ρ.t 37)] (ρ.t 127) #[.slice (some ⟨g,0,none⟩) l.length cap]).run P w.drew = .ok (.pointer (some ⟨g,0,none⟩)) w.drew:=
  Lib.run_unsafeSliceData_row _ _ _ _ _ _ hcap
 have hUS:(Builtin.unsafeString_ #[(ρ.t 127),(ρ.t 3)] (ρ.t 9) #[.pointer (some ⟨g,0,none⟩),.int .i64 l.length]).run P w.drew = .ok (.string ⟨l.toArray⟩) (w.drew.freeze ⟨g,0,none⟩ l.length):=by
  refine Lib.run_unsafeString_row w.drew (ρ.t 127) (ρ.t 3) (ρ.t 9) (ρ.t 5) L.t127 X.cellsByte g size hsh l h0 hle h63 ?_
  intro j x hx
  rw [addr_add',Nat.zero_add]
  exact hcell j x hx
 have mixed:=L.mixed
 have t72:=L.t72;have a72:=L.a72;have z72:=L.z72;have v72:=L.v72;have u72:=run_underlying L.t72
 have t70:=L.t70;have a70:=L.a70;have z70:=L.z70;have v70:=L.v70;have u70:=run_underlying L.t70
 have t37:=L.t37;have a37:=L.a37;have z37:=L.z37;have v37:=L.v37;have u37:=run_underlying L.t37
 have t127:=L.t127;have a127:=L.a127;have z127:=L.z127;have v127:=L.v127;have u127:=run_underlying L.t127
 have t3:=L.t3;have a3:=L.a3;have z3:=L.z3;have v3:=L.v3;have u3:=run_underlying L.t3
 have t9:=L.t9;have a9:=L.a9;have z9:=L.z9;have v9:=L.v9;have u9:=run_underlying L.t9
 have t5:=X.t5;have a5:=X.a5;have z5:=X.z5;have v5:=X.v5;have u5:=run_underlying X.t5
 go_enter L.f169,Body.n169_ntmps ρ
 go_wp2
 go_region_o
 all_goals (go_wp2;go_ret;exact ⟨rfl,rfl⟩)
set_option maxHeartbeats 2000000 in
theorem bstr_nil (L:Lays.n169 P ρ) (X:Builder.Extra P ρ) (b:Nat) (w:World) (hc1:w.cell? ⟨b,1,none⟩=some (.slice none 0 0)) :
  Calls P (ρ.f 169) #[.pointer (some ⟨b,0,none⟩)] w fun e w'=>e = .returned (.string ⟨#[]⟩)/\w'=w.drew:=by
 have hUS:=Any.unsafeString_none L X
 have c1:w.drew.cell? ⟨b,1,none⟩=some (.slice none 0 0):=hc1
 have hSD:(Builtin.unsafeSliceData_ #[(ρ.t 37)] (ρ.t 127) #[.slice none 0 0]).run P w.drew = .ok (.pointer none) w.drew:=rfl
 have mixed:=L.mixed
 have t72:=L.t72;have a72:=L.a72;have z72:=L.z72;have v72:=L.v72;have u72:=run_underlying L.t72
 have t70:=L.t70;have a70:=L.a70;have z70:=L.z70;have v70:=L.v70;have u70:=run_underlying L.t70
 have t37:=L.t37;have a37:=L.a37;have z37:=L.z37;have v37:=L.v37;have u37:=run_underlying L.t37
 have t127:=L.t127;have a127:=L.a127;have z127:=L.z127;have v127:=L.v127;have u127:=run_underlying L.t127
 have t3:=L.t3;have a3:=L.a3;have z3:=L.z3;have v3:=L.v3;have u3:=run_underlying L.t3
 have t9:=L.t9;have a9:=L.a9;have z9:=L.z9;have v9:=L.v9;have u9:=run_underlying L.t9
 have t5:=X.t5;have a5:=X.a5;have z5:=X.z5;have v5:=X.v5;have u5:=run_underlying X.t5
 go_enter L.f169,Body.n169_ntmps ρ
 go_wp2
 go_region_o
 all_goals (go_wp2;go_ret;exact ⟨rfl,rfl⟩)
end
theorem size_bld:(Tryz.prog.info? 149).map (·.size)=some 2:=by kernel_rfl
theorem lies_bld:liesAt Tryz.prog Tryz.prog.depth 149 (2 / Tryz.prog.cellsOf 149) 0 149 1=true:=by kernel_rfl
set_option maxHeartbeats 1000000 in
set_option maxRecDepth 1000000 in
theorem cc_used (b:Nat) (w:World) (h0:w.cell? ⟨b,0,none⟩=some (.pointer (some ⟨b,0,none⟩))) :
  Calls Tryz.prog 173 #[.pointer (some ⟨b,0,none⟩)] w fun e w'=>e = .returned (.tuple #[])/\w'=w:=by
 obtain ⟨j,hj,_⟩:=Option.map_eq_some_iff.1 size_bld
 go_enter Tryz.func173,Tryz.ntmps173
 go_wp2
 rw [Lib.run_neq_ptr_same w _ Tryz.underlying147 hj]
 go_wp2
 go_end0
 exact ⟨rfl,rfl⟩
set_option maxHeartbeats 1000000 in
set_option maxRecDepth 1000000 in
theorem cc_fresh (b:Nat) (w:World) (h0:w.cell? ⟨b,0,none⟩=some (.pointer none)) (hsh:w.shape? b=some (149,2)) (hfz:w.frozen? ⟨b,0,none⟩=false) :
  Calls Tryz.prog 173 #[.pointer (some ⟨b,0,none⟩)] w fun e w'=>e = .returned (.tuple #[])/\w'=w.setCell ⟨b,0,none⟩ (.pointer (some ⟨b,0,none⟩)):=by
 obtain ⟨j,hj,hjs⟩:=Option.map_eq_some_iff.1 size_bld
 go_enter Tryz.func173,Tryz.ntmps173
 go_wp2
 rw [Lib.run_to_unsafe w ⟨b,0,none⟩ Tryz.underlying147 Tryz.underlying250 hj (by rw [hjs];decide) hsh (Nat.zero_lt_succ 1)]
 simp only [Result.andThen]
 rw [Oper.upon_value]
 go_wp2
 rw [run_callFunc_extern Tryz.func205 (by kernel_rfl) (by kernel_rfl) (by kernel_rfl) (e:=Extern.AbiNoEscape.same) (by kernel_rfl)]
 rw [Lib.run_noEscape]
 simp only [Result.andThen]
 rw [Oper.upon_value]
 go_wp2
 rw [Lib.run_from_unsafe w ⟨b,0,none⟩ Tryz.underlying250 Tryz.underlying147 hj hsh lies_bld]
 simp only [Result.andThen]
 rw [Oper.upon_value]
 go_wp2
 go_end0
 exact ⟨rfl,rfl⟩
end Go.A
namespace Go.A
open Go.Proofs
theorem copyCheck_typ {σ:ASt} {b:Nat} (h:σ b=some (.typ 149 [.pointer none,.slice none 0 0])) :
  ACalls Tryz.prog 173 [.ptr b 0] σ fun v σ'=>v = .tuple []/\σ'=σ.set b (some (.obj [.ptr b 0,.sl .full []])):=by
 intro w vs hs ha
 cases ha with
 | cons h1 h2=>
 cases h1;cases h2
 have hb:w.heap[b]? = some (.cells ⟨[.pointer none,.slice none 0 0]⟩ 149 (0,0)):=hs b _ h
 refine (cc_fresh b w (by simp [World.cell?,hb]) (by simp [World.shape?,hb]) (by simp [World.frozen?,hb])).mono ?_
 rintro e w' ⟨rfl,rfl⟩
 have hw:=Wrote.setCell (o:=0) hb (.pointer (some ⟨b,0,none⟩))
 have hle:Le σ w (σ.set b (some (.obj [.ptr b 0,.sl .full []]))) (w.setCell ⟨b,0,none⟩ (.pointer (some ⟨b,0,none⟩))):=by
  refine ⟨hw.os,hw.tape,hw.output,by rw [hw.size];exact Nat.le_refl _,fun x hx hn=>?_,fun x cs hx hn=>?_,fun x f hx hn=>?_⟩
  all_goals have hne:x≠b:=by rintro rfl;rw [h] at hn;cases hn
  ·rw [ASt.set_ne hne];exact ⟨hn,hw.other x hne⟩
  ·rw [ASt.set_ne hne];exact ⟨.inr hn,hw.other x hne⟩
  ·rw [ASt.set_ne hne];exact ⟨.inr ⟨f,Nat.le_refl _,hn⟩,shape_of_heap_eq (hw.other x hne),fun o _=>cell_of_heap_eq (hw.other x hne) o⟩
 have hro:RoleOk (σ.set b (some (.obj [.ptr b 0,.sl .full []]))) (w.setCell ⟨b,0,none⟩ (.pointer (some ⟨b,0,none⟩))) b (.obj [.ptr b 0,.sl .full []]):=by
  refine ⟨_,_,_,hw.new,?_,fun o ho=>?_⟩
  ·exact .cons (.ptr _ _) (.cons .slN .nil)
  ·rw [hw.frozen]
   simp only [World.frozen?,hb]
   simp
 exact ⟨_,_,_,rfl,⟨rfl,rfl⟩,hle,hw.sim hs hle hro,.tuple .nil⟩
theorem copyCheck_used {σ:ASt} {b:Nat} {x:AV} (h:σ b=some (.obj [.ptr b 0,x])):ACalls Tryz.prog 173 [.ptr b 0] σ fun v σ'=>v = .tuple []/\σ'=σ:=by
 intro w vs hs ha
 cases ha with
 | cons h1 h2=>
 cases h1;cases h2
 obtain ⟨us,h3,h4,_⟩:=hs.objCell h
 cases h3 with
 | cons h5 h6=>
 cases h5
 refine (cc_used b w (h4 0 _ rfl)).mono ?_
 rintro e w' ⟨rfl,rfl⟩
 exact ⟨_,_,_,rfl,⟨rfl,rfl⟩,Le.refl _ _,hs,.tuple .nil⟩
theorem bstring_typ {σ:ASt} {b:Nat} (h:σ b=some (.typ 149 [.pointer none,.slice none 0 0])):ACalls Tryz.prog 76 [.ptr b 0] σ fun v σ'=>v = .str []/\σ'=σ:=by
 intro w vs hs ha
 cases ha with
 | cons h1 h2=>
 cases h1;cases h2
 have hb:w.heap[b]? = some (.cells ⟨[.pointer none,.slice none 0 0]⟩ 149 (0,0)):=hs b _ h
 refine (bstr_nil Tryz.lays169 Tryz.Builder_Extra_169 b w (by simp [World.cell?,hb])).mono ?_
 rintro e w' ⟨rfl,rfl⟩
 have hx:Ext w w.drew:=Ext.drew (Ext.refl w)
 exact ⟨_,_,_,rfl,⟨rfl,rfl⟩,ext_le hx,hs.ext hx,.str []⟩
theorem row_bytes {σ:ASt} {w:World} {b:Nat}:∀ {l:List UInt8} {o:Nat},Row σ w b o 1 (bytesAV l)->∀ j x,l[j]? = some x->w.cell? ⟨b,o+j,none⟩=some (.int .u8 x.toNat)
 | [],o,h,j,x,hj=>by simp at hj
 | c::l,o,h,j,x,hj=>by
   cases h with
   | cons h1 h2 h3=>
   cases j with
   | zero=>
     simp only [List.getElem?_cons_zero,Option.some.injEq] at hj
     subst hj
     cases h2 with
     | cons g1 g2 g3 g4=>
     cases g3
     exact g2
   | succ j=>
     have:=row_bytes (l:=l) h3 j x (by simpa using hj)
     rw [show o+(j+1)=o+1+j by omega]
     exact this
theorem bstring_used {σ:ASt} {b g:Nat} {p:AV} {l:List UInt8} (h0:l ≠ []) (hl:l.length<=9223372036854775807) (h:σ b=some (.obj [p,.sl (.tok g 1 5) (bytesAV l)])) (hg:σ g=some (.tok l.length)) :
  ACalls Tryz.prog 76 [.ptr b 0] σ fun v σ'=>v = .str l/\σ'=σ:=by
 intro w vs hs ha
 cases ha with
 | cons h1 h2=>
 cases h1;cases h2
 obtain ⟨us,h3,h4,h9⟩:=hs.objCell h
 cases h3 with
 | cons h5 h6=>
 cases h6 with
 | cons h7 h8=>
 cases h8
 obtain ⟨c,T,fr,k1,k2,k3⟩:=hs g _ hg
 have hlen:(bytesAV l).length=l.length:=by simp [bytesAV]
 generalize hbl:bytesAV l=bl at h7
 cases h7 with
 | sl r1 r2 r3 r4 r5=>
 subst hbl
 obtain ⟨rfl,rfl,rfl,r6,r7⟩:=r4
 have hpos:0<l.length:=List.length_pos_iff.2 h0
 subst r2
 rw [hlen] at r3
 have hc1:=h4 1 _ rfl
 rw [hlen] at hc1
 refine (bstr_used Tryz.lays169 Tryz.Builder_Extra_169 b g _ _ l w h0 hc1 (by omega) r6 (by omega) hl ?_).mono ?_
 ·intro j x hj
  have:=row_bytes r1 j x hj
  simpa using this
 rintro e w' ⟨rfl,rfl⟩
 have hother:∀ x,x≠g->(w.drew.freeze ⟨g,0,none⟩ l.length).heap[x]? = w.heap[x]? := by
  intro x hx
  simp only [World.freeze]
  rw [if_neg (by omega)]
  simp only [Array.getElem?_modify]
  rw [if_neg (Ne.symm hx)]
  rfl
 obtain ⟨lo,hi⟩:=fr
 have hk1:w.drew.heap[g]? = some (.cells c T (lo,hi)):=k1
 obtain ⟨fr',hfr,hnew⟩:∃ fr':Nat×Nat,fr'.2<=l.length/\(w.drew.freeze ⟨g,0,none⟩ l.length).heap[g]? = some (.cells c T fr'):=by
  refine ⟨if lo==hi then (0,0+l.length) else (min lo 0,max hi (0+l.length)),?_,?_⟩
  ·dsimp only at k3
   split<;>dsimp only<;>omega
  ·simp only [World.freeze]
   rw [if_neg (by omega)]
   simp only [Array.getElem?_modify,if_true,hk1,Option.map_some]
 have hshape:(w.drew.freeze ⟨g,0,none⟩ l.length).shape? g=w.shape? g:=by simp only [World.shape?,hnew,k1]
 have hcells:∀ o,(w.drew.freeze ⟨g,0,none⟩ l.length).cell? ⟨g,o,none⟩=w.cell? ⟨g,o,none⟩:=fun o=>by simp only [World.cell?,hnew,k1]
 have hle:Le σ w σ (w.drew.freeze ⟨g,0,none⟩ l.length):=by
  refine ⟨?_,?_,?_,?_,fun x hx hn=>?_,fun x cs hx hn=>?_,fun x f hx hn=>?_⟩
  ·simp only [World.freeze];split<;>rfl
  ·simp only [World.freeze];split<;>rfl
  ·simp only [World.freeze];split<;>rfl
  ·simp only [World.freeze];split
   ·exact Nat.le_refl _
   ·rw [Array.size_modify];exact Nat.le_refl _
  ·have hne:x≠g:=by rintro rfl;rw [hg] at hn;cases hn
   exact ⟨hn,hother x hne⟩
  ·have hne:x≠g:=by rintro rfl;rw [hg] at hn;cases hn
   exact ⟨.inr hn,hother x hne⟩
  ·by_cases hne:x=g
   ·subst hne
    exact ⟨.inr ⟨f,Nat.le_refl _,hn⟩,hshape,fun o _=>hcells o⟩
   ·exact ⟨.inr ⟨f,Nat.le_refl _,hn⟩,shape_of_heap_eq (hother x hne),fun o _=>cell_of_heap_eq (hother x hne) o⟩
 have hsim:Sim σ (w.drew.freeze ⟨g,0,none⟩ l.length):=by
  intro x q hx
  by_cases hne:x=g
  ·subst hne
   rw [hg] at hx
   injection hx with hx
   subst hx
   exact ⟨c,T,fr',hnew,k2,hfr⟩
  ·exact (hs x q hx).keep hle (hother x hne)
 exact ⟨_,_,_,rfl,⟨rfl,rfl⟩,hle,hsim,.str l⟩
end Go.A
namespace Go.A
open Go.Proofs
/-! 122: tabular/token.Quote -/
def c122_3:ACode := .seq (.ops [ oq 2 (.mv (.v (.str [])))]) (.seq (.ops [ oq 3 (.mv (.t 0)),oe 4 (.call 177 [(.t 3),(.v (.str [34])),(.v (.str [34,34]))]),oq 5 (.bin .add (.v (.str [34])) (.t 4)),oq 6 (.bin .add (.t 5) (.v (.str [34]))),oq 2 (.mv (.t 6))]) .ret)
@[go_sem] def c122_3_wp:=wp_of c122_3.eq_1
def c122:AFn:=⟨7,[.t 2],c122_3⟩
theorem c122_ok:compF Tryz.prog Tryz.f122=some c122:=by kernel_rfl
theorem a122 {args:List AV} {σ:ASt} {R:AV->ASt->Prop} (hl:args.length<=7) (h:c122_3.wp Tryz.prog (RetQ [.t 2] R) (init args) σ):ACalls Tryz.prog 122 args σ R:=aFq Tryz.func122 c122_ok hl h
end Go.A
section
attribute [local go_sem] reduceCtorEq Nat.reduceEqDiff Nat.reduceAdd Nat.reduceSub Nat.reduceMul Nat.reduceLeDiff Int.reduceLT Int.reduceLE Int.reduceEq Int.reduceNeg Int.reduceAdd Int.reduceSub Int.reduceMul true_imp_iff forall_const Nat.mul_one Int.reduceToNat Nat.reducePow Int.reducePow Bool.true_and Bool.false_and Bool.and_false
attribute [local go_sem ↓] reduceIte
namespace Go.A
open Go.Proofs Go.Lib
def dbl (s:List UInt8):List UInt8:=s.flatMap fun c=>if c=34 then [34,34] else [c]
theorem dbl_q (s:List UInt8):dbl (34::s)=34::34::dbl s:=by simp [dbl]
theorem dbl_o {c:UInt8} (h:c≠34) (s:List UInt8):dbl (c::s)=c::dbl s:=by simp [dbl,h]
theorem rep_ne {c:UInt8} (hc:c≠34) (new:List UInt8):∀ (k:Nat) (s:List UInt8),replaceK [34] new k (c::s)=c::replaceK [34] new k s
 | 0,s=>rfl
 | k+1,s=>by
   have hp:([34]:List UInt8).isPrefixOf (c::s)=false:=by
    simp [List.isPrefixOf]
    exact fun h=>hc h.symm
   have hi:index (c::s) [34]=if index s [34] == -1 then -1 else index s [34]+1:=by
    rw [index,hp]
    simp
   unfold replaceK
   rw [hi]
   have hge:=index_ge s [34]
   by_cases h:index s [34] = -1
   ·have hb:(index s [34] == -1)=true:=by rw [h];rfl
    rw [if_pos hb,if_pos (by rfl),if_pos hb]
   ·have hb:¬ (index s [34] == -1)=true:=by rw [beq_iff_eq];exact h
    rw [if_neg hb,if_neg (by rw [beq_iff_eq];omega),if_neg hb]
    have e:(index s [34]+1).toNat=(index s [34]).toNat+1:=by omega
    rw [e,List.take_succ_cons]
    simp only [List.length_cons,List.length_nil,List.cons_append]
    rw [show (index s [34]).toNat+1+(0+1)=((index s [34]).toNat+(0+1))+1 by omega,List.drop_succ_cons]
theorem rep_eq (new:List UInt8) (k:Nat) (s:List UInt8):replaceK [34] new (k+1) (34::s)=new++replaceK [34] new k s:=by
 have hi:index (34::s) [34]=0:=by
  rw [index]
  simp [List.isPrefixOf]
 rw [replaceK,hi]
 simp
theorem rep_dbl:∀ s:List UInt8,replaceK [34] [34,34] (s.count 34) s=dbl s
 | []=>rfl
 | c::s=>by
   by_cases hc:c=34
   ·subst hc
    rw [List.count_cons_self,rep_eq,rep_dbl s,dbl_q]
    rfl
   ·rw [List.count_cons_of_ne (by simpa using hc),rep_ne hc,rep_dbl s,dbl_o hc]
theorem replace_dbl (s:List UInt8):replaceAll s [34] [34,34]=dbl s:=by
 unfold replaceAll replace replaceNum
 rw [if_neg (by decide),if_pos (.inl (by omega)),count_one,rep_dbl]
theorem dbl_len (s:List UInt8):(dbl s).length<=2*s.length:=by
 induction s with
 | nil=>simp [dbl]
 | cons c s ih=>
   by_cases hc:c=34
   ·subst hc;rw [dbl_q];simp;omega
   ·rw [dbl_o hc];simp;omega
def MaxL (σ:ASt):Prop:=∃ m:Int,σ 4=some (.fix ([m].map (AV.int .i64)))
theorem replace_ok {σ:ASt} (hM:MaxL σ) (s:List UInt8) (hs:s.length<=100000):ACalls Tryz.prog 177 [.str s,.str [34],.str [34,34]] σ fun v σ'=>v = .str (dbl s)/\σ'=σ:=by
 obtain ⟨m,hm⟩:=hM
 refine ACalls.of_below (u := .string ⟨⟨dbl s⟩⟩) (fun w vs hsim ha=>?_) fun w => .str _
 cases ha with
 | cons h1 h2=>
 cases h2 with
 | cons h2 h3=>
 cases h3 with
 | cons h3 h4=>
 cases h1;cases h2;cases h3;cases h4
 have hcell:=fix_ints hsim hm 0 m rfl
 have e1:(⟨⟨s⟩⟩:ByteArray).size=s.length:=rfl
 have e2:(⟨⟨[34,34]⟩⟩:ByteArray).size=2:=rfl
 have hcb:countB ⟨⟨s⟩⟩ ⟨⟨[34]⟩⟩<=s.length:=by
  show count s [34]<=s.length
  rw [count_one]
  exact List.count_le_length
 refine (Tryz.strings_ReplaceAll ⟨⟨s⟩⟩ ⟨⟨[34]⟩⟩ ⟨⟨[34,34]⟩⟩ m w (by rw [e1];omega) hcell (by decide) (by rw [e1,e2];omega)).mono ?_
 rintro e w' ⟨rfl,hb⟩
 refine ⟨?_,hb⟩
 show _=Ending.returned (.string ⟨⟨dbl s⟩⟩)
 rw [<-replace_dbl]
theorem tquote_ok {σ:ASt} (hM:MaxL σ) (s:List UInt8) (hs:s.length<=100000):ACalls Tryz.prog 122 [.str s] σ fun v σ'=>v = .str (34::dbl s ++ [34])/\σ'=σ:=by
 have hl:=dbl_len s
 refine a122 (by simp) ?_
 simp (disch:=first|assumption|omega) only [go_sem]
 refine (replace_ok hM s hs).mono ?_
 rintro v σ' ⟨rfl,rfl⟩
 have e1:binS .add [34] (dbl s)=some (.str (34::dbl s)):=binS_add (by simp;omega)
 have e2:binS .add (34::dbl s) [34]=some (.str (34::dbl s ++ [34])):=binS_add (by simp;omega)
 simp (disch:=first|assumption|omega) only [go_sem,e1,e2]
 exact retC_by (Drop.refl _) (.refl _) ⟨rfl,rfl⟩
end Go.A
namespace Go.A
open Go.Proofs
/-! 125: (tabular/addr.Ref).Text -/
def c125_3:ACode := .seq (.ops [ oe 1 (.box (.t 0)),oq 2 (.mv (.v (.str [])))]) (.seq (.ops [ oq 3 (.fa 3 (.t 1)),oq 4 (.ld none (.t 3)),oq 6 (.fa 1 (.t 1)),oq 7 (.ld none (.t 6)),oq 10 (.fa 2 (.t 1)),oq 11 (.ld none (.t 10)),oq 14 (.fa 0 (.t 1)),oq 15 (.ld none (.t 14)),oq 16 (.bin .add (.t 15) (.v (.int .i64 1))),⟨some 5,none,.e (.call 179 [(.t 4)]),[⟨none,.ld none (.t 6),7⟩,⟨none,.ld none (.t 10),11⟩,⟨none,.ld none (.t 14),15⟩]⟩,⟨some 8,none,.e (.call 180 [(.t 7)]),[⟨none,.ld none (.t 10),11⟩,⟨none,.ld none (.t 14),15⟩]⟩,oq 9 (.bin .add (.t 5) (.t 8)),⟨some 12,none,.e (.call 179 [(.t 11)]),[⟨none,.ld none (.t 14),15⟩]⟩,oq 13 (.bin .add (.t 9) (.t 12)),oe 17 (.call 181 [(.t 16)]),oq 18 (.bin .add (.t 13) (.t 17)),oq 2 (.mv (.t 18))]) .ret)
@[go_sem] def c125_3_wp:=wp_of c125_3.eq_1
def c125:AFn:=⟨19,[.t 2],c125_3⟩
theorem c125_ok:compF Tryz.prog Tryz.f125=some c125:=by kernel_rfl
theorem a125 {args:List AV} {σ:ASt} {R:AV->ASt->Prop} (hl:args.length<=19) (h:c125_3.wp Tryz.prog (RetQ [.t 2] R) (init args) σ):ACalls Tryz.prog 125 args σ R:=aFq Tryz.func125 c125_ok hl h
/-! 126: (tabular/addr.Area).Text -/
def c126_3:ACode := .seq (.ops [ oe 1 (.box (.t 0)),oq 2 (.mv (.v (.str [])))]) (.seq (.ops [ oq 3 (.fa 0 (.t 1)),oq 4 (.ld (some 4) (.t 3)),oq 7 (.fa 4 (.t 1)),oq 8 (.ld (some 4) (.t 7)),⟨some 5,none,.e (.call 125 [(.t 4)]),[⟨none,.ld (some 4) (.t 7),8⟩]⟩,oq 6 (.bin .add (.t 5) (.v (.str [58]))),oe 9 (.call 125 [(.t 8)]),oq 10 (.bin .add (.t 6) (.t 9)),oq 2 (.mv (.t 10))]) .ret)
@[go_sem] def c126_3_wp:=wp_of c126_3.eq_1
def c126:AFn:=⟨11,[.t 2],c126_3⟩
theorem c126_ok:compF Tryz.prog Tryz.f126=some c126:=by kernel_rfl
theorem a126 {args:List AV} {σ:ASt} {R:AV->ASt->Prop} (hl:args.length<=11) (h:c126_3.wp Tryz.prog (RetQ [.t 2] R) (init args) σ):ACalls Tryz.prog 126 args σ R:=aFq Tryz.func126 c126_ok hl h
/-! 179: tabular/addr.dollar -/
def c179_9:ACode := .seq (.ops [ oq 2 (.mv (.v (.str [])))]) (.seq (.seq (.ops [ oq 3 (.mv (.t 0))]) (.cond (.t 3) (.seq (.ops [ oq 2 (.mv (.v (.str [36])))]) .ret) .skip)) (.seq (.ops [ oq 2 (.mv (.v (.str [])))]) .ret))
@[go_sem] def c179_9_wp:=wp_of c179_9.eq_1
def c179:AFn:=⟨4,[.t 2],c179_9⟩
theorem c179_ok:compF Tryz.prog Tryz.f179=some c179:=by kernel_rfl
theorem a179 {args:List AV} {σ:ASt} {R:AV->ASt->Prop} (hl:args.length<=4) (h:c179_9.wp Tryz.prog (RetQ [.t 2] R) (init args) σ):ACalls Tryz.prog 179 args σ R:=aFq Tryz.func179 c179_ok hl h
end Go.A
namespace Go.A
open Go.Proofs
theorem dollar_ok (b:Bool):Pure Tryz.prog 179 [.bool b] (.str (dolP b)):=by
 intro σ
 refine a179 (by simp) ?_
 cases b
 ·simp (disch:=first|assumption|omega) only [go_sem]
  exact retC_by (Drop.refl _) (.refl _) ⟨rfl,rfl⟩
 ·simp (disch:=first|assumption|omega) only [go_sem]
  exact retC_by (Drop.refl _) (.refl _) ⟨rfl,rfl⟩
theorem text_ok {σ:ASt} (ht:Tab σ) {r:Ref} (hg:r.good=true):ACalls Tryz.prog 125 [refAV r] σ fun v σ'=>v = .str (textP r)/\σ'=σ:=by
 have hg':=hg
 simp only [Ref.good,decide_eq_true_eq] at hg'
 obtain ⟨g1,g2,g3,g4⟩:=hg'
 have hi:=itoa_num g1 g2
 have hl:=letters_len r.col
 have hn:=(num_facts g1 g2).2.2.2.1
 have hd1:(dolP r.absCol).length<=1:=by unfold dolP;split<;>simp
 have hd2:(dolP r.absRow).length<=1:=by unfold dolP;split<;>simp
 obtain ⟨l,hlq⟩:∃ l,textP r=l:=⟨_,rfl⟩
 rw [hlq]
 unfold textP at hlq
 refine a125 (by simp) ?_
 simp (disch:=first|assumption|omega|(simp only [List.length_append,List.length_cons,List.length_nil];omega)) only [go_sem,refAV]
 refine boxC_by rfl fun b hb=>?_
 simp (disch:=first|assumption|omega|(simp only [List.length_append,List.length_cons,List.length_nil];omega)) only [go_sem]
 refine (dollar_ok _).use ?_
 simp (disch:=first|assumption|omega|(simp only [List.length_append,List.length_cons,List.length_nil];omega)) only [go_sem]
 refine (letters_ok _).use ?_
 simp (disch:=first|assumption|omega|(simp only [List.length_append,List.length_cons,List.length_nil];omega)) only [go_sem]
 refine (dollar_ok _).use ?_
 simp (disch:=first|assumption|omega|(simp only [List.length_append,List.length_cons,List.length_nil];omega)) only [go_sem]
 refine (itoa_ok (ht.set hb) (by omega) (by omega)).mono ?_
 rintro v σ' ⟨rfl,rfl⟩
 rw [hi]
 simp (disch:=first|assumption|omega|(simp only [List.length_append,List.length_cons,List.length_nil];omega)) only [go_sem,hlq]
 exact retC_by (by repeat' (first|exact Drop.refl _|with_reducible refine Drop.off ?_ (by assumption))) (.refl _) ⟨rfl,rfl⟩
theorem atext_ok {σ:ASt} (ht:Tab σ) {a b:Ref} (ha:a.good=true) (hb:b.good=true):ACalls Tryz.prog 126 [areaAV a b] σ fun v σ'=>v = .str (textP a ++ [58]++textP b)/\σ'=σ:=by
 have l1:=text_len ha
 have l2:=text_len hb
 refine a126 (by simp) ?_
 simp (disch:=first|assumption|omega) only [go_sem,areaAV]
 refine boxC_by rfl fun b0 hb0=>?_
 simp (disch:=first|assumption|omega) only [go_sem]
 refine (text_ok (ht.set hb0) ha).mono ?_
 rintro v σ' ⟨rfl,rfl⟩
 have e1:binS .add (textP a) [58]=some (.str (textP a ++ [58])):=binS_add (by simp only [List.length_cons,List.length_nil];omega)
 have e2:binS .add (textP a ++ [58]) (textP b)=some (.str (textP a ++ [58]++textP b)):=binS_add (by simp only [List.length_append,List.length_cons,List.length_nil];omega)
 simp (disch:=first|assumption|omega) only [go_sem,e1]
 refine (text_ok (ht.set hb0) hb).mono ?_
 rintro v σ' ⟨rfl,rfl⟩
 simp (disch:=first|assumption|omega) only [go_sem,e2]
 exact retC_by (by repeat' (first|exact Drop.refl _|with_reducible refine Drop.off ?_ (by assumption))) (.refl _) ⟨rfl,rfl⟩
end Go.A
namespace Go.A
open Go.Proofs
/-! 154: tabular/token.word -/
def c154_3:ACode := .seq (.ops [ oq 2 (.mv (.v (.bool false)))]) (.seq (.ops [ oq 3 (.mv (.t 0)),oq 4 (.bin .geq (.t 3) (.v (.int .u8 48))),oq 5 (.mv (.t 4)),⟨some 6,some (5,true),.q (.mv (.t 0)),[]⟩,⟨some 7,some (5,true),.q (.bin .leq (.t 6) (.v (.int .u8 57))),[]⟩,oq 8 (.pick (.t 5) (.t 7) (.v (.bool false))),oq 9 (.mv (.t 8)),⟨some 10,some (9,false),.q (.mv (.t 0)),[]⟩,⟨some 11,some (9,false),.q (.bin .geq (.t 10) (.v (.int .u8 97))),[]⟩,⟨some 12,some (9,false),.q (.mv (.t 11)),[]⟩,⟨some 13,some (12,true),.q (.mv (.t 0)),[]⟩,⟨some 14,some (12,true),.q (.bin .leq (.t 13) (.v (.int .u8 122))),[]⟩,⟨some 15,some (9,false),.q (.pick (.t 12) (.t 14) (.v (.bool false))),[]⟩,oq 16 (.pick (.t 9) (.v (.bool true)) (.t 15)),oq 17 (.mv (.t 16)),⟨some 18,some (17,false),.q (.mv (.t 0)),[]⟩,⟨some 19,some (17,false),.q (.bin .geq (.t 18) (.v (.int .u8 65))),[]⟩,⟨some 20,some (17,false),.q (.mv (.t 19)),[]⟩,⟨some 21,some (20,true),.q (.mv (.t 0)),[]⟩,⟨some 22,some (20,true),.q (.bin .leq (.t 21) (.v (.int .u8 90))),[]⟩,⟨some 23,some (17,false),.q (.pick (.t 20) (.t 22) (.v (.bool false))),[]⟩,oq 24 (.pick (.t 17) (.v (.bool true)) (.t 23)),oq 25 (.mv (.t 24)),⟨some 26,some (25,false),.q (.mv (.t 0)),[]⟩,⟨some 27,some (25,false),.q (.bin .eql (.t 26) (.v (.int .u8 95))),[]⟩,oq 28 (.pick (.t 25) (.v (.bool true)) (.t 27)),oq 29 (.mv (.t 28)),⟨some 30,some (29,false),.q (.mv (.t 0)),[]⟩,⟨some 31,some (29,false),.q (.bin .eql (.t 30) (.v (.int .u8 36))),[]⟩,oq 32 (.pick (.t 29) (.v (.bool true)) (.t 31)),oq 33 (.mv (.t 32)),⟨some 34,some (33,false),.q (.mv (.t 0)),[]⟩,⟨some 35,some (33,false),.q (.bin .eql (.t 34) (.v (.int .u8 46))),[]⟩,oq 36 (.pick (.t 33) (.v (.bool true)) (.t 35)),oq 2 (.mv (.t 36))]) .ret)
@[go_sem] def c154_3_wp:=wp_of c154_3.eq_1
def c154:AFn:=⟨37,[.t 2],c154_3⟩
theorem c154_ok:compF Tryz.prog Tryz.f154=some c154:=by kernel_rfl
theorem a154 {args:List AV} {σ:ASt} {R:AV->ASt->Prop} (hl:args.length<=37) (h:c154_3.wp Tryz.prog (RetQ [.t 2] R) (init args) σ):ACalls Tryz.prog 154 args σ R:=aFq Tryz.func154 c154_ok hl h
/-! 191: tabular/token.isNum -/
def c191_21:ACode := .seq (.ops [ oq 34 (.bin .lss (.t 33) (.t 32))]) (.seq (.cond (.t 34) .skip (.exit 0)) (.seq (.block 1 (.seq (.ops [ oq 35 (.ia 1 (.t 31) (.t 33)),oq 36 (.ld none (.t 35)),oq 7 (.mv (.t 36))]) (.seq (.ops [ oq 37 (.mv (.t 7)),oe 38 (.call 214 [(.t 37)]),oq 39 (.un .not (.t 38))]) (.cond (.t 39) (.seq (.ops [ oq 2 (.mv (.v (.bool false)))]) .ret) .skip)))) (.ops [ oq 40 (.bin .add (.t 33) (.v (.int .i64 1))),oq 33 (.mv (.t 40))])))
def c191_27:ACode := .seq (.seq (.ops [ oq 28 (.mv (.t 3)),oq 29 (.mv (.t 4)),oq 30 (.bin .add (.t 28) (.t 29)),oe 31 (.s2b (.t 30)),oq 32 (.len (.t 31)),oq 33 (.mv (.v (.int .i64 0)))]) (.block 0 (.loop c191_21))) (.seq (.ops [ oq 2 (.mv (.v (.bool true)))]) .ret)
def c191_30:ACode := .seq (.ops [ oq 2 (.mv (.v (.bool false)))]) (.seq (.ops [ oq 9 (.mv (.t 0)),oe 10 (.call 105 [(.t 9),(.v (.str [46]))]),oq 8 (.mv (.t 10)),oq 11 (.ext 0 (.t 8)),oq 12 (.ext 1 (.t 8)),oq 13 (.ext 2 (.t 8)),oq 3 (.mv (.t 11)),oq 4 (.mv (.t 12)),oq 5 (.mv (.t 13))]) (.seq (.seq (.ops [ oq 14 (.mv (.t 3)),oq 15 (.bin .eql (.t 14) (.v (.str []))),oq 16 (.mv (.t 15)),⟨some 17,some (16,false),.q (.mv (.t 5)),[]⟩,⟨some 18,some (16,false),.q (.mv (.t 17)),[]⟩,⟨some 19,some (18,true),.q (.mv (.t 4)),[]⟩,⟨some 20,some (18,true),.q (.bin .eql (.t 19) (.v (.str []))),[]⟩,⟨some 21,some (18,true),.q (.mv (.t 20)),[]⟩,⟨some 22,some (21,false),.q (.mv (.t 4)),[]⟩,⟨some 23,some (21,false),.q (.lenS (.t 22)),[]⟩,⟨some 24,some (21,false),.q (.bin .gtr (.t 23) (.v (.int .i64 4))),[]⟩,⟨some 25,some (18,true),.q (.pick (.t 21) (.v (.bool true)) (.t 24)),[]⟩,⟨some 26,some (16,false),.q (.pick (.t 18) (.t 25) (.v (.bool false))),[]⟩,oq 27 (.pick (.t 16) (.v (.bool true)) (.t 26))]) (.cond (.t 27) (.seq (.ops [ oq 2 (.mv (.v (.bool false)))]) .ret) .skip)) c191_27))
@[go_sem] def c191_21_wp:=wp_of c191_21.eq_1
@[go_sem] def c191_27_wp:=wp_of c191_27.eq_1
@[go_sem] def c191_30_wp:=wp_of c191_30.eq_1
def c191:AFn:=⟨41,[.t 2],c191_30⟩
theorem c191_ok:compF Tryz.prog Tryz.f191=some c191:=by kernel_rfl
theorem a191 {args:List AV} {σ:ASt} {R:AV->ASt->Prop} (hl:args.length<=41) (h:c191_30.wp Tryz.prog (RetQ [.t 2] R) (init args) σ):ACalls Tryz.prog 191 args σ R:=aFq Tryz.func191 c191_ok hl h
/-! 192: tabular/token.isRef -/
def c192_5:ACode := .seq (.ops [ oq 2 (.mv (.v (.bool false)))]) (.seq (.ops [ oq 6 (.mv (.t 0)),oe 7 (.call 215 [(.t 6)]),oq 5 (.mv (.t 7)),oq 8 (.ext 0 (.t 5)),oq 9 (.ext 1 (.t 5)),oe 3 (.alloc [(.int .i64 0),(.int .i64 0),(.bool false),(.bool false)]),oz (.store 4 (.t 3) (.t 8)),oq 4 (.mv (.t 9))]) (.seq (.ops [ oq 10 (.mv (.t 4)),oq 2 (.mv (.t 10))]) .ret))
@[go_sem] def c192_5_wp:=wp_of c192_5.eq_1
def c192:AFn:=⟨11,[.t 2],c192_5⟩
theorem c192_ok:compF Tryz.prog Tryz.f192=some c192:=by kernel_rfl
theorem a192 {args:List AV} {σ:ASt} {R:AV->ASt->Prop} (hl:args.length<=11) (h:c192_5.wp Tryz.prog (RetQ [.t 2] R) (init args) σ):ACalls Tryz.prog 192 args σ R:=aFq Tryz.func192 c192_ok hl h
/-! 193: tabular/token.great -/
def c193_15:ACode := .seq (.ops [ oq 11 (.bin .lss (.t 10) (.t 9))]) (.seq (.cond (.t 11) .skip (.exit 0)) (.seq (.block 1 (.seq (.ops [ oq 12 (.mv (.t 10)),oq 13 (.ia 1 (.t 8) (.t 10)),oq 14 (.ld none (.t 13)),oq 4 (.mv (.t 12)),oq 5 (.mv (.t 14))]) (.seq (.ops [ oq 15 (.mv (.t 5)),oq 16 (.bin .geq (.t 15) (.v (.int .u8 97))),oq 17 (.mv (.t 16)),⟨some 18,some (17,true),.q (.mv (.t 5)),[]⟩,⟨some 19,some (17,true),.q (.bin .leq (.t 18) (.v (.int .u8 122))),[]⟩,oq 20 (.pick (.t 17) (.t 19) (.v (.bool false)))]) (.cond (.t 20) (.ops [ oq 21 (.mv (.t 3)),oq 22 (.mv (.t 4)),oq 23 (.mv (.t 5)),oq 24 (.bin .sub (.t 23) (.v (.int .u8 32))),oq 25 (.ia 1 (.t 21) (.t 22)),oz (.store 1 (.t 25) (.t 24))]) .skip)))) (.ops [ oq 26 (.bin .add (.t 10) (.v (.int .i64 1))),oq 10 (.mv (.t 26))])))
def c193_23:ACode := .seq (.ops [ oq 2 (.mv (.v (.str [])))]) (.seq (.ops [ oq 6 (.mv (.t 0)),oe 7 (.s2b (.t 6)),oq 3 (.mv (.t 7))]) (.seq (.seq (.ops [ oq 8 (.mv (.t 3)),oq 9 (.len (.t 8)),oq 10 (.mv (.v (.int .i64 0)))]) (.block 0 (.loop c193_15))) (.seq (.ops [ oq 27 (.mv (.t 3)),oq 28 (.b2s (.t 27)),oq 2 (.mv (.t 28))]) .ret)))
@[go_sem] def c193_15_wp:=wp_of c193_15.eq_1
@[go_sem] def c193_23_wp:=wp_of c193_23.eq_1
def c193:AFn:=⟨29,[.t 2],c193_23⟩
theorem c193_ok:compF Tryz.prog Tryz.f193=some c193:=by kernel_rfl
theorem a193 {args:List AV} {σ:ASt} {R:AV->ASt->Prop} (hl:args.length<=29) (h:c193_23.wp Tryz.prog (RetQ [.t 2] R) (init args) σ):ACalls Tryz.prog 193 args σ R:=aFq Tryz.func193 c193_ok hl h
/-! 194: tabular/token.isName -/
def c194_15:ACode := .seq (.ops [ oq 7 (.bin .lss (.t 6) (.t 5))]) (.seq (.cond (.t 7) .skip (.exit 0)) (.seq (.block 1 (.seq (.ops [ oq 8 (.mv (.t 6)),oq 3 (.mv (.t 8))]) (.seq (.ops [ oq 9 (.mv (.t 0)),oq 10 (.mv (.t 3)),oq 11 (.idx (.t 9) (.t 10)),oe 12 (.call 154 [(.t 11)]),oq 13 (.un .not (.t 12)),oq 14 (.mv (.t 13)),⟨some 15,some (14,false),.q (.mv (.t 0)),[]⟩,⟨some 16,some (14,false),.q (.mv (.t 3)),[]⟩,⟨some 17,some (14,false),.q (.idx (.t 15) (.t 16)),[]⟩,⟨some 18,some (14,false),.q (.bin .eql (.t 17) (.v (.int .u8 36))),[]⟩,oq 19 (.pick (.t 14) (.v (.bool true)) (.t 18)),oq 20 (.mv (.t 19)),⟨some 21,some (20,false),.q (.mv (.t 3)),[]⟩,⟨some 22,some (20,false),.q (.bin .eql (.t 21) (.v (.int .i64 0))),[]⟩,⟨some 23,some (20,false),.q (.mv (.t 22)),[]⟩,⟨some 24,some (23,true),.q (.mv (.t 0)),[]⟩,⟨some 25,some (23,true),.q (.mv (.t 3)),[]⟩,⟨some 26,some (23,true),.q (.idx (.t 24) (.t 25)),[]⟩,⟨some 27,some (23,true),.e (.call 214 [(.t 26)]),[]⟩,⟨some 28,some (23,true),.q (.mv (.t 27)),[]⟩,⟨some 29,some (28,false),.q (.mv (.t 0)),[]⟩,⟨some 30,some (28,false),.q (.mv (.t 3)),[]⟩,⟨some 31,some (28,false),.q (.idx (.t 29) (.t 30)),[]⟩,⟨some 32,some (28,false),.q (.bin .eql (.t 31) (.v (.int .u8 46))),[]⟩,⟨some 33,some (23,true),.q (.pick (.t 28) (.v (.bool true)) (.t 32)),[]⟩,⟨some 34,some (20,false),.q (.pick (.t 23) (.t 33) (.v (.bool false))),[]⟩,oq 35 (.pick (.t 20) (.v (.bool true)) (.t 34))]) (.cond (.t 35) (.seq (.ops [ oq 2 (.mv (.v (.bool false)))]) .ret) .skip)))) (.ops [ oq 36 (.bin .add (.t 6) (.v (.int .i64 1))),oq 6 (.mv (.t 36))])))
def c194_22:ACode := .seq (.ops [ oq 2 (.mv (.v (.bool false)))]) (.seq (.seq (.ops [ oq 4 (.mv (.t 0)),oq 5 (.lenS (.t 4)),oq 6 (.mv (.v (.int .i64 0)))]) (.block 0 (.loop c194_15))) (.seq (.ops [ oq 37 (.mv (.t 0)),oq 38 (.bin .neq (.t 37) (.v (.str []))),oq 2 (.mv (.t 38))]) .ret))
@[go_sem] def c194_15_wp:=wp_of c194_15.eq_1
@[go_sem] def c194_22_wp:=wp_of c194_22.eq_1
def c194:AFn:=⟨39,[.t 2],c194_22⟩
theorem c194_ok:compF Tryz.prog Tryz.f194=some c194:=by kernel_rfl
theorem a194 {args:List AV} {σ:ASt} {R:AV->ASt->Prop} (hl:args.length<=39) (h:c194_22.wp Tryz.prog (RetQ [.t 2] R) (init args) σ):ACalls Tryz.prog 194 args σ R:=aFq Tryz.func194 c194_ok hl h
/-! 197: tabular/token.alike -/
def c197_37:ACode := .seq (.ops [ oq 2 (.mv (.v (.str [])))]) (.seq (.seq (.ops [ oq 3 (.mv (.t 0))]) (.block 0 (.seq (.ops [ oq 5 (.bin .eql (.t 3) (.v (.int .i32 8804))),oq 4 (.mv (.t 5))]) (.cond (.t 4) (.seq (.ops [ oq 2 (.mv (.v (.str [60,61])))]) .ret) (.seq (.ops [ oq 7 (.bin .eql (.t 3) (.v (.int .i32 8805))),oq 6 (.mv (.t 7))]) (.cond (.t 6) (.seq (.ops [ oq 2 (.mv (.v (.str [62,61])))]) .ret) (.seq (.ops [ oq 9 (.bin .eql (.t 3) (.v (.int .i32 8800))),oq 8 (.mv (.t 9))]) (.cond (.t 8) (.seq (.ops [ oq 2 (.mv (.v (.str [60,62])))]) .ret) (.seq (.ops [ oq 11 (.bin .eql (.t 3) (.v (.int .i32 215))),oq 10 (.mv (.t 11))]) (.cond (.t 10) (.seq (.ops [ oq 2 (.mv (.v (.str [42])))]) .ret) (.seq (.ops [ oq 13 (.bin .eql (.t 3) (.v (.int .i32 247))),oq 12 (.mv (.t 13))]) (.cond (.t 12) (.seq (.ops [ oq 2 (.mv (.v (.str [47])))]) .ret) (.seq (.ops [ oq 15 (.bin .eql (.t 3) (.v (.int .i32 8722))),oq 14 (.mv (.t 15))]) (.cond (.t 14) (.seq (.ops [ oq 2 (.mv (.v (.str [45])))]) .ret) .skip)))))))))))))) (.seq (.ops [ oq 2 (.mv (.v (.str [])))]) .ret))
@[go_sem] def c197_37_wp:=wp_of c197_37.eq_1
def c197:AFn:=⟨16,[.t 2],c197_37⟩
theorem c197_ok:compF Tryz.prog Tryz.f197=some c197:=by kernel_rfl
theorem a197 {args:List AV} {σ:ASt} {R:AV->ASt->Prop} (hl:args.length<=16) (h:c197_37.wp Tryz.prog (RetQ [.t 2] R) (init args) σ):ACalls Tryz.prog 197 args σ R:=aFq Tryz.func197 c197_ok hl h
/-! 214: tabular/token.digit -/
def c214_3:ACode := .seq (.ops [ oq 2 (.mv (.v (.bool false)))]) (.seq (.ops [ oq 3 (.mv (.t 0)),oq 4 (.bin .geq (.t 3) (.v (.int .u8 48))),oq 5 (.mv (.t 4)),⟨some 6,some (5,true),.q (.mv (.t 0)),[]⟩,⟨some 7,some (5,true),.q (.bin .leq (.t 6) (.v (.int .u8 57))),[]⟩,oq 8 (.pick (.t 5) (.t 7) (.v (.bool false))),oq 2 (.mv (.t 8))]) .ret)
@[go_sem] def c214_3_wp:=wp_of c214_3.eq_1
def c214:AFn:=⟨9,[.t 2],c214_3⟩
theorem c214_ok:compF Tryz.prog Tryz.f214=some c214:=by kernel_rfl
theorem a214 {args:List AV} {σ:ASt} {R:AV->ASt->Prop} (hl:args.length<=9) (h:c214_3.wp Tryz.prog (RetQ [.t 2] R) (init args) σ):ACalls Tryz.prog 214 args σ R:=aFq Tryz.func214 c214_ok hl h
end Go.A
namespace Go.A
open Go.Proofs Go.Lib
theorem word_ok (c:UInt8):Pure Tryz.prog 154 [.int .u8 c.toNat] (.bool (wordB c)):=by
 intro σ
 refine a154 (by simp) ?_
 have hc:=c.toNat_lt
 unfold wordB
 repeat' (first|(simp (disch:=first|assumption|omega) only [go_sem])|with_reducible refine gC_d (fun h=>?_) (fun h=>?_)|with_reducible refine gC_dn (fun h=>?_) (fun h=>?_)|with_reducible refine condC_d (fun h=>?_) (fun h=>?_)|with_reducible refine condC_n (fun h=>?_) (fun h=>?_)|with_reducible refine condC_b (fun h=>?_) (fun h=>?_)|with_reducible refine boxC_by ?_ fun b hb=>?_)
 all_goals refine retC_by (Drop.refl _) (.refl _) ⟨?_,rfl⟩
 all_goals (simp only [resV_one])<;>(congr 1)<;>(rw [Bool.eq_iff_iff];simp only [decide_eq_true_eq];omega)
theorem digit_ok (c:UInt8):Pure Tryz.prog 214 [.int .u8 c.toNat] (.bool (digB c)):=by
 intro σ
 refine a214 (by simp) ?_
 have hc:=c.toNat_lt
 unfold digB
 repeat' (first|(simp (disch:=first|assumption|omega) only [go_sem])|with_reducible refine gC_d (fun h=>?_) (fun h=>?_)|with_reducible refine gC_dn (fun h=>?_) (fun h=>?_)|with_reducible refine condC_d (fun h=>?_) (fun h=>?_)|with_reducible refine condC_n (fun h=>?_) (fun h=>?_)|with_reducible refine condC_b (fun h=>?_) (fun h=>?_)|with_reducible refine boxC_by ?_ fun b hb=>?_)
 all_goals refine retC_by (Drop.refl _) (.refl _) ⟨?_,rfl⟩
 all_goals (simp only [resV_one])<;>(congr 1)<;>(rw [Bool.eq_iff_iff];simp only [decide_eq_true_eq];omega)
theorem alike_ok (c:Int):Pure Tryz.prog 197 [.int .i32 c] (.str (alikeP c)):=by
 intro σ
 refine a197 (by simp) ?_
 unfold alikeP
 by_cases h1:c=8804
 ·simp (disch:=first|assumption|omega) only [go_sem,h1];exact retC_by (Drop.refl _) (.refl _) ⟨by simp [resV_one],rfl⟩
 by_cases h2:c=8805
 ·simp (disch:=first|assumption|omega) only [go_sem,h2];exact retC_by (Drop.refl _) (.refl _) ⟨by simp [resV_one],rfl⟩
 by_cases h3:c=8800
 ·simp (disch:=first|assumption|omega) only [go_sem,h3];exact retC_by (Drop.refl _) (.refl _) ⟨by simp [resV_one],rfl⟩
 by_cases h4:c=215
 ·simp (disch:=first|assumption|omega) only [go_sem,h4];exact retC_by (Drop.refl _) (.refl _) ⟨by simp [resV_one],rfl⟩
 by_cases h5:c=247
 ·simp (disch:=first|assumption|omega) only [go_sem,h5];exact retC_by (Drop.refl _) (.refl _) ⟨by simp [resV_one],rfl⟩
 by_cases h6:c=8722
 ·simp (disch:=first|assumption|omega) only [go_sem,h6];exact retC_by (Drop.refl _) (.refl _) ⟨by simp [resV_one],rfl⟩
 simp (disch:=first|assumption|omega) only [go_sem,h1,h2,h3,h4,h5,h6]
 exact retC_by (Drop.refl _) (.refl _) ⟨by simp [resV_one],rfl⟩
theorem isRef_ok (l:List UInt8) (hl:l.length<=9223372036854775000):Pure Tryz.prog 192 [.str l] (.bool (refB l)):=by
 intro σ
 refine a192 (by simp) ?_
 simp (disch:=first|assumption|omega) only [go_sem]
 refine (parse_ok l hl).use ?_
 unfold refB
 obtain ⟨⟨⟨row,col,ar,ac⟩,ok⟩,hq⟩:∃ q,parseP l=q:=⟨_,rfl⟩
 rw [hq]
 simp (disch:=first|assumption|omega) only [go_sem,refAV]
 refine aBq fun b hb=>?_
 simp (disch:=first|assumption|omega) only [go_sem]
 exact retC_by (by repeat' (first|exact Drop.refl _|with_reducible refine Drop.off ?_ (by assumption))) (.refl _) ⟨rfl,rfl⟩
theorem tgreat_ok (l:List UInt8) (hl:l.length<4611686018427387904):Pure Tryz.prog 193 [.str l] (.str (greatP l)):=by
 intro σ
 refine a193 (by simp) ?_
 simp (disch:=first|assumption|omega) only [go_sem]
 refine s2b_own fun b cp hb hcp=>?_
 simp (disch:=first|assumption|omega) only [go_sem]
 refine wLq (fun (i:Nat) a σ'=>i<=l.length/\(a 3 = .msl b 0 l.length cp/\a 8 = .msl b 0 l.length cp/\a 9 = .int .i64 l.length/\a 10 = .int .i64 i)/\σ'=σ.set b (some (.obj (bytesAV (greatP (l.take i)++l.drop i)))))
  (fun i=>l.length-i) 0 ⟨Nat.zero_le _,?_,by simp [greatP]⟩ ?_
 ·simp (disch:=first|assumption|omega) only [go_sem]
 rintro i a σ1 ⟨hi,hf,rfl⟩
 obtain ⟨m,hm⟩:∃ m,greatP (l.take i)++l.drop i=m:=⟨_,rfl⟩
 have hml:m.length=l.length:=by rw [<-hm];simp [greatP];omega
 have hgl:(greatP (l.take i)).length=i:=by simp [greatP];omega
 rw [hm]
 by_cases hlt:i<l.length
 ·have hidx : m[i]? = some (l[i]'hlt) := by rw [← hm, List.getElem?_append_right (by omega), hgl]; simp
  obtain ⟨c, hc⟩ : ∃ c, l[i]'hlt = c := ⟨_, rfl⟩
  rw [hc] at hidx
  have hcb:=u8_lt c
  have hi2:(i:Int)<l.length:=by omega
  have hle:i+1<=m.length:=by omega
  have hnext:greatP (l.take (i+1))++l.drop (i+1)=m.set i (greatC c):=by
   rw [<-hm,List.take_succ_eq_append_getElem hlt,hc,List.set_append_right _ _ (by omega),hgl,Nat.sub_self]
   simp only [greatP,List.map_append,List.map_cons,List.map_nil,List.append_assoc,List.singleton_append]
   rw [List.drop_eq_getElem_cons hlt]
   rfl
  by_cases hg:97<=c.toNat/\c.toNat<=122
  ·have g1:(97:Int)<=c.toNat:=by omega
   have g2:(c.toNat:Int)<=122:=by omega
   have hgc:greatC c=UInt8.ofNat (c.toNat-32):=by unfold greatC;rw [if_pos hg]
   have hw:=set_bytes (l:=m) (i:=i) (m:=(c.toNat:Int)-32) (by omega)
   have hw0:(c.toNat:Int)-32=((UInt8.ofNat (c.toNat-32)).toNat:Int):=by rw [u8_nat (by omega)];omega
   rw [hw0,bytes_set] at hw
   simp (disch:=first|assumption|omega) only [go_sem,hf,hi2,hidx,g1,g2,hle,hw0,hw]
   refine ⟨i+1,by omega,by omega,?_,by rw [hnext,hgc]⟩
   simp (disch:=first|assumption|omega) only [go_sem]
  ·have hgc:greatC c=c:=by unfold greatC;rw [if_neg hg]
   have hms:m.set i c=m:=by
    apply List.ext_getElem?
    intro j
    rw [List.getElem?_set]
    split
    ·rename_i h;subst h;rw [hidx];split<;>first|rfl|omega
    ·rfl
   by_cases g1:(97:Int)<=c.toNat
   ·have g2:¬ (c.toNat:Int)<=122:=by omega
    simp (disch:=first|assumption|omega) only [go_sem,hf,hi2,hidx,g1,g2]
    refine ⟨i+1,by omega,by omega,?_,by rw [hnext,hgc,hms]⟩
    simp (disch:=first|assumption|omega) only [go_sem]
   ·simp (disch:=first|assumption|omega) only [go_sem,hf,hi2,hidx,g1]
    refine ⟨i+1,by omega,by omega,?_,by rw [hnext,hgc,hms]⟩
    simp (disch:=first|assumption|omega) only [go_sem]
 ·have hi2:¬ (i:Int)<l.length:=by omega
  have hle2:l.length<=m.length:=by omega
  have htk:=bytes_all hml
  simp (disch:=first|assumption|omega) only [go_sem,hf,hi2,hle2,htk]
  refine retC_by (by repeat' (first|exact Drop.refl _|with_reducible refine Drop.off ?_ (by assumption))) (.refl _) ⟨?_,rfl⟩
  rw [<-hm,List.take_of_length_le (by omega),List.drop_eq_nil_of_le (by omega),List.append_nil]
  rfl
theorem errs_ok:Pure Tryz.prog 70 [] (.sl .full (errTexts.map AV.str)):=by
 intro σ
 refine a70 (by simp) ?_
 simp (disch:=first|assumption|omega) only [go_sem]
 exact retC_by (by repeat' (first|exact Drop.refl _|with_reducible refine Drop.off ?_ (by assumption))) (.refl _) ⟨rfl,rfl⟩
theorem index_dot:∀ l:List UInt8,(cutDot l).2=none/\indexByte l 46 = -1/\(cutDot l).1=l\/∃ (i:Nat) (p:List UInt8),indexByte l 46=i/\i<l.length/\cutDot l=(l.take i,some p)/\p=l.drop (i+1)
 | [] => .inl ⟨rfl,rfl,rfl⟩
 | c::l=>by
   unfold indexByte cutDot
   by_cases hc:c.toNat=46
   ·have:c=46:=by apply UInt8.toNat_inj.1;simpa using hc
    subst this
    exact .inr ⟨0,l,by simp,by simp,by simp,by simp⟩
   ·have hne:¬ (c==46)=true:=by
     intro h
     rw [beq_iff_eq] at h
     subst h
     exact hc rfl
    rw [if_neg hc,if_neg hne]
    rcases index_dot l with ⟨h1,h2,h3⟩|⟨i,p,h1,h2,h3,h4⟩
    ·exact .inl ⟨h1,by rw [h2];rfl,by rw [h3]⟩
    ·refine .inr ⟨i+1,p,?_,by simpa using h2,?_,by simpa using h4⟩
     ·rw [h1,if_neg (by rw [beq_iff_eq];omega)];rfl
     ·rw [h3];rfl
theorem cutdot_ok (l:List UInt8) (hl:l.length<=1000000000):Pure Tryz.prog 105 [.str l,.str [46]] (.tuple [.str (cutDot l).1,.str ((cutDot l).2.getD []),.bool (cutDot l).2.isSome]):=by
 have h1:Pure Tryz.prog 151 [.str l,.str [46]] (.tuple [.str (cutDot l).1,.str ((cutDot l).2.getD []),.bool (cutDot l).2.isSome]):=by
  intro σ
  refine a151 (by simp) ?_
  rcases index_dot l with ⟨h1,h2,h3⟩|⟨i,p,h1,h2,h3,h4⟩
  ·rw [h1,h3]
   simp (disch:=first|assumption|omega) only [go_sem]
   refine (index_ok l 46).use ?_
   rw [h2]
   simp (disch:=first|assumption|omega) only [go_sem]
   exact retC_by (by repeat' (first|exact Drop.refl _|with_reducible refine Drop.off ?_ (by assumption))) (.refl _) ⟨rfl,rfl⟩
  ·rw [h3]
   subst h4
   have e1:(0:Int)<=i:=by omega
   have e2:((i:Int)+1).toNat=i+1:=by omega
   simp (disch:=first|assumption|omega) only [go_sem]
   refine (index_ok l 46).use ?_
   rw [h1]
   simp (disch:=first|assumption|omega) only [go_sem,e1,e2,List.take_length]
   exact retC_by (by repeat' (first|exact Drop.refl _|with_reducible refine Drop.off ?_ (by assumption))) (.refl _) ⟨rfl,rfl⟩
 intro σ
 refine a105 (by simp) ?_
 simp (disch:=first|assumption|omega) only [go_sem]
 refine h1.use ?_
 simp (disch:=first|assumption|omega) only [go_sem]
 exact retC_by (by repeat' (first|exact Drop.refl _|with_reducible refine Drop.off ?_ (by assumption))) (.refl _) ⟨rfl,rfl⟩
theorem cutDot_len (l:List UInt8):(cutDot l).1.length+((cutDot l).2.getD []).length<=l.length:=by
 rcases index_dot l with ⟨h1,h2,h3⟩|⟨i,p,h1,h2,h3,h4⟩
 ·rw [h1,h3];simp
 ·rw [h3,h4];simp;omega
theorem isNum_ok (l:List UInt8) (hl:l.length<=1000000000):Pure Tryz.prog 191 [.str l] (.bool (numB l)):=by
 intro σ
 have hcd:=cutdot_ok l hl
 have hlen:=cutDot_len l
 obtain ⟨R,hR⟩:∃ R,numB l=R:=⟨_,rfl⟩
 rw [hR]
 refine a191 (by simp) ?_
 unfold numB at hR
 obtain ⟨⟨w,q⟩,hC⟩:∃ C,cutDot l=C:=⟨_,rfl⟩
 rw [hC] at hcd hlen hR
 dsimp only at hcd hlen
 obtain ⟨F,hF⟩:∃ F,F=ACode.wp Tryz.prog c191_27:=⟨_,rfl⟩
 have fin:∀ (p:List UInt8) (a:AFr),w.length+p.length<=l.length->(w++p).all digB=R->(a 3 = .str w/\a 4 = .str p)->F (RetQ [.t 2] fun v σ'=>v = .bool R/\σ'=σ) a σ:=by
  intro p a hlp hwp hf
  rw [hF]
  have hl2:w.length+p.length<=9223372036854775807:=by omega
  simp (disch:=first|assumption|omega) only [go_sem,hf]
  refine s2b_shr ?_
  obtain ⟨m,hm⟩:∃ m,w++p=m:=⟨_,rfl⟩
  rw [hm] at hwp ⊢
  have hml:m.length<=1000000000:=by rw [<-hm];simp;omega
  simp (disch:=first|assumption|omega) only [go_sem]
  refine wLq (fun (i:Nat) a σ'=>i<=m.length/\(m.take i).all digB=true/\(a 31 = .sl .shr (bytesAV m)/\a 32 = .int .i64 m.length/\a 33 = .int .i64 i)/\σ'=σ) (fun i=>m.length-i) 0 ⟨Nat.zero_le _,rfl,?_,rfl⟩ ?_
  ·simp (disch:=first|assumption|omega) only [go_sem]
  rintro i a σ1 ⟨hi,hall,hf,rfl⟩
  by_cases hlt:i<m.length
  ·have hidx : m[i]? = some (m[i]'hlt) := List.getElem?_eq_getElem hlt
   obtain ⟨c, hc⟩ : ∃ c, m[i]'hlt = c := ⟨_, rfl⟩
   rw [hc] at hidx
   have hlt':(i:Int)<m.length:=by omega
   simp (disch:=first|assumption|omega) only [go_sem,hf,hlt',hidx]
   refine (digit_ok c).use ?_
   obtain ⟨d,hd⟩:∃ d,digB c=d:=⟨_,rfl⟩
   rw [hd]
   have hnx:(m.take (i+1)).all digB=d:=by
    rw [List.take_succ_eq_append_getElem hlt,hc,List.all_append,hall]
    simp [hd]
   cases d
   ·simp (disch:=first|assumption|omega) only [go_sem]
    have:m.all digB=false:=by
     have h1:=congrArg (fun x=>x && (m.drop (i+1)).all digB) hnx
     simp only [<-List.all_append,List.take_append_drop,Bool.false_and] at h1
     exact h1
    rw [this] at hwp
    subst hwp
    exact retC_by (by repeat' (first|exact Drop.refl _|with_reducible refine Drop.off ?_ (by assumption))) (.refl _) ⟨rfl,rfl⟩
   ·simp (disch:=first|assumption|omega) only [go_sem,hf]
    exact ⟨i+1,by omega,by omega,hnx,rfl⟩
  ·have hlt':¬ (i:Int)<m.length:=by omega
   rw [List.take_of_length_le (by omega),hwp] at hall
   subst hall
   simp (disch:=first|assumption|omega) only [go_sem,hf,hlt']
   exact retC_by (by repeat' (first|exact Drop.refl _|with_reducible refine Drop.off ?_ (by assumption))) (.refl _) ⟨rfl,rfl⟩
 simp (disch:=first|assumption|omega) only [go_sem]
 refine hcd.use ?_
 by_cases hw:w = []
 ·have:R=false:=by
   rw [<-hR]
   cases q<;>simp [hw]
  subst hw this
  simp (disch:=first|assumption|omega) only [go_sem,←hF]
  exact retC_by (by repeat' (first|exact Drop.refl _|with_reducible refine Drop.off ?_ (by assumption))) (.refl _) ⟨rfl,rfl⟩
 cases q with
 | none=>
   simp (disch:=first|assumption|omega) only [go_sem,hw,Option.isSome_none,Option.getD_none,←hF]
   refine fin [] _ (by simpa using hlen) (by rw [<-hR];simp [hw]) ?_
   simp (disch:=first|assumption|omega) only [go_sem]
 | some p=>
   dsimp only [Option.getD_some] at hlen
   by_cases hp:p = []
   ·have:R=false:=by rw [<-hR];simp [hp]
    subst hp this
    simp (disch:=first|assumption|omega) only [go_sem,hw,Option.getD_some,Option.isSome_some,←hF]
    exact retC_by (by repeat' (first|exact Drop.refl _|with_reducible refine Drop.off ?_ (by assumption))) (.refl _) ⟨rfl,rfl⟩
   by_cases h4:4<p.length
   ·have:R=false:=by rw [<-hR];simp [hp,show ¬ p.length<=4 by omega]
    subst this
    have h4':(4:Int)<p.length:=by omega
    simp (disch:=first|assumption|omega) only [go_sem,hw,hp,h4',Option.getD_some,Option.isSome_some,←hF]
    exact retC_by (by repeat' (first|exact Drop.refl _|with_reducible refine Drop.off ?_ (by assumption))) (.refl _) ⟨rfl,rfl⟩
   ·have h4':¬ (4:Int)<p.length:=by omega
    simp (disch:=first|assumption|omega) only [go_sem,hw,hp,h4',Option.getD_some,Option.isSome_some,←hF]
    refine fin p _ hlen (by rw [<-hR];simp [hw,hp,show p.length<=4 by omega]) ?_
    simp (disch:=first|assumption|omega) only [go_sem]
theorem isName_ok (l:List UInt8) (hl:l.length<=1000000000):Pure Tryz.prog 194 [.str l] (.bool (nameB l)):=by
 intro σ
 refine a194 (by simp) ?_
 obtain ⟨R,hR⟩:∃ R,nameB l=R:=⟨_,rfl⟩
 rw [hR]
 unfold nameB at hR
 simp (disch:=first|assumption|omega) only [go_sem]
 refine wLq (fun (i:Nat) a σ'=>i<=l.length/\(l.take i).all (fun c=>wordB c && decide (c.toNat≠36))=true/\(0<i->((l.head?.map fun c=>digB c || decide (c.toNat=46)).getD false)=false)/\(a 0 = .str l/\a 5 = .int .i64 l.length/\a 6 = .int .i64 i)/\σ'=σ) (fun i=>l.length-i) 0 ⟨Nat.zero_le _,rfl,by omega,?_,rfl⟩ ?_
 ·simp (disch:=first|assumption|omega) only [go_sem]
 rintro i a σ1 ⟨hi,hall,hfst,hf,rfl⟩
 by_cases hlt:i<l.length
 ·have hidx : l[i]? = some (l[i]'hlt) := List.getElem?_eq_getElem hlt
  obtain ⟨c, hc⟩ : ∃ c, l[i]'hlt = c := ⟨_, rfl⟩
  rw [hc] at hidx
  have hlt':(i:Int)<l.length:=by omega
  have hstep:(l.take (i+1)).all (fun c=>wordB c && decide (c.toNat≠36))=(wordB c && decide (c.toNat≠36)):=by
   rw [List.take_succ_eq_append_getElem hlt,hc,List.all_append,hall]
   simp
  have hno:(wordB c && decide (c.toNat≠36))=false->R=false:=by
   intro h
   rw [h] at hstep
   have h1:=congrArg (fun x=>x && (l.drop (i+1)).all (fun c=>wordB c && decide (c.toNat≠36))) hstep
   simp only [<-List.all_append,List.take_append_drop,Bool.false_and] at h1
   rw [<-hR,h1]
   simp
  simp (disch:=first|assumption|omega) only [go_sem,hf,hlt',hidx]
  refine (word_ok c).use ?_
  cases hwd:wordB c with
  | false=>
    obtain rfl:=hno (by rw [hwd];rfl)
    simp (disch:=first|assumption|omega) only [go_sem]
    exact retC_by (by repeat' (first|exact Drop.refl _|with_reducible refine Drop.off ?_ (by assumption))) (.refl _) ⟨rfl,rfl⟩
  | true=>
  by_cases h36:(c.toNat:Int)=36
  ·obtain rfl:=hno (by rw [hwd];simp;omega)
   simp (disch:=first|assumption|omega) only [go_sem,hf,hidx,h36]
   exact retC_by (by repeat' (first|exact Drop.refl _|with_reducible refine Drop.off ?_ (by assumption))) (.refl _) ⟨rfl,rfl⟩
  have hok:(l.take (i+1)).all (fun c=>wordB c && decide (c.toNat≠36))=true:=by rw [hstep,hwd];simp;omega
  by_cases h0:i=0
  ·subst h0
   have hhd:l.head? = some c:=by
    rw [List.head?_eq_getElem?];exact hidx
   simp (disch:=first|assumption|omega) only [go_sem,hf,hidx,h36]
   refine (digit_ok c).use ?_
   cases hdg:digB c with
   | true=>
     have:R=false:=by rw [<-hR,hhd];simp [hdg]
     subst this
     simp (disch:=first|assumption|omega) only [go_sem]
     exact retC_by (by repeat' (first|exact Drop.refl _|with_reducible refine Drop.off ?_ (by assumption))) (.refl _) ⟨rfl,rfl⟩
   | false=>
     by_cases h46:(c.toNat:Int)=46
     ·have:R=false:=by rw [<-hR,hhd];simp;intro _ _ _;omega
      subst this
      simp (disch:=first|assumption|omega) only [go_sem,hf,hidx,h46]
      exact retC_by (by repeat' (first|exact Drop.refl _|with_reducible refine Drop.off ?_ (by assumption))) (.refl _) ⟨rfl,rfl⟩
     ·simp (disch:=first|assumption|omega) only [go_sem,hf,hidx,h46]
      refine ⟨0+1,by omega,by omega,hok,?_,rfl⟩
      intro _
      rw [hhd]
      simp [hdg]
      omega
  ·have h0':¬ (i:Int)=0:=by omega
   simp (disch:=first|assumption|omega) only [go_sem,hf,hidx,h36,h0']
   exact ⟨i+1,by omega,by omega,hok,fun _=>hfst (by omega),rfl⟩
 ·have hlt':¬ (i:Int)<l.length:=by omega
  rw [List.take_of_length_le (by omega)] at hall
  have:R=decide (l ≠ []):=by
   rw [<-hR,hall]
   by_cases hne:l = []
   ·subst hne;rfl
   ·have hpos:=List.length_pos_iff.2 hne
    rw [hfst (by omega)]
    simp
  subst this
  simp (disch:=first|assumption|omega) only [go_sem,hf,hlt']
  exact retC_by (by repeat' (first|exact Drop.refl _|with_reducible refine Drop.off ?_ (by assumption))) (.refl _) ⟨by simp [resV_one],rfl⟩
end Go.A
end
