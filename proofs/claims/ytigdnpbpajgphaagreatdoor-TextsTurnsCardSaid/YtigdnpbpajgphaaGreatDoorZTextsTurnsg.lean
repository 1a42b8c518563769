/- Part 7 of what TextsTurns leans on: CodeUg Ug CodeUh Uh CodeUi Ui CodeJx Jx CodeUj Uj Uk Ul Tm Tn Up Eq CodeUq Uq Ms Mu. -/
import Derived.Test.YtigdnpbpajgphaaGreatDoorProg
import Derived.KernelRfl
import Derived.RangeFuncBox
import Derived.RangeFuncLeaves
import Derived.Shelf.Abstract
import Derived.WalkKit
import Derived.OwnWalkIn
import Derived.TacticsInMore
import Derived.LoopNIn
import Derived.LoopIn
import Derived.Maps.AppendAt
import Derived.RangeFuncKeeps
import Derived.RangeFuncBound
import Derived.Lib.Join
import Derived.Lib.Replace
import Derived.Test.YtigdnpbpajgphaaGreatDoorRows
import Derived.ProofKit
import Derived.LaidMore
import Derived.OpenShut
import Derived.Stop.LaidErr
import Derived.MakeChecks
import Derived.SevenTiedAt
import Derived.Lay
import Derived.ChangeArms
import Derived.Lib.LaidU8
import Derived.Lib.LaidTab
import Derived.Test.YtigdnpbpajgphaaGreatDoorZTextsTurnsf
set_option linter.defProp false
set_option linter.unusedSimpArgs false
set_option linter.unusedVariables false
set_option maxRecDepth 100000
namespace Go.A
open Go.Proofs
/-! 9: tabular/texts.Call -/
def c9_27:ACode := .seq (.ops [ oq 4 (.mv (.v .nili))]) (.seq (.ops [ oq 10 (.mv (.t 0)),oe 11 (.call 14 [(.t 10)]),oq 9 (.mv (.t 11)),oq 12 (.ext 0 (.t 9)),oq 13 (.ext 1 (.t 9)),oq 5 (.mv (.t 12)),oq 6 (.mv (.t 13))]) (.seq (.seq (.ops [ oq 14 (.mv (.t 6)),oq 15 (.bin .eql (.t 14) (.v (.int .i64 0)))]) (.cond (.t 15) (.seq (.ops [ oq 16 (.mki 47 (.v (.int .i64 6))),oq 4 (.mv (.t 16))]) .ret) .skip)) (.seq (.seq (.ops [ oq 17 (.mv (.t 1)),oq 18 (.len (.t 17)),oq 19 (.mv (.t 5)),oq 20 (.bin .lss (.t 18) (.t 19)),oq 21 (.mv (.t 20)),⟨some 22,some (21,false),.q (.mv (.t 1)),[]⟩,⟨some 23,some (21,false),.q (.len (.t 22)),[]⟩,⟨some 24,some (21,false),.q (.mv (.t 6)),[]⟩,⟨some 25,some (21,false),.q (.bin .gtr (.t 23) (.t 24)),[]⟩,oq 26 (.pick (.t 21) (.v (.bool true)) (.t 25))]) (.cond (.t 26) (.seq (.ops [ oq 27 (.mki 47 (.v (.int .i64 3))),oq 4 (.mv (.t 27))]) .ret) .skip)) (.seq (.ops [ oq 28 (.mv (.t 1)),oq 29 (.build [(.sl .full []),(.int .i64 0)] [(0,1,(.t 28))]),oe 30 (.box (.t 29)),oq 7 (.mv (.t 30))]) (.seq (.ops [ oq 31 (.mv (.t 7)),oq 32 (.mv (.t 0)),oe 33 (.call 15 [(.t 31),(.t 32)]),oq 8 (.mv (.t 33))]) (.seq (.seq (.ops [ oq 34 (.mv (.t 7)),oq 35 (.nc (.t 34)),oq 36 (.fa 1 (.t 35)),oq 37 (.ld none (.t 36)),oq 38 (.bin .neq (.t 37) (.v (.int .i64 0)))]) (.cond (.t 38) (.seq (.ops [ oq 39 (.mv (.t 7)),oq 40 (.nc (.t 39)),oq 41 (.fa 1 (.t 40)),oq 42 (.ld none (.t 41)),oq 43 (.mki 47 (.t 42)),oq 4 (.mv (.t 43))]) .ret) .skip)) (.seq (.ops [ oq 44 (.mv (.t 8)),oq 4 (.mv (.t 44))]) .ret)))))))
@[go_sem] def c9_27_wp:=wp_of c9_27.eq_1
def c9:AFn:=⟨45,[.t 4],c9_27⟩
theorem c9_ok:compF Tryz.prog Tryz.f9=some c9:=by kernel_rfl
theorem a9 {args:List AV} {σ:ASt} {R:AV->ASt->Prop} (hl:args.length<=45) (h:c9_27.wp Tryz.prog (RetQ [.t 4] R) (init args) σ):ACalls Tryz.prog 9 args σ R:=acalls_of Tryz.func9 c9_ok hl h
/-! 14: tabular/texts.limits -/
def c14_80:ACode := .seq (.seq (.ops [ oq 6 (.bin .eql (.t 4) (.v (.str [76,69,78]))),oq 5 (.mv (.t 6))]) (.cond (.t 5) .skip (.seq (.ops [ oq 7 (.bin .eql (.t 4) (.v (.str [85,80,80,69,82]))),oq 5 (.mv (.t 7))]) (.cond (.t 5) .skip (.seq (.ops [ oq 8 (.bin .eql (.t 4) (.v (.str [76,79,87,69,82]))),oq 5 (.mv (.t 8))]) (.cond (.t 5) .skip (.seq (.ops [ oq 9 (.bin .eql (.t 4) (.v (.str [80,82,79,80,69,82]))),oq 5 (.mv (.t 9))]) (.cond (.t 5) .skip (.seq (.ops [ oq 10 (.bin .eql (.t 4) (.v (.str [84,82,73,77]))),oq 5 (.mv (.t 10))]) (.cond (.t 5) .skip (.seq (.ops [ oq 11 (.bin .eql (.t 4) (.v (.str [86,65,76,85,69]))),oq 5 (.mv (.t 11))]) (.cond (.t 5) .skip (.seq (.ops [ oq 12 (.bin .eql (.t 4) (.v (.str [67,72,65,82]))),oq 5 (.mv (.t 12))]) (.cond (.t 5) .skip (.seq (.ops [ oq 13 (.bin .eql (.t 4) (.v (.str [67,79,68,69]))),oq 5 (.mv (.t 13))]) (.cond (.t 5) .skip (.seq (.ops [ oq 14 (.bin .eql (.t 4) (.v (.str [84]))),oq 5 (.mv (.t 14))]) (.cond (.t 5) .skip (.ops [ oq 15 (.bin .eql (.t 4) (.v (.str [82,69,86,69,82,83,69]))),oq 5 (.mv (.t 15))]))))))))))))))))))) (.cond (.t 5) (.seq (.ops [ oq 2 (.mv (.v (.int .i64 1))),oq 3 (.mv (.v (.int .i64 1)))]) .ret) (.seq (.seq (.ops [ oq 17 (.bin .eql (.t 4) (.v (.str [76,69,70,84]))),oq 16 (.mv (.t 17))]) (.cond (.t 16) .skip (.seq (.ops [ oq 18 (.bin .eql (.t 4) (.v (.str [82,73,71,72,84]))),oq 16 (.mv (.t 18))]) (.cond (.t 16) .skip (.ops [ oq 19 (.bin .eql (.t 4) (.v (.str [70,73,88,69,68]))),oq 16 (.mv (.t 19))]))))) (.cond (.t 16) (.seq (.ops [ oq 2 (.mv (.v (.int .i64 1))),oq 3 (.mv (.v (.int .i64 2)))]) .ret) (.seq (.seq (.ops [ oq 21 (.bin .eql (.t 4) (.v (.str [82,69,80,84]))),oq 20 (.mv (.t 21))]) (.cond (.t 20) .skip (.ops [ oq 22 (.bin .eql (.t 4) (.v (.str [69,88,65,67,84]))),oq 20 (.mv (.t 22))]))) (.cond (.t 20) (.seq (.ops [ oq 2 (.mv (.v (.int .i64 2))),oq 3 (.mv (.v (.int .i64 2)))]) .ret) (.seq (.seq (.ops [ oq 24 (.bin .eql (.t 4) (.v (.str [70,73,78,68]))),oq 23 (.mv (.t 24))]) (.cond (.t 23) .skip (.ops [ oq 25 (.bin .eql (.t 4) (.v (.str [83,69,65,82,67,72]))),oq 23 (.mv (.t 25))]))) (.cond (.t 23) (.seq (.ops [ oq 2 (.mv (.v (.int .i64 2))),oq 3 (.mv (.v (.int .i64 3)))]) .ret) (.seq (.ops [ oq 27 (.bin .eql (.t 4) (.v (.str [77,73,68]))),oq 26 (.mv (.t 27))]) (.cond (.t 26) (.seq (.ops [ oq 2 (.mv (.v (.int .i64 3))),oq 3 (.mv (.v (.int .i64 3)))]) .ret) (.seq (.ops [ oq 29 (.bin .eql (.t 4) (.v (.str [83,85,66,83,84,73,84,85,84,69]))),oq 28 (.mv (.t 29))]) (.cond (.t 28) (.seq (.ops [ oq 2 (.mv (.v (.int .i64 3))),oq 3 (.mv (.v (.int .i64 4)))]) .ret) (.seq (.ops [ oq 31 (.bin .eql (.t 4) (.v (.str [82,69,80,76,65,67,69]))),oq 30 (.mv (.t 31))]) (.cond (.t 30) (.seq (.ops [ oq 2 (.mv (.v (.int .i64 4))),oq 3 (.mv (.v (.int .i64 4)))]) .ret) (.seq (.ops [ oq 33 (.bin .eql (.t 4) (.v (.str [67,79,78,67,65,84]))),oq 32 (.mv (.t 33))]) (.cond (.t 32) (.seq (.ops [ oq 2 (.mv (.v (.int .i64 1))),oq 3 (.mv (.v (.int .i64 30)))]) .ret) .skip)))))))))))))))
def c14_86:ACode := .seq (.ops [ oq 2 (.mv (.v (.int .i64 0))),oq 3 (.mv (.v (.int .i64 0)))]) (.seq (.seq (.ops [ oq 4 (.mv (.t 0))]) (.block 0 c14_80)) (.seq (.ops [ oq 2 (.mv (.v (.int .i64 0))),oq 3 (.mv (.v (.int .i64 0)))]) .ret))
@[go_sem] def c14_80_wp:=wp_of c14_80.eq_1
@[go_sem] def c14_86_wp:=wp_of c14_86.eq_1
def c14:AFn:=⟨34,[.t 2,.t 3],c14_86⟩
theorem c14_ok:compF Tryz.prog Tryz.f14=some c14:=by kernel_rfl
theorem a14 {args:List AV} {σ:ASt} {R:AV->ASt->Prop} (hl:args.length<=34) (h:c14_86.wp Tryz.prog (RetQ [.t 2,.t 3] R) (init args) σ):ACalls Tryz.prog 14 args σ R:=acalls_of Tryz.func14 c14_ok hl h
end Go.A
namespace Go.A
open Go.Proofs Go.Lib
def nLEN:List UInt8 := [76,69,78]
def nUPPER:List UInt8 := [85,80,80,69,82]
def nLOWER:List UInt8 := [76,79,87,69,82]
def nPROPER:List UInt8 := [80,82,79,80,69,82]
def nTRIM:List UInt8 := [84,82,73,77]
def nVALUE:List UInt8 := [86,65,76,85,69]
def nCHAR:List UInt8 := [67,72,65,82]
def nCODE:List UInt8 := [67,79,68,69]
def nT:List UInt8 := [84]
def nREVERSE:List UInt8 := [82,69,86,69,82,83,69]
def nLEFT:List UInt8 := [76,69,70,84]
def nRIGHT:List UInt8 := [82,73,71,72,84]
def nFIXED:List UInt8 := [70,73,88,69,68]
def nREPT:List UInt8 := [82,69,80,84]
def nEXACT:List UInt8 := [69,88,65,67,84]
def nFIND:List UInt8 := [70,73,78,68]
def nSEARCH:List UInt8 := [83,69,65,82,67,72]
def nMID:List UInt8 := [77,73,68]
def nSUBSTITUTE:List UInt8 := [83,85,66,83,84,73,84,85,84,69]
def nREPLACE:List UInt8 := [82,69,80,76,65,67,69]
def nCONCAT:List UInt8 := [67,79,78,67,65,84]
def limX (s:List UInt8):Int×Int:=
 if s ∈ [nLEN,nUPPER,nLOWER,nPROPER,nTRIM,nVALUE,nCHAR,nCODE,nT,nREVERSE] then (1,1)
 else if s ∈ [nLEFT,nRIGHT,nFIXED] then (1,2)
 else if s ∈ [nREPT,nEXACT] then (2,2)
 else if s ∈ [nFIND,nSEARCH] then (2,3)
 else if s=nMID then (3,3)
 else if s=nSUBSTITUTE then (3,4)
 else if s=nREPLACE then (4,4)
 else if s=nCONCAT then (1,30)
 else (0,0)
set_option maxHeartbeats 4000000 in
theorem xlimits_ok (s:List UInt8):Pure Tryz.prog 14 [.str s] (.tuple [.int .i64 (limX s).1,.int .i64 (limX s).2]):=by
 intro σ
 refine a14 (by simp) ?_
 repeat' (first|(simp (disch:=first|assumption|omega|(simp only [List.length_append,List.length_cons,List.length_nil];omega)) only [go_sem,reduceCtorEq,Nat.reduceEqDiff,Nat.reduceAdd,Nat.reduceSub,Nat.reduceMul,Nat.reduceLeDiff,Int.reduceLT,Int.reduceLE,Int.reduceEq,↓reduceIte,Int.reduceNeg,Int.reduceAdd,Int.reduceSub,Int.reduceMul,true_imp_iff,forall_const,Nat.mul_one,Int.reduceToNat,Nat.reducePow,Int.reducePow,Bool.true_and,Bool.false_and,Bool.and_false])|with_reducible refine gC_d (fun h=>?_) (fun h=>?_)|with_reducible refine gC_dn (fun h=>?_) (fun h=>?_)|with_reducible refine condC_d (fun h=>?_) (fun h=>?_)|with_reducible refine condC_n (fun h=>?_) (fun h=>?_)|with_reducible refine condC_b (fun h=>?_) (fun h=>?_)|with_reducible refine boxC_by ?_ fun b hb=>?_)
 all_goals refine retC_by (by repeat' (first|exact Drop.refl _|with_reducible refine Drop.off ?_ (by assumption))) (.refl _) ⟨?_,rfl⟩
 all_goals simp [resV_one,limX,nLEN,nUPPER,nLOWER,nPROPER,nTRIM,nVALUE,nCHAR,nCODE,nT,nREVERSE,nLEFT,nRIGHT,nFIXED,nREPT,nEXACT,nFIND,nSEARCH,nMID,nSUBSTITUTE,nREPLACE,nCONCAT, *]
 all_goals rfl
theorem xcall_of {σ:ASt} (hT:Tab σ) (s:List UInt8) (L:List PV) (V:PV) (f:Int) (h0:(limX s).2≠0) (h1:(limX s).1<=L.length) (h2:(L.length:Int)<=(limX s).2)
  (hr:∀ (b:Nat) (τ:ASt),Tab τ->τ b=rdO L 0->(∀ x r,σ x=some r->τ x=some r)->ACalls Tryz.prog 15 [.ptr b 0,.str s] τ fun v σ'=>v=V.av/\σ'=τ.set b (rdO L f)) :
  ACalls Tryz.prog 9 [.str s,.sl .shr (L.map argAV)] σ fun v σ'=>v=(if f=0 then V else .fail f).av/\σ'=σ:=by
 have hL:=xlimits_ok s
 have hl:(L.map argAV).length=L.length:=List.length_map _
 generalize (limX s).1=least at *
 generalize (limX s).2=most at *
 unfold rdO at hr
 generalize L.map argAV=LA at *
 refine a9 (by simp) ?_
 simp (disch:=first|assumption|omega|(simp only [List.length_append,List.length_cons,List.length_nil];omega)) only [go_sem,reduceCtorEq,Nat.reduceEqDiff,Nat.reduceAdd,Nat.reduceSub,Nat.reduceMul,Nat.reduceLeDiff,Int.reduceLT,Int.reduceLE,Int.reduceEq,↓reduceIte,Int.reduceNeg,Int.reduceAdd,Int.reduceSub,Int.reduceMul,true_imp_iff,forall_const,Nat.mul_one,Int.reduceToNat,Nat.reducePow,Int.reducePow,Bool.true_and,Bool.false_and,Bool.and_false]
 refine hL.use ?_
 have g1:¬ ((LA.length:Int)<least):=by omega
 have g2:¬ (most<(LA.length:Int)):=by omega
 have g3:¬ ((L.length:Int)<least):=by omega
 have g4:¬ (most<(L.length:Int)):=by omega
 simp (disch:=first|assumption|omega|(simp only [List.length_append,List.length_cons,List.length_nil];omega)) only [go_sem,reduceCtorEq,Nat.reduceEqDiff,Nat.reduceAdd,Nat.reduceSub,Nat.reduceMul,Nat.reduceLeDiff,Int.reduceLT,Int.reduceLE,Int.reduceEq,↓reduceIte,Int.reduceNeg,Int.reduceAdd,Int.reduceSub,Int.reduceMul,true_imp_iff,forall_const,Nat.mul_one,Int.reduceToNat,Nat.reducePow,Int.reducePow,Bool.true_and,Bool.false_and,Bool.and_false,h0,hl,g1,g2,g3,g4]
 refine boxC_by rfl fun b hb=>?_
 simp (disch:=first|assumption|omega|(simp only [List.length_append,List.length_cons,List.length_nil];omega)) only [go_sem,reduceCtorEq,Nat.reduceEqDiff,Nat.reduceAdd,Nat.reduceSub,Nat.reduceMul,Nat.reduceLeDiff,Int.reduceLT,Int.reduceLE,Int.reduceEq,↓reduceIte,Int.reduceNeg,Int.reduceAdd,Int.reduceSub,Int.reduceMul,true_imp_iff,forall_const,Nat.mul_one,Int.reduceToNat,Nat.reducePow,Int.reducePow,Bool.true_and,Bool.false_and,Bool.and_false]
 refine (hr b _ (Tab.set hT hb) (ASt.set_same _ _ _) (fun x r hx=>by rw [ASt.set_ne (by rintro rfl;rw [hb] at hx;cases hx)];exact hx)).mono ?_
 rintro v σ' ⟨rfl,rfl⟩
 by_cases hf:f=0
 ·rw [if_pos hf]
  simp (disch:=first|assumption|omega|(simp only [List.length_append,List.length_cons,List.length_nil];omega)) only [go_sem,reduceCtorEq,Nat.reduceEqDiff,Nat.reduceAdd,Nat.reduceSub,Nat.reduceMul,Nat.reduceLeDiff,Int.reduceLT,Int.reduceLE,Int.reduceEq,↓reduceIte,Int.reduceNeg,Int.reduceAdd,Int.reduceSub,Int.reduceMul,true_imp_iff,forall_const,Nat.mul_one,Int.reduceToNat,Nat.reducePow,Int.reducePow,Bool.true_and,Bool.false_and,Bool.and_false,ASt.set_set,hf]
  exact retC_by (Drop.set hb) (.refl _) ⟨rfl,rfl⟩
 ·rw [if_neg hf]
  simp only [PV.av]
  simp (disch:=first|assumption|omega|(simp only [List.length_append,List.length_cons,List.length_nil];omega)) only [go_sem,reduceCtorEq,Nat.reduceEqDiff,Nat.reduceAdd,Nat.reduceSub,Nat.reduceMul,Nat.reduceLeDiff,Int.reduceLT,Int.reduceLE,Int.reduceEq,↓reduceIte,Int.reduceNeg,Int.reduceAdd,Int.reduceSub,Int.reduceMul,true_imp_iff,forall_const,Nat.mul_one,Int.reduceToNat,Nat.reducePow,Int.reducePow,Bool.true_and,Bool.false_and,Bool.and_false,ASt.set_set,hf]
  exact retC_by (Drop.set hb) (.refl _) ⟨rfl,rfl⟩
end Go.A
namespace Go.A
open Go.Proofs
/-! 15: (*tabular/texts.reader).call -/
def c15_94:ACode := .seq (.ops [ oq 107 (.bin .eql (.t 72) (.v (.str [69,88,65,67,84]))),oq 106 (.mv (.t 107))]) (.cond (.t 106) (.seq (.ops [ oq 108 (.mv (.t 10)),oq 109 (.mv (.t 0)),oe 110 (.call 27 [(.t 109),(.v (.int .i64 1))]),oq 111 (.bin .eql (.t 108) (.t 110)),oq 112 (.mki 70 (.t 111)),oq 4 (.mv (.t 112))]) .ret) (.seq (.ops [ oq 114 (.bin .eql (.t 72) (.v (.str [70,73,78,68]))),oq 113 (.mv (.t 114))]) (.cond (.t 113) (.seq (.ops [ oq 115 (.mv (.t 10)),oq 116 (.mv (.t 0)),oe 117 (.call 27 [(.t 116),(.v (.int .i64 1))]),oq 118 (.mv (.t 0)),oe 119 (.call 21 [(.t 118),(.v (.int .i64 2)),(.v (.int .i64 1))]),oe 120 (.call 31 [(.t 115),(.t 117),(.t 119)]),oq 4 (.mv (.t 120))]) .ret) (.seq (.ops [ oq 122 (.bin .eql (.t 72) (.v (.str [83,69,65,82,67,72]))),oq 121 (.mv (.t 122))]) (.cond (.t 121) (.seq (.ops [ oq 123 (.mv (.t 10)),oe 124 (.call 32 [(.t 123)]),oq 125 (.mv (.t 0)),oe 126 (.call 27 [(.t 125),(.v (.int .i64 1))]),oe 127 (.call 32 [(.t 126)]),oq 128 (.mv (.t 0)),oe 129 (.call 21 [(.t 128),(.v (.int .i64 2)),(.v (.int .i64 1))]),oe 130 (.call 31 [(.t 124),(.t 127),(.t 129)]),oq 4 (.mv (.t 130))]) .ret) (.seq (.ops [ oq 132 (.bin .eql (.t 72) (.v (.str [83,85,66,83,84,73,84,85,84,69]))),oq 131 (.mv (.t 132))]) (.cond (.t 131) (.seq (.ops [ oq 133 (.mv (.t 0)),oe 134 (.call 27 [(.t 133),(.v (.int .i64 1))]),oq 135 (.mv (.t 0)),oe 136 (.call 27 [(.t 135),(.v (.int .i64 2))]),oq 137 (.mv (.t 0)),oe 138 (.call 21 [(.t 137),(.v (.int .i64 3)),(.v (.int .i64 0))]),oq 13 (.mv (.t 134)),oq 14 (.mv (.t 136)),oq 15 (.mv (.t 138))]) (.seq (.seq (.ops [ oq 139 (.mv (.t 0)),oe 140 (.call 33 [(.t 139),(.v (.int .i64 3))]),oq 141 (.mv (.t 140)),⟨some 142,some (141,true),.q (.mv (.t 15)),[]⟩,⟨some 143,some (141,true),.q (.bin .lss (.t 142) (.v (.int .i64 1))),[]⟩,oq 144 (.pick (.t 141) (.t 143) (.v (.bool false)))]) (.cond (.t 144) (.seq (.ops [ oq 145 (.mki 47 (.v (.int .i64 3))),oq 4 (.mv (.t 145))]) .ret) .skip)) (.seq (.ops [ oq 146 (.mv (.t 10)),oq 147 (.mv (.t 13)),oq 148 (.mv (.t 14)),oq 149 (.mv (.t 15)),oe 150 (.call 34 [(.t 146),(.t 147),(.t 148),(.t 149)]),oq 4 (.mv (.t 150))]) .ret))) (.seq (.ops [ oq 152 (.bin .eql (.t 72) (.v (.str [82,69,80,76,65,67,69]))),oq 151 (.mv (.t 152))]) (.cond (.t 151) (.seq (.ops [ oq 153 (.mv (.t 0)),oe 154 (.call 21 [(.t 153),(.v (.int .i64 1)),(.v (.int .i64 1))]),oq 155 (.mv (.t 0)),oe 156 (.call 21 [(.t 155),(.v (.int .i64 2)),(.v (.int .i64 1))]),oq 16 (.mv (.t 154)),oq 17 (.mv (.t 156))]) (.seq (.ops [ oq 157 (.mv (.t 10)),oq 158 (.mv (.t 16)),oq 159 (.mv (.t 17)),oq 160 (.mv (.t 0)),oe 161 (.call 27 [(.t 160),(.v (.int .i64 3))]),oe 162 (.call 35 [(.t 157),(.t 158),(.t 159),(.t 161)]),oq 4 (.mv (.t 162))]) .ret)) .skip)))))))))
def c15_107:ACode := .seq (.seq (.ops [ oq 18 (.mv (.t 1))]) (.block 0 (.seq (.ops [ oq 20 (.bin .eql (.t 18) (.v (.str [67,72,65,82]))),oq 19 (.mv (.t 20))]) (.cond (.t 19) (.seq (.ops [ oq 21 (.mv (.t 0)),oe 22 (.call 21 [(.t 21),(.v (.int .i64 0)),(.v (.int .i64 0))]),oe 23 (.call 20 [(.t 22)]),oq 4 (.mv (.t 23))]) .ret) (.seq (.ops [ oq 25 (.bin .eql (.t 18) (.v (.str [67,79,78,67,65,84]))),oq 24 (.mv (.t 25))]) (.cond (.t 24) (.seq (.ops [ oq 26 (.mv (.t 0)),oe 27 (.call 22 [(.t 26)]),oq 4 (.mv (.t 27))]) .ret) (.seq (.ops [ oq 29 (.bin .eql (.t 18) (.v (.str [70,73,88,69,68]))),oq 28 (.mv (.t 29))]) (.cond (.t 28) (.seq (.ops [ oq 31 (.mv (.t 0)),oq 32 (.nc (.t 31)),oq 33 (.fa 0 (.t 32)),oq 34 (.ld none (.t 33)),oq 35 (.ia 4 (.t 34) (.v (.int .i64 0))),oq 36 (.ld (some 4) (.t 35)),oe 37 (.call 24 [(.t 36)]),oe 38 (.call 23 [(.t 37)]),oq 30 (.mv (.t 38)),oq 39 (.ext 0 (.t 30)),oq 40 (.ext 1 (.t 30)),oq 5 (.mv (.t 39)),oq 6 (.mv (.t 40))]) (.seq (.ops [ oq 41 (.mv (.t 0)),oq 42 (.mv (.t 6)),oq 43 (.nc (.t 41)),oq 44 (.fa 1 (.t 43)),oz (.store 1 (.t 44) (.t 42))]) (.seq (.ops [ oq 45 (.mv (.t 5)),oq 46 (.mv (.t 0)),oe 47 (.call 21 [(.t 46),(.v (.int .i64 1)),(.v (.int .i64 2))]),oe 48 (.call 25 [(.t 45),(.t 47)]),oq 4 (.mv (.t 48))]) .ret))) (.seq (.ops [ oq 50 (.bin .eql (.t 18) (.v (.str [84]))),oq 49 (.mv (.t 50))]) (.cond (.t 49) (.seq (.ops [ oq 51 (.mv (.t 0)),oq 52 (.nc (.t 51)),oq 53 (.fa 0 (.t 52)),oq 54 (.ld none (.t 53)),oq 55 (.ia 4 (.t 54) (.v (.int .i64 0))),oq 56 (.ld (some 4) (.t 55)),oe 57 (.call 24 [(.t 56)]),oq 7 (.mv (.t 57))]) (.seq (.seq (.ops [ oq 59 (.mv (.t 7)),oe 60 (.call 17 [(.t 59)]),oq 58 (.mv (.t 60)),oq 61 (.ext 0 (.t 58)),oq 62 (.ext 1 (.t 58)),oq 8 (.mv (.t 61)),oq 9 (.mv (.t 62))]) (.seq (.ops [ oq 63 (.mv (.t 9)),oq 64 (.mv (.t 63)),⟨some 65,some (64,false),.q (.mv (.t 7)),[]⟩,⟨some 66,some (64,false),.e (.call 26 [(.t 65)]),[]⟩,oq 67 (.pick (.t 64) (.v (.bool true)) (.t 66))]) (.cond (.t 67) (.seq (.ops [ oq 68 (.mv (.t 7)),oq 4 (.mv (.t 68))]) .ret) .skip))) (.seq (.ops [ oq 69 (.mki 43 (.v (.str []))),oq 4 (.mv (.t 69))]) .ret))) .skip)))))))))) (.seq (.ops [ oq 70 (.mv (.t 0)),oe 71 (.call 27 [(.t 70),(.v (.int .i64 0))]),oq 10 (.mv (.t 71))]) (.seq (.seq (.ops [ oq 72 (.mv (.t 1))]) (.block 1 (.seq (.seq (.ops [ oq 74 (.bin .eql (.t 72) (.v (.str [76,69,70,84]))),oq 73 (.mv (.t 74))]) (.cond (.t 73) .skip (.ops [ oq 75 (.bin .eql (.t 72) (.v (.str [82,73,71,72,84]))),oq 73 (.mv (.t 75))]))) (.cond (.t 73) (.seq (.ops [ oq 76 (.mv (.t 1)),oq 77 (.mv (.t 10)),oq 78 (.mv (.t 0)),oe 79 (.call 21 [(.t 78),(.v (.int .i64 1)),(.v (.int .i64 1))]),oe 80 (.call 28 [(.t 76),(.t 77),(.t 79)]),oq 4 (.mv (.t 80))]) .ret) (.seq (.ops [ oq 82 (.bin .eql (.t 72) (.v (.str [77,73,68]))),oq 81 (.mv (.t 82))]) (.cond (.t 81) (.seq (.ops [ oq 83 (.mv (.t 0)),oe 84 (.call 21 [(.t 83),(.v (.int .i64 1)),(.v (.int .i64 1))]),oq 85 (.mv (.t 0)),oe 86 (.call 21 [(.t 85),(.v (.int .i64 2)),(.v (.int .i64 1))]),oq 11 (.mv (.t 84)),oq 12 (.mv (.t 86))]) (.seq (.seq (.ops [ oq 87 (.mv (.t 11)),oq 88 (.bin .lss (.t 87) (.v (.int .i64 1))),oq 89 (.mv (.t 88)),⟨some 90,some (89,false),.q (.mv (.t 12)),[]⟩,⟨some 91,some (89,false),.q (.bin .lss (.t 90) (.v (.int .i64 0))),[]⟩,oq 92 (.pick (.t 89) (.v (.bool true)) (.t 91))]) (.cond (.t 92) (.seq (.ops [ oq 93 (.mki 47 (.v (.int .i64 3))),oq 4 (.mv (.t 93))]) .ret) .skip)) (.seq (.ops [ oq 94 (.mv (.t 10)),oq 95 (.mv (.t 11)),oq 96 (.bin .sub (.t 95) (.v (.int .i64 1))),oq 97 (.mv (.t 12)),oe 98 (.call 29 [(.t 94),(.t 96),(.t 97)]),oq 99 (.mki 43 (.t 98)),oq 4 (.mv (.t 99))]) .ret))) (.seq (.ops [ oq 101 (.bin .eql (.t 72) (.v (.str [82,69,80,84]))),oq 100 (.mv (.t 101))]) (.cond (.t 100) (.seq (.ops [ oq 102 (.mv (.t 10)),oq 103 (.mv (.t 0)),oe 104 (.call 21 [(.t 103),(.v (.int .i64 1)),(.v (.int .i64 1))]),oe 105 (.call 30 [(.t 102),(.t 104)]),oq 4 (.mv (.t 105))]) .ret) c15_94)))))))) (.seq (.ops [ oq 163 (.mv (.t 1)),oq 164 (.mv (.t 10)),oe 165 (.call 36 [(.t 163),(.t 164)]),oq 4 (.mv (.t 165))]) .ret)))
def c15_108:ACode := .seq (.ops [ oq 4 (.mv (.v .nili))]) c15_107
@[go_sem] def c15_94_wp:=wp_of c15_94.eq_1
@[go_sem] def c15_107_wp:=wp_of c15_107.eq_1
@[go_sem] def c15_108_wp:=wp_of c15_108.eq_1
def c15:AFn:=⟨166,[.t 4],c15_108⟩
theorem c15_ok:compF Tryz.prog Tryz.f15=some c15:=by kernel_rfl
theorem a15 {args:List AV} {σ:ASt} {R:AV->ASt->Prop} (hl:args.length<=166) (h:c15_108.wp Tryz.prog (RetQ [.t 4] R) (init args) σ):ACalls Tryz.prog 15 args σ R:=acalls_of Tryz.func15 c15_ok hl h
/-! 36: tabular/texts.one -/
def c36_50:ACode := .seq (.ops [ oq 4 (.mv (.v .nili))]) (.seq (.seq (.ops [ oq 7 (.mv (.t 0))]) (.block 0 (.seq (.ops [ oq 9 (.bin .eql (.t 7) (.v (.str [76,69,78]))),oq 8 (.mv (.t 9))]) (.cond (.t 8) (.seq (.ops [ oq 10 (.mv (.t 1)),oe 11 (.call 48 [(.t 10)]),oe 12 (.call 52 [(.t 11)]),oq 13 (.ext 0 (.t 12)),oq 14 (.ext 1 (.t 12)),oe 15 (.call 51 [(.t 13),(.t 14)]),oq 4 (.mv (.t 15))]) .ret) (.seq (.ops [ oq 17 (.bin .eql (.t 7) (.v (.str [85,80,80,69,82]))),oq 16 (.mv (.t 17))]) (.cond (.t 16) (.seq (.ops [ oq 18 (.mv (.t 1)),oe 19 (.call 32 [(.t 18)]),oq 20 (.mki 43 (.t 19)),oq 4 (.mv (.t 20))]) .ret) (.seq (.ops [ oq 22 (.bin .eql (.t 7) (.v (.str [76,79,87,69,82]))),oq 21 (.mv (.t 22))]) (.cond (.t 21) (.seq (.ops [ oq 23 (.mv (.t 1)),oe 24 (.call 57 [(.t 23)]),oq 25 (.mki 43 (.t 24)),oq 4 (.mv (.t 25))]) .ret) (.seq (.ops [ oq 27 (.bin .eql (.t 7) (.v (.str [80,82,79,80,69,82]))),oq 26 (.mv (.t 27))]) (.cond (.t 26) (.seq (.ops [ oq 28 (.mv (.t 1)),oe 29 (.call 58 [(.t 28)]),oq 30 (.mki 43 (.t 29)),oq 4 (.mv (.t 30))]) .ret) (.seq (.ops [ oq 32 (.bin .eql (.t 7) (.v (.str [84,82,73,77]))),oq 31 (.mv (.t 32))]) (.cond (.t 31) (.seq (.ops [ oq 33 (.mv (.t 1)),oe 34 (.call 59 [(.t 33)]),oq 35 (.mki 43 (.t 34)),oq 4 (.mv (.t 35))]) .ret) (.seq (.ops [ oq 37 (.bin .eql (.t 7) (.v (.str [67,79,68,69]))),oq 36 (.mv (.t 37))]) (.cond (.t 36) (.seq (.ops [ oq 38 (.mv (.t 1)),oe 39 (.call 60 [(.t 38)]),oq 4 (.mv (.t 39))]) .ret) (.seq (.ops [ oq 41 (.bin .eql (.t 7) (.v (.str [82,69,86,69,82,83,69]))),oq 40 (.mv (.t 41))]) (.cond (.t 40) (.seq (.ops [ oq 42 (.mv (.t 1)),oe 43 (.call 61 [(.t 42)]),oq 44 (.mki 43 (.t 43)),oq 4 (.mv (.t 44))]) .ret) .skip)))))))))))))))) (.seq (.ops [ oq 46 (.mv (.t 1)),oq 47 (.mki 43 (.t 46)),oe 48 (.call 23 [(.t 47)]),oq 45 (.mv (.t 48)),oq 49 (.ext 0 (.t 45)),oq 50 (.ext 1 (.t 45)),oq 5 (.mv (.t 49)),oq 6 (.mv (.t 50))]) (.seq (.seq (.ops [ oq 51 (.mv (.t 6)),oq 52 (.bin .neq (.t 51) (.v (.int .i64 0)))]) (.cond (.t 52) (.seq (.ops [ oq 53 (.mv (.t 6)),oq 54 (.mki 47 (.t 53)),oq 4 (.mv (.t 54))]) .ret) .skip)) (.seq (.ops [ oq 55 (.mv (.t 5)),oq 56 (.mki 77 (.t 55)),oq 4 (.mv (.t 56))]) .ret))))
@[go_sem] def c36_50_wp:=wp_of c36_50.eq_1
def c36:AFn:=⟨57,[.t 4],c36_50⟩
theorem c36_ok:compF Tryz.prog Tryz.f36=some c36:=by kernel_rfl
theorem a36 {args:List AV} {σ:ASt} {R:AV->ASt->Prop} (hl:args.length<=57) (h:c36_50.wp Tryz.prog (RetQ [.t 4] R) (init args) σ):ACalls Tryz.prog 36 args σ R:=acalls_of Tryz.func36 c36_ok hl h
end Go.A
namespace Go.A
open Go.Proofs Go.Lib
theorem nes_PROPER:([80,82,79,80,69,82]:List UInt8) ≠ [76,69,78]/\([80,82,79,80,69,82]:List UInt8) ≠ [85,80,80,69,82]/\([80,82,79,80,69,82]:List UInt8) ≠ [76,79,87,69,82]/\([80,82,79,80,69,82]:List UInt8) ≠ [84,82,73,77]/\([80,82,79,80,69,82]:List UInt8) ≠ [86,65,76,85,69]/\([80,82,79,80,69,82]:List UInt8) ≠ [67,72,65,82]/\([80,82,79,80,69,82]:List UInt8) ≠ [67,79,68,69]/\([80,82,79,80,69,82]:List UInt8) ≠ [84]/\([80,82,79,80,69,82]:List UInt8) ≠ [82,69,86,69,82,83,69]/\([80,82,79,80,69,82]:List UInt8) ≠ [76,69,70,84]/\([80,82,79,80,69,82]:List UInt8) ≠ [82,73,71,72,84]/\([80,82,79,80,69,82]:List UInt8) ≠ [70,73,88,69,68]/\([80,82,79,80,69,82]:List UInt8) ≠ [82,69,80,84]/\([80,82,79,80,69,82]:List UInt8) ≠ [69,88,65,67,84]/\([80,82,79,80,69,82]:List UInt8) ≠ [70,73,78,68]/\([80,82,79,80,69,82]:List UInt8) ≠ [83,69,65,82,67,72]/\([80,82,79,80,69,82]:List UInt8) ≠ [77,73,68]/\([80,82,79,80,69,82]:List UInt8) ≠ [83,85,66,83,84,73,84,85,84,69]/\([80,82,79,80,69,82]:List UInt8) ≠ [82,69,80,76,65,67,69]/\([80,82,79,80,69,82]:List UInt8) ≠ [67,79,78,67,65,84]:=by decide
theorem nes_UPPER:([85,80,80,69,82]:List UInt8) ≠ [76,69,78]/\([85,80,80,69,82]:List UInt8) ≠ [76,79,87,69,82]/\([85,80,80,69,82]:List UInt8) ≠ [80,82,79,80,69,82]/\([85,80,80,69,82]:List UInt8) ≠ [84,82,73,77]/\([85,80,80,69,82]:List UInt8) ≠ [86,65,76,85,69]/\([85,80,80,69,82]:List UInt8) ≠ [67,72,65,82]/\([85,80,80,69,82]:List UInt8) ≠ [67,79,68,69]/\([85,80,80,69,82]:List UInt8) ≠ [84]/\([85,80,80,69,82]:List UInt8) ≠ [82,69,86,69,82,83,69]/\([85,80,80,69,82]:List UInt8) ≠ [76,69,70,84]/\([85,80,80,69,82]:List UInt8) ≠ [82,73,71,72,84]/\([85,80,80,69,82]:List UInt8) ≠ [70,73,88,69,68]/\([85,80,80,69,82]:List UInt8) ≠ [82,69,80,84]/\([85,80,80,69,82]:List UInt8) ≠ [69,88,65,67,84]/\([85,80,80,69,82]:List UInt8) ≠ [70,73,78,68]/\([85,80,80,69,82]:List UInt8) ≠ [83,69,65,82,67,72]/\([85,80,80,69,82]:List UInt8) ≠ [77,73,68]/\([85,80,80,69,82]:List UInt8) ≠ [83,85,66,83,84,73,84,85,84,69]/\([85,80,80,69,82]:List UInt8) ≠ [82,69,80,76,65,67,69]/\([85,80,80,69,82]:List UInt8) ≠ [67,79,78,67,65,84]:=by decide
theorem nes_LOWER:([76,79,87,69,82]:List UInt8) ≠ [76,69,78]/\([76,79,87,69,82]:List UInt8) ≠ [85,80,80,69,82]/\([76,79,87,69,82]:List UInt8) ≠ [80,82,79,80,69,82]/\([76,79,87,69,82]:List UInt8) ≠ [84,82,73,77]/\([76,79,87,69,82]:List UInt8) ≠ [86,65,76,85,69]/\([76,79,87,69,82]:List UInt8) ≠ [67,72,65,82]/\([76,79,87,69,82]:List UInt8) ≠ [67,79,68,69]/\([76,79,87,69,82]:List UInt8) ≠ [84]/\([76,79,87,69,82]:List UInt8) ≠ [82,69,86,69,82,83,69]/\([76,79,87,69,82]:List UInt8) ≠ [76,69,70,84]/\([76,79,87,69,82]:List UInt8) ≠ [82,73,71,72,84]/\([76,79,87,69,82]:List UInt8) ≠ [70,73,88,69,68]/\([76,79,87,69,82]:List UInt8) ≠ [82,69,80,84]/\([76,79,87,69,82]:List UInt8) ≠ [69,88,65,67,84]/\([76,79,87,69,82]:List UInt8) ≠ [70,73,78,68]/\([76,79,87,69,82]:List UInt8) ≠ [83,69,65,82,67,72]/\([76,79,87,69,82]:List UInt8) ≠ [77,73,68]/\([76,79,87,69,82]:List UInt8) ≠ [83,85,66,83,84,73,84,85,84,69]/\([76,79,87,69,82]:List UInt8) ≠ [82,69,80,76,65,67,69]/\([76,79,87,69,82]:List UInt8) ≠ [67,79,78,67,65,84]:=by decide
theorem nes_RIGHT:([82,73,71,72,84]:List UInt8) ≠ [76,69,78]/\([82,73,71,72,84]:List UInt8) ≠ [85,80,80,69,82]/\([82,73,71,72,84]:List UInt8) ≠ [76,79,87,69,82]/\([82,73,71,72,84]:List UInt8) ≠ [80,82,79,80,69,82]/\([82,73,71,72,84]:List UInt8) ≠ [84,82,73,77]/\([82,73,71,72,84]:List UInt8) ≠ [86,65,76,85,69]/\([82,73,71,72,84]:List UInt8) ≠ [67,72,65,82]/\([82,73,71,72,84]:List UInt8) ≠ [67,79,68,69]/\([82,73,71,72,84]:List UInt8) ≠ [84]/\([82,73,71,72,84]:List UInt8) ≠ [82,69,86,69,82,83,69]/\([82,73,71,72,84]:List UInt8) ≠ [76,69,70,84]/\([82,73,71,72,84]:List UInt8) ≠ [70,73,88,69,68]/\([82,73,71,72,84]:List UInt8) ≠ [82,69,80,84]/\([82,73,71,72,84]:List UInt8) ≠ [69,88,65,67,84]/\([82,73,71,72,84]:List UInt8) ≠ [70,73,78,68]/\([82,73,71,72,84]:List UInt8) ≠ [83,69,65,82,67,72]/\([82,73,71,72,84]:List UInt8) ≠ [77,73,68]/\([82,73,71,72,84]:List UInt8) ≠ [83,85,66,83,84,73,84,85,84,69]/\([82,73,71,72,84]:List UInt8) ≠ [82,69,80,76,65,67,69]/\([82,73,71,72,84]:List UInt8) ≠ [67,79,78,67,65,84]:=by decide
theorem nes_REVERSE:([82,69,86,69,82,83,69]:List UInt8) ≠ [76,69,78]/\([82,69,86,69,82,83,69]:List UInt8) ≠ [85,80,80,69,82]/\([82,69,86,69,82,83,69]:List UInt8) ≠ [76,79,87,69,82]/\([82,69,86,69,82,83,69]:List UInt8) ≠ [80,82,79,80,69,82]/\([82,69,86,69,82,83,69]:List UInt8) ≠ [84,82,73,77]/\([82,69,86,69,82,83,69]:List UInt8) ≠ [86,65,76,85,69]/\([82,69,86,69,82,83,69]:List UInt8) ≠ [67,72,65,82]/\([82,69,86,69,82,83,69]:List UInt8) ≠ [67,79,68,69]/\([82,69,86,69,82,83,69]:List UInt8) ≠ [84]/\([82,69,86,69,82,83,69]:List UInt8) ≠ [76,69,70,84]/\([82,69,86,69,82,83,69]:List UInt8) ≠ [82,73,71,72,84]/\([82,69,86,69,82,83,69]:List UInt8) ≠ [70,73,88,69,68]/\([82,69,86,69,82,83,69]:List UInt8) ≠ [82,69,80,84]/\([82,69,86,69,82,83,69]:List UInt8) ≠ [69,88,65,67,84]/\([82,69,86,69,82,83,69]:List UInt8) ≠ [70,73,78,68]/\([82,69,86,69,82,83,69]:List UInt8) ≠ [83,69,65,82,67,72]/\([82,69,86,69,82,83,69]:List UInt8) ≠ [77,73,68]/\([82,69,86,69,82,83,69]:List UInt8) ≠ [83,85,66,83,84,73,84,85,84,69]/\([82,69,86,69,82,83,69]:List UInt8) ≠ [82,69,80,76,65,67,69]/\([82,69,86,69,82,83,69]:List UInt8) ≠ [67,79,78,67,65,84]:=by decide
theorem nes_TRIM:([84,82,73,77]:List UInt8) ≠ [76,69,78]/\([84,82,73,77]:List UInt8) ≠ [85,80,80,69,82]/\([84,82,73,77]:List UInt8) ≠ [76,79,87,69,82]/\([84,82,73,77]:List UInt8) ≠ [80,82,79,80,69,82]/\([84,82,73,77]:List UInt8) ≠ [86,65,76,85,69]/\([84,82,73,77]:List UInt8) ≠ [67,72,65,82]/\([84,82,73,77]:List UInt8) ≠ [67,79,68,69]/\([84,82,73,77]:List UInt8) ≠ [84]/\([84,82,73,77]:List UInt8) ≠ [82,69,86,69,82,83,69]/\([84,82,73,77]:List UInt8) ≠ [76,69,70,84]/\([84,82,73,77]:List UInt8) ≠ [82,73,71,72,84]/\([84,82,73,77]:List UInt8) ≠ [70,73,88,69,68]/\([84,82,73,77]:List UInt8) ≠ [82,69,80,84]/\([84,82,73,77]:List UInt8) ≠ [69,88,65,67,84]/\([84,82,73,77]:List UInt8) ≠ [70,73,78,68]/\([84,82,73,77]:List UInt8) ≠ [83,69,65,82,67,72]/\([84,82,73,77]:List UInt8) ≠ [77,73,68]/\([84,82,73,77]:List UInt8) ≠ [83,85,66,83,84,73,84,85,84,69]/\([84,82,73,77]:List UInt8) ≠ [82,69,80,76,65,67,69]/\([84,82,73,77]:List UInt8) ≠ [67,79,78,67,65,84]:=by decide
theorem xone_PROPER (s:List UInt8) (hs:s.length<=200000):Pure Tryz.prog 36 [.str nPROPER,.str s] (PV.text (propP s)).av:=by
 intro σ
 have h1:=xproper_ok s hs
 simp only [PV.av]
 unfold nPROPER
 refine a36 (by simp) ?_
 simp (disch:=first|assumption|omega|(simp only [List.length_append,List.length_cons,List.length_nil];omega)) only [go_sem,reduceCtorEq,Nat.reduceEqDiff,Nat.reduceAdd,Nat.reduceSub,Nat.reduceMul,Nat.reduceLeDiff,Int.reduceLT,Int.reduceLE,Int.reduceEq,↓reduceIte,Int.reduceNeg,Int.reduceAdd,Int.reduceSub,Int.reduceMul,true_imp_iff,forall_const,Nat.mul_one,Int.reduceToNat,Nat.reducePow,Int.reducePow,Bool.true_and,Bool.false_and,Bool.and_false,nes_PROPER]
 refine h1.use ?_
 simp (disch:=first|assumption|omega|(simp only [List.length_append,List.length_cons,List.length_nil];omega)) only [go_sem,reduceCtorEq,Nat.reduceEqDiff,Nat.reduceAdd,Nat.reduceSub,Nat.reduceMul,Nat.reduceLeDiff,Int.reduceLT,Int.reduceLE,Int.reduceEq,↓reduceIte,Int.reduceNeg,Int.reduceAdd,Int.reduceSub,Int.reduceMul,true_imp_iff,forall_const,Nat.mul_one,Int.reduceToNat,Nat.reducePow,Int.reducePow,Bool.true_and,Bool.false_and,Bool.and_false,nes_PROPER]
 exact retC_by (.refl _) (.refl _) ⟨rfl,rfl⟩
theorem xone_UPPER (s:List UInt8) (hs:s.length<=200000):Pure Tryz.prog 36 [.str nUPPER,.str s] (PV.text (greatP s)).av:=by
 intro σ
 have h1:=vgreat_ok s (by omega)
 simp only [PV.av]
 unfold nUPPER
 refine a36 (by simp) ?_
 simp (disch:=first|assumption|omega|(simp only [List.length_append,List.length_cons,List.length_nil];omega)) only [go_sem,reduceCtorEq,Nat.reduceEqDiff,Nat.reduceAdd,Nat.reduceSub,Nat.reduceMul,Nat.reduceLeDiff,Int.reduceLT,Int.reduceLE,Int.reduceEq,↓reduceIte,Int.reduceNeg,Int.reduceAdd,Int.reduceSub,Int.reduceMul,true_imp_iff,forall_const,Nat.mul_one,Int.reduceToNat,Nat.reducePow,Int.reducePow,Bool.true_and,Bool.false_and,Bool.and_false,nes_UPPER]
 refine h1.use ?_
 simp (disch:=first|assumption|omega|(simp only [List.length_append,List.length_cons,List.length_nil];omega)) only [go_sem,reduceCtorEq,Nat.reduceEqDiff,Nat.reduceAdd,Nat.reduceSub,Nat.reduceMul,Nat.reduceLeDiff,Int.reduceLT,Int.reduceLE,Int.reduceEq,↓reduceIte,Int.reduceNeg,Int.reduceAdd,Int.reduceSub,Int.reduceMul,true_imp_iff,forall_const,Nat.mul_one,Int.reduceToNat,Nat.reducePow,Int.reducePow,Bool.true_and,Bool.false_and,Bool.and_false,nes_UPPER]
 exact retC_by (.refl _) (.refl _) ⟨rfl,rfl⟩
theorem xone_LOWER (s:List UInt8) (hs:s.length<=200000):Pure Tryz.prog 36 [.str nLOWER,.str s] (PV.text (smallP s)).av:=by
 intro σ
 have h1:=xlower_ok s (by omega)
 simp only [PV.av]
 unfold nLOWER
 refine a36 (by simp) ?_
 simp (disch:=first|assumption|omega|(simp only [List.length_append,List.length_cons,List.length_nil];omega)) only [go_sem,reduceCtorEq,Nat.reduceEqDiff,Nat.reduceAdd,Nat.reduceSub,Nat.reduceMul,Nat.reduceLeDiff,Int.reduceLT,Int.reduceLE,Int.reduceEq,↓reduceIte,Int.reduceNeg,Int.reduceAdd,Int.reduceSub,Int.reduceMul,true_imp_iff,forall_const,Nat.mul_one,Int.reduceToNat,Nat.reducePow,Int.reducePow,Bool.true_and,Bool.false_and,Bool.and_false,nes_LOWER]
 refine h1.use ?_
 simp (disch:=first|assumption|omega|(simp only [List.length_append,List.length_cons,List.length_nil];omega)) only [go_sem,reduceCtorEq,Nat.reduceEqDiff,Nat.reduceAdd,Nat.reduceSub,Nat.reduceMul,Nat.reduceLeDiff,Int.reduceLT,Int.reduceLE,Int.reduceEq,↓reduceIte,Int.reduceNeg,Int.reduceAdd,Int.reduceSub,Int.reduceMul,true_imp_iff,forall_const,Nat.mul_one,Int.reduceToNat,Nat.reducePow,Int.reducePow,Bool.true_and,Bool.false_and,Bool.and_false,nes_LOWER]
 exact retC_by (.refl _) (.refl _) ⟨rfl,rfl⟩
theorem rc_PROPER {τ:ASt} {b:Nat} (hT:Tab τ) (s:List UInt8) (hs:s.length<=200000) (hb:τ b=rdO [.text s] 0) :
  ACalls Tryz.prog 15 [.ptr b 0,.str nPROPER] τ fun v σ'=>v=(PV.text (propP s)).av/\σ'=τ.set b (rdO [.text s] 0):=by
 have h0:=xrtext_ok hT hb 0 rfl (v := .text s) trivial
 have h1:=xone_PROPER s hs
 rw [show ((0:Nat):Int)=0 from rfl] at h0
 simp only [asTextP,seen] at h0
 generalize (PV.text (propP s)).av=W at *
 unfold nPROPER at *
 refine a15 (by simp) ?_
 simp (disch:=first|assumption|omega|(simp only [List.length_append,List.length_cons,List.length_nil];omega)) only [go_sem,reduceCtorEq,Nat.reduceEqDiff,Nat.reduceAdd,Nat.reduceSub,Nat.reduceMul,Nat.reduceLeDiff,Int.reduceLT,Int.reduceLE,Int.reduceEq,↓reduceIte,Int.reduceNeg,Int.reduceAdd,Int.reduceSub,Int.reduceMul,true_imp_iff,forall_const,Nat.mul_one,Int.reduceToNat,Nat.reducePow,Int.reducePow,Bool.true_and,Bool.false_and,Bool.and_false,nes_PROPER]
 refine h0.mono ?_
 rintro v σ' ⟨rfl,rfl⟩
 simp (disch:=first|assumption|omega|(simp only [List.length_append,List.length_cons,List.length_nil];omega)) only [go_sem,reduceCtorEq,Nat.reduceEqDiff,Nat.reduceAdd,Nat.reduceSub,Nat.reduceMul,Nat.reduceLeDiff,Int.reduceLT,Int.reduceLE,Int.reduceEq,↓reduceIte,Int.reduceNeg,Int.reduceAdd,Int.reduceSub,Int.reduceMul,true_imp_iff,forall_const,Nat.mul_one,Int.reduceToNat,Nat.reducePow,Int.reducePow,Bool.true_and,Bool.false_and,Bool.and_false,nes_PROPER]
 refine h1.use ?_
 simp (disch:=first|assumption|omega|(simp only [List.length_append,List.length_cons,List.length_nil];omega)) only [go_sem,reduceCtorEq,Nat.reduceEqDiff,Nat.reduceAdd,Nat.reduceSub,Nat.reduceMul,Nat.reduceLeDiff,Int.reduceLT,Int.reduceLE,Int.reduceEq,↓reduceIte,Int.reduceNeg,Int.reduceAdd,Int.reduceSub,Int.reduceMul,true_imp_iff,forall_const,Nat.mul_one,Int.reduceToNat,Nat.reducePow,Int.reducePow,Bool.true_and,Bool.false_and,Bool.and_false,nes_PROPER]
 exact retC_by (.refl _) (.refl _) ⟨rfl,rfl⟩
theorem rc_UPPER {τ:ASt} {b:Nat} (hT:Tab τ) (s:List UInt8) (hs:s.length<=200000) (hb:τ b=rdO [.text s] 0) :
  ACalls Tryz.prog 15 [.ptr b 0,.str nUPPER] τ fun v σ'=>v=(PV.text (greatP s)).av/\σ'=τ.set b (rdO [.text s] 0):=by
 have h0:=xrtext_ok hT hb 0 rfl (v := .text s) trivial
 have h1:=xone_UPPER s hs
 rw [show ((0:Nat):Int)=0 from rfl] at h0
 simp only [asTextP,seen] at h0
 generalize (PV.text (greatP s)).av=W at *
 unfold nUPPER at *
 refine a15 (by simp) ?_
 simp (disch:=first|assumption|omega|(simp only [List.length_append,List.length_cons,List.length_nil];omega)) only [go_sem,reduceCtorEq,Nat.reduceEqDiff,Nat.reduceAdd,Nat.reduceSub,Nat.reduceMul,Nat.reduceLeDiff,Int.reduceLT,Int.reduceLE,Int.reduceEq,↓reduceIte,Int.reduceNeg,Int.reduceAdd,Int.reduceSub,Int.reduceMul,true_imp_iff,forall_const,Nat.mul_one,Int.reduceToNat,Nat.reducePow,Int.reducePow,Bool.true_and,Bool.false_and,Bool.and_false,nes_UPPER]
 refine h0.mono ?_
 rintro v σ' ⟨rfl,rfl⟩
 simp (disch:=first|assumption|omega|(simp only [List.length_append,List.length_cons,List.length_nil];omega)) only [go_sem,reduceCtorEq,Nat.reduceEqDiff,Nat.reduceAdd,Nat.reduceSub,Nat.reduceMul,Nat.reduceLeDiff,Int.reduceLT,Int.reduceLE,Int.reduceEq,↓reduceIte,Int.reduceNeg,Int.reduceAdd,Int.reduceSub,Int.reduceMul,true_imp_iff,forall_const,Nat.mul_one,Int.reduceToNat,Nat.reducePow,Int.reducePow,Bool.true_and,Bool.false_and,Bool.and_false,nes_UPPER]
 refine h1.use ?_
 simp (disch:=first|assumption|omega|(simp only [List.length_append,List.length_cons,List.length_nil];omega)) only [go_sem,reduceCtorEq,Nat.reduceEqDiff,Nat.reduceAdd,Nat.reduceSub,Nat.reduceMul,Nat.reduceLeDiff,Int.reduceLT,Int.reduceLE,Int.reduceEq,↓reduceIte,Int.reduceNeg,Int.reduceAdd,Int.reduceSub,Int.reduceMul,true_imp_iff,forall_const,Nat.mul_one,Int.reduceToNat,Nat.reducePow,Int.reducePow,Bool.true_and,Bool.false_and,Bool.and_false,nes_UPPER]
 exact retC_by (.refl _) (.refl _) ⟨rfl,rfl⟩
theorem rc_LOWER {τ:ASt} {b:Nat} (hT:Tab τ) (s:List UInt8) (hs:s.length<=200000) (hb:τ b=rdO [.text s] 0) :
  ACalls Tryz.prog 15 [.ptr b 0,.str nLOWER] τ fun v σ'=>v=(PV.text (smallP s)).av/\σ'=τ.set b (rdO [.text s] 0):=by
 have h0:=xrtext_ok hT hb 0 rfl (v := .text s) trivial
 have h1:=xone_LOWER s hs
 rw [show ((0:Nat):Int)=0 from rfl] at h0
 simp only [asTextP,seen] at h0
 generalize (PV.text (smallP s)).av=W at *
 unfold nLOWER at *
 refine a15 (by simp) ?_
 simp (disch:=first|assumption|omega|(simp only [List.length_append,List.length_cons,List.length_nil];omega)) only [go_sem,reduceCtorEq,Nat.reduceEqDiff,Nat.reduceAdd,Nat.reduceSub,Nat.reduceMul,Nat.reduceLeDiff,Int.reduceLT,Int.reduceLE,Int.reduceEq,↓reduceIte,Int.reduceNeg,Int.reduceAdd,Int.reduceSub,Int.reduceMul,true_imp_iff,forall_const,Nat.mul_one,Int.reduceToNat,Nat.reducePow,Int.reducePow,Bool.true_and,Bool.false_and,Bool.and_false,nes_LOWER]
 refine h0.mono ?_
 rintro v σ' ⟨rfl,rfl⟩
 simp (disch:=first|assumption|omega|(simp only [List.length_append,List.length_cons,List.length_nil];omega)) only [go_sem,reduceCtorEq,Nat.reduceEqDiff,Nat.reduceAdd,Nat.reduceSub,Nat.reduceMul,Nat.reduceLeDiff,Int.reduceLT,Int.reduceLE,Int.reduceEq,↓reduceIte,Int.reduceNeg,Int.reduceAdd,Int.reduceSub,Int.reduceMul,true_imp_iff,forall_const,Nat.mul_one,Int.reduceToNat,Nat.reducePow,Int.reducePow,Bool.true_and,Bool.false_and,Bool.and_false,nes_LOWER]
 refine h1.use ?_
 simp (disch:=first|assumption|omega|(simp only [List.length_append,List.length_cons,List.length_nil];omega)) only [go_sem,reduceCtorEq,Nat.reduceEqDiff,Nat.reduceAdd,Nat.reduceSub,Nat.reduceMul,Nat.reduceLeDiff,Int.reduceLT,Int.reduceLE,Int.reduceEq,↓reduceIte,Int.reduceNeg,Int.reduceAdd,Int.reduceSub,Int.reduceMul,true_imp_iff,forall_const,Nat.mul_one,Int.reduceToNat,Nat.reducePow,Int.reducePow,Bool.true_and,Bool.false_and,Bool.and_false,nes_LOWER]
 exact retC_by (.refl _) (.refl _) ⟨rfl,rfl⟩
theorem rc_RIGHT {τ:ASt} {b:Nat} (hT:Tab τ) (s:List UInt8) (v:PV) (hs:s.length<=200000) (hb:τ b=rdO [.text s,v] 0) (hg:v.good) (hsm:v.small) :
  ACalls Tryz.prog 15 [.ptr b 0,.str nRIGHT] τ fun r σ'=>r=(sidesP nRIGHT s (clampP (asIntV v).1)).av/\σ'=τ.set b (rdO [.text s,v] (seen 0 (asIntV v).2)):=by
 have h0:=xrtext_ok hT hb 0 rfl (v := .text s) trivial
 have h1:=xrint_ok (σ:=τ.set b (rdO [.text s,v] 0)) (ASt.set_same _ _ _) 1 1 rfl hg hsm
 have hc:clampP (asIntV v).1<=2000000:=by unfold clampP;omega
 have h2:=xsides_ok nRIGHT s (clampP (asIntV v).1) (by omega) (by omega)
 rw [show ((0:Nat):Int)=0 from rfl] at h0
 rw [show ((1:Nat):Int)=1 from rfl] at h1
 simp only [asTextP,seen] at h0
 generalize (sidesP nRIGHT s (clampP (asIntV v).1)).av=W at *
 unfold nRIGHT at *
 refine a15 (by simp) ?_
 simp (disch:=first|assumption|omega|(simp only [List.length_append,List.length_cons,List.length_nil];omega)) only [go_sem,reduceCtorEq,Nat.reduceEqDiff,Nat.reduceAdd,Nat.reduceSub,Nat.reduceMul,Nat.reduceLeDiff,Int.reduceLT,Int.reduceLE,Int.reduceEq,↓reduceIte,Int.reduceNeg,Int.reduceAdd,Int.reduceSub,Int.reduceMul,true_imp_iff,forall_const,Nat.mul_one,Int.reduceToNat,Nat.reducePow,Int.reducePow,Bool.true_and,Bool.false_and,Bool.and_false,nes_RIGHT]
 refine h0.mono ?_
 rintro r σ' ⟨rfl,rfl⟩
 simp (disch:=first|assumption|omega|(simp only [List.length_append,List.length_cons,List.length_nil];omega)) only [go_sem,reduceCtorEq,Nat.reduceEqDiff,Nat.reduceAdd,Nat.reduceSub,Nat.reduceMul,Nat.reduceLeDiff,Int.reduceLT,Int.reduceLE,Int.reduceEq,↓reduceIte,Int.reduceNeg,Int.reduceAdd,Int.reduceSub,Int.reduceMul,true_imp_iff,forall_const,Nat.mul_one,Int.reduceToNat,Nat.reducePow,Int.reducePow,Bool.true_and,Bool.false_and,Bool.and_false,nes_RIGHT]
 refine h1.mono ?_
 rintro r σ' ⟨rfl,rfl⟩
 simp (disch:=first|assumption|omega|(simp only [List.length_append,List.length_cons,List.length_nil];omega)) only [go_sem,reduceCtorEq,Nat.reduceEqDiff,Nat.reduceAdd,Nat.reduceSub,Nat.reduceMul,Nat.reduceLeDiff,Int.reduceLT,Int.reduceLE,Int.reduceEq,↓reduceIte,Int.reduceNeg,Int.reduceAdd,Int.reduceSub,Int.reduceMul,true_imp_iff,forall_const,Nat.mul_one,Int.reduceToNat,Nat.reducePow,Int.reducePow,Bool.true_and,Bool.false_and,Bool.and_false,nes_RIGHT]
 refine h2.use ?_
 simp (disch:=first|assumption|omega|(simp only [List.length_append,List.length_cons,List.length_nil];omega)) only [go_sem,reduceCtorEq,Nat.reduceEqDiff,Nat.reduceAdd,Nat.reduceSub,Nat.reduceMul,Nat.reduceLeDiff,Int.reduceLT,Int.reduceLE,Int.reduceEq,↓reduceIte,Int.reduceNeg,Int.reduceAdd,Int.reduceSub,Int.reduceMul,true_imp_iff,forall_const,Nat.mul_one,Int.reduceToNat,Nat.reducePow,Int.reducePow,Bool.true_and,Bool.false_and,Bool.and_false,ASt.set_set,nes_RIGHT]
 exact retC_by (.refl _) (.refl _) ⟨rfl,rfl⟩
end Go.A
namespace Go.A
open Go.Proofs
/-! 7: tabular/tabularlaw17.call -/
def c7_12:ACode := .seq (.ops [ oq 17 (.bin .lss (.t 16) (.t 15))]) (.seq (.cond (.t 17) .skip (.exit 0)) (.seq (.block 1 (.seq (.ops [ oq 18 (.ia 1 (.t 14) (.t 16)),oq 19 (.ld none (.t 18)),oq 9 (.mv (.t 19))]) (.ops [ oq 20 (.mv (.t 7)),oq 21 (.mv (.t 9)),oe 22 (.call 12 [(.t 21)]),oq 23 (.bsl 4 [(.t 22)]),oe 24 (.app 41 4 48 [(.int .i64 0),(.int .i64 0),(.bool false),(.sl .full [])] (.t 20) (.t 23)),oq 7 (.mv (.t 24))]))) (.ops [ oq 25 (.bin .add (.t 16) (.v (.int .i64 1))),oq 16 (.mv (.t 25))])))
def c7_17:ACode := .seq (.ops [ oq 26 (.mv (.t 0)),oq 27 (.mv (.t 7)),oe 28 (.call 9 [(.t 26),(.t 27)]),oe 29 (.call 11 [(.t 28)]),oq 6 (.mv (.t 29))]) .ret
def c7_20:ACode := .seq (.ops [ oq 6 (.mv (.v (.str [])))]) (.seq (.ops [ oq 10 (.mv (.t 1)),oq 11 (.mki 43 (.t 10)),oe 12 (.call 12 [(.t 11)]),oq 13 (.bsl 4 [(.t 12)]),oq 7 (.mv (.t 13))]) (.seq (.seq (.ops [ oq 14 (.mv (.t 2)),oq 15 (.len (.t 14)),oq 16 (.mv (.v (.int .i64 0)))]) (.block 0 (.loop c7_12))) c7_17))
@[go_sem] def c7_12_wp:=wp_of c7_12.eq_1
@[go_sem] def c7_17_wp:=wp_of c7_17.eq_1
@[go_sem] def c7_20_wp:=wp_of c7_20.eq_1
def c7:AFn:=⟨30,[.t 6],c7_20⟩
theorem c7_ok:compF Tryz.prog Tryz.f7=some c7:=by kernel_rfl
theorem a7 {args:List AV} {σ:ASt} {R:AV->ASt->Prop} (hl:args.length<=30) (h:c7_20.wp Tryz.prog (RetQ [.t 6] R) (init args) σ):ACalls Tryz.prog 7 args σ R:=acalls_of Tryz.func7 c7_ok hl h
end Go.A
namespace Go.A
open Go.Proofs Go.Lib
def Gr (σ0 σ:ASt) (k:SK) (n s:Nat):Prop:=(k = .full/\σ=σ0)\/∃ b T,k = .tok b s T/\σ0 b=none/\σ=σ0.set b (some (.tok (n*s)))
theorem Gr.drop {σ0 σ:ASt} {k:SK} {n s:Nat} (h:Gr σ0 σ k n s):Drop σ σ0:=by
 rcases h with ⟨_,rfl⟩|⟨b,T,_,hb,rfl⟩
 ·exact Drop.refl _
 ·exact Drop.set hb
theorem Gr.at {σ0 σ:ASt} {k:SK} {n s x:Nat} {r:Role} (h:Gr σ0 σ k n s) (hx:σ0 x=some r):σ x=some r:=by
 rcases h with ⟨_,rfl⟩|⟨b,T,_,hb,rfl⟩
 ·exact hx
 ·have:x≠b:=by rintro rfl;rw [hb] at hx;cases hx
  rw [ASt.set_ne this];exact hx
theorem Gr.app {e:TypeId} {σ0 σ σ':ASt} {k k':SK} {n m s:Nat} (h:Gr σ0 σ k n s) (ha:App e σ k s n m k' σ'):Gr σ0 σ' k' (n+m) s:=by
 rcases h with ⟨rfl,rfl⟩|⟨b,T,rfl,hb,rfl⟩
 ·cases ha with
  | none hm=>subst hm;exact .inl ⟨rfl,rfl⟩
  | room b T hb=>cases hb
  | grow b hb _=>exact .inr ⟨b,_,rfl,hb,rfl⟩
 ·have hg:Grown σ0 (σ0.set b (some (.tok (n*s)))) (.tok b s T) n s := .inr ⟨b,T,rfl,hb,rfl⟩
  rcases hg.app ha with ⟨h1,h2,h3⟩|⟨c,T',h1,h2,h3⟩
  ·exact .inl ⟨h1,h3⟩
  ·exact .inr ⟨c,T',h1,h2,h3⟩
theorem appG_by {e:TypeId} {σ0 σ:ASt} {k k2:SK} {s bytes:Nat} {z xs ys:List AV} {K:AV->ASt->Prop} (h:Gr σ0 σ k xs.length s) (hx:wellSz s xs=true) (h2:wellSz s ys=true) (h3:leaves (ys.flatMap AV.cells)=true) (h4:(xs.length+ys.length)*bytes<=140737488355328) (h5:xs.length+ys.length<=4611686018427387904)
  (hK:∀ k' σ',Gr σ0 σ' k' (xs++ys).length s->K (.sl k' (xs++ys)) σ'):appC e s bytes z (.sl k xs) (.sl k2 ys) σ K:=by
 refine ⟨?_,h2,h3,h4,h5,.inl fun k' σ' ha=>hK k' σ' (by rw [List.length_append];exact h.app ha)⟩
 rcases h with ⟨rfl,rfl⟩|⟨b,T,rfl,hb,rfl⟩
 ·exact hx
 ·exact ⟨rfl,ASt.set_same _ _ _⟩
theorem Gr.tab {σ0 σ:ASt} {k:SK} {n s:Nat} (h:Gr σ0 σ k n s) (hT:Tab σ0):Tab σ:=h.at hT
theorem argAV_wl:∀ (L:List PV),wellSz 4 (L.map argAV)=true
 | []=>rfl
 | x::xs=>by
   rw [List.map_cons,wellSz,argAV_wl xs]
   rfl
theorem pv_get {L:List PV} {i:Nat} {v:PV} (h:L[i]? = some v):(L.map PV.av)[i]? = some v.av:=by rw [List.getElem?_map,h];rfl
theorem xl_ok {σ:ASt} (hT:Tab σ) (nm s:List UInt8) (L:List PV) (R:PV) (hL:L.length<=100)
  (hcall:∀ τ,Tab τ->(∀ x r,σ x=some r->τ x=some r)->ACalls Tryz.prog 9 [.str nm,.sl .shr ((PV.text s::L).map argAV)] τ fun v σ'=>v=R.av/\σ'=τ) (hR:R.good) :
  ACalls Tryz.prog 7 [.str nm,.str s,.sl .shr (L.map PV.av)] σ fun v σ'=>v = .str (showP R)/\σ'=σ:=by
 have h1:=vone_ok (.text s)
 have hone:=fun v=>vone_ok v
 have hsh:=fun (τ:ASt) (hT:Tab τ)=>show_ok hT R hR
 simp only [PV.av] at h1
 have hlm:(L.map PV.av).length=L.length:=List.length_map _
 refine a7 (by simp) ?_
 obtain ⟨F,hF⟩:∃ F,F=ACode.wp Tryz.prog c7_17:=⟨_,rfl⟩
 simp (disch:=first|assumption|omega|(simp only [List.length_append,List.length_cons,List.length_nil];omega)) only [go_sem,reduceCtorEq,Nat.reduceEqDiff,Nat.reduceAdd,Nat.reduceSub,Nat.reduceMul,Nat.reduceLeDiff,Int.reduceLT,Int.reduceLE,Int.reduceEq,↓reduceIte,Int.reduceNeg,Int.reduceAdd,Int.reduceSub,Int.reduceMul,true_imp_iff,forall_const,Nat.mul_one,Int.reduceToNat,Nat.reducePow,Int.reducePow,Bool.true_and,Bool.false_and,Bool.and_false,←hF]
 refine h1.use ?_
 simp (disch:=first|assumption|omega|(simp only [List.length_append,List.length_cons,List.length_nil];omega)) only [go_sem,reduceCtorEq,Nat.reduceEqDiff,Nat.reduceAdd,Nat.reduceSub,Nat.reduceMul,Nat.reduceLeDiff,Int.reduceLT,Int.reduceLE,Int.reduceEq,↓reduceIte,Int.reduceNeg,Int.reduceAdd,Int.reduceSub,Int.reduceMul,true_imp_iff,forall_const,Nat.mul_one,Int.reduceToNat,Nat.reducePow,Int.reducePow,Bool.true_and,Bool.false_and,Bool.and_false,argAV_any,argAV_len,←hF]
 refine wp_loop_by (fun (i:Nat) a σ'=>i<=L.length/\(a 0 = .str nm/\a 14 = .sl .shr (L.map PV.av)/\a 15 = .int .i64 L.length/\a 16 = .int .i64 i)/\∃ k,a 7 = .sl k ((PV.text s::L.take i).map argAV)/\Gr σ σ' k ((PV.text s::L.take i).map argAV).length 4)
  (fun i=>L.length-i) 0 (Dr.now ⟨Nat.zero_le _,?_,.full,?_,.inl ⟨rfl,rfl⟩⟩) ?_
 ·simp [AFr.upd,init]
 ·simp [AFr.upd,init]
 rintro i a σ1 ⟨hi,hf,k,h7,hg⟩
 by_cases hlt:i<L.length
 ·have hlt':(i:Int)<L.length:=by omega
  have hx : L[i]? = some (L[i]'hlt) := List.getElem?_eq_getElem hlt
  obtain ⟨p, hp⟩ : ∃ p, L[i]'hlt = p := ⟨_, rfl⟩
  rw [hp] at hx
  have hmx:=pv_get hx
  have hap:(PV.text s::L.take i).map argAV ++ [argAV p]=(PV.text s::L.take (i+1)).map argAV:=by
   obtain ⟨h1,h2⟩:=List.getElem?_eq_some_iff.1 hx
   rw [List.take_succ_eq_append_getElem h1,h2];simp
  have hwl:=argAV_wl (PV.text s::L.take i)
  have hlen:((PV.text s::L.take i).map argAV).length<=200:=by simp;omega
  have ho:=hone p
  have hany:=PV.av_any p
  have hcl:=PV.av_cells p
  generalize (PV.text s::L.take i).map argAV=A at *
  generalize L.map PV.av=LV at *
  generalize hpa:p.av=x at *
  simp (disch:=first|assumption|omega|(simp only [List.length_append,List.length_cons,List.length_nil];omega)) only [go_sem,reduceCtorEq,Nat.reduceEqDiff,Nat.reduceAdd,Nat.reduceSub,Nat.reduceMul,Nat.reduceLeDiff,Int.reduceLT,Int.reduceLE,Int.reduceEq,↓reduceIte,Int.reduceNeg,Int.reduceAdd,Int.reduceSub,Int.reduceMul,true_imp_iff,forall_const,Nat.mul_one,Int.reduceToNat,Nat.reducePow,Int.reducePow,Bool.true_and,Bool.false_and,Bool.and_false,hf,h7,hlt',hmx,hcl,hany,←hF]
  refine ho.use ?_
  simp (disch:=first|assumption|omega|(simp only [List.length_append,List.length_cons,List.length_nil];omega)) only [go_sem,reduceCtorEq,Nat.reduceEqDiff,Nat.reduceAdd,Nat.reduceSub,Nat.reduceMul,Nat.reduceLeDiff,Int.reduceLT,Int.reduceLE,Int.reduceEq,↓reduceIte,Int.reduceNeg,Int.reduceAdd,Int.reduceSub,Int.reduceMul,true_imp_iff,forall_const,Nat.mul_one,Int.reduceToNat,Nat.reducePow,Int.reducePow,Bool.true_and,Bool.false_and,Bool.and_false,hf,h7,argAV_any,argAV_len,←hF]
  refine appG_by (bytes:=48) (ys := [argAV p]) hg hwl rfl rfl (by simp only [List.length_cons,List.length_nil];omega) (by simp only [List.length_cons,List.length_nil];omega) fun k' σ' hg'=>?_
  rw [hap] at hg' ⊢
  simp (disch:=first|assumption|omega|(simp only [List.length_append,List.length_cons,List.length_nil];omega)) only [go_sem,reduceCtorEq,Nat.reduceEqDiff,Nat.reduceAdd,Nat.reduceSub,Nat.reduceMul,Nat.reduceLeDiff,Int.reduceLT,Int.reduceLE,Int.reduceEq,↓reduceIte,Int.reduceNeg,Int.reduceAdd,Int.reduceSub,Int.reduceMul,true_imp_iff,forall_const,Nat.mul_one,Int.reduceToNat,Nat.reducePow,Int.reducePow,Bool.true_and,Bool.false_and,Bool.and_false,hf,←hF]
  refine ⟨i+1,by dsimp only;omega,Dr.now ⟨by omega,?_,k',?_,by simpa using hg'⟩⟩
  ·simp [AFr.upd,hf]
  ·simp [AFr.upd]
 ·have hlt':¬ (i:Int)<L.length:=by omega
  have e:L.take i=L:=List.take_of_length_le (by omega)
  rw [e] at h7 hg
  have hc:=hcall σ1 (hg.tab hT) (fun x r h=>hg.at h)
  have hs1:=hsh σ1 (hg.tab hT)
  generalize (PV.text s::L).map argAV=A at *
  generalize R.av=W at *
  simp (disch:=first|assumption|omega|(simp only [List.length_append,List.length_cons,List.length_nil];omega)) only [go_sem,reduceCtorEq,Nat.reduceEqDiff,Nat.reduceAdd,Nat.reduceSub,Nat.reduceMul,Nat.reduceLeDiff,Int.reduceLT,Int.reduceLE,Int.reduceEq,↓reduceIte,Int.reduceNeg,Int.reduceAdd,Int.reduceSub,Int.reduceMul,true_imp_iff,forall_const,Nat.mul_one,Int.reduceToNat,Nat.reducePow,Int.reducePow,Bool.true_and,Bool.false_and,Bool.and_false,hf,h7,hlt',←hF]
  rw [hF]
  simp (disch:=first|assumption|omega|(simp only [List.length_append,List.length_cons,List.length_nil];omega)) only [go_sem,reduceCtorEq,Nat.reduceEqDiff,Nat.reduceAdd,Nat.reduceSub,Nat.reduceMul,Nat.reduceLeDiff,Int.reduceLT,Int.reduceLE,Int.reduceEq,↓reduceIte,Int.reduceNeg,Int.reduceAdd,Int.reduceSub,Int.reduceMul,true_imp_iff,forall_const,Nat.mul_one,Int.reduceToNat,Nat.reducePow,Int.reducePow,Bool.true_and,Bool.false_and,Bool.and_false,hf,h7]
  refine ACalls.shr rfl (hc.mono ?_)
  rintro v σ' ⟨rfl,rfl⟩
  simp (disch:=first|assumption|omega|(simp only [List.length_append,List.length_cons,List.length_nil];omega)) only [go_sem,reduceCtorEq,Nat.reduceEqDiff,Nat.reduceAdd,Nat.reduceSub,Nat.reduceMul,Nat.reduceLeDiff,Int.reduceLT,Int.reduceLE,Int.reduceEq,↓reduceIte,Int.reduceNeg,Int.reduceAdd,Int.reduceSub,Int.reduceMul,true_imp_iff,forall_const,Nat.mul_one,Int.reduceToNat,Nat.reducePow,Int.reducePow,Bool.true_and,Bool.false_and,Bool.and_false]
  refine hs1.mono ?_
  rintro v σ' ⟨rfl,rfl⟩
  simp (disch:=first|assumption|omega|(simp only [List.length_append,List.length_cons,List.length_nil];omega)) only [go_sem,reduceCtorEq,Nat.reduceEqDiff,Nat.reduceAdd,Nat.reduceSub,Nat.reduceMul,Nat.reduceLeDiff,Int.reduceLT,Int.reduceLE,Int.reduceEq,↓reduceIte,Int.reduceNeg,Int.reduceAdd,Int.reduceSub,Int.reduceMul,true_imp_iff,forall_const,Nat.mul_one,Int.reduceToNat,Nat.reducePow,Int.reducePow,Bool.true_and,Bool.false_and,Bool.and_false]
  exact retC_by hg.drop (.refl _) ⟨rfl,rfl⟩
end Go.A
namespace Go.A
open Go.Proofs
/-! 10: tabular/tabularlaw16.Args -/
def c10_14:ACode := .seq (.ops [ oq 10 (.bin .lss (.t 9) (.t 8))]) (.seq (.cond (.t 10) .skip (.exit 0)) (.seq (.block 1 (.seq (.ops [ oq 11 (.ia 3 (.t 7) (.t 9)),oq 12 (.ld (some 3) (.t 11)),oe 5 (.alloc [(.int .i64 0),(.int .i64 0),(.str [])]),oz (.store 3 (.t 5) (.t 12))]) (.seq (.ops [ oq 13 (.fa 2 (.t 5)),oq 14 (.ld none (.t 13)),oe 15 (.call 4 [(.t 14),(.v (.int .i64 60))]),oq 16 (.fa 2 (.t 5)),oz (.store 1 (.t 16) (.t 15))]) (.ops [ oq 17 (.mv (.t 3)),oq 18 (.ld (some 3) (.t 5)),oe 19 (.call 16 [(.t 18)]),oe 20 (.call 12 [(.t 19)]),oq 21 (.bsl 4 [(.t 20)]),oe 22 (.app 41 4 48 [(.int .i64 0),(.int .i64 0),(.bool false),(.sl .full [])] (.t 17) (.t 21)),oq 3 (.mv (.t 22))])))) (.ops [ oq 23 (.bin .add (.t 9) (.v (.int .i64 1))),oq 9 (.mv (.t 23))])))
def c10_19:ACode := .seq (.ops [ oq 24 (.mv (.t 3)),oq 2 (.mv (.t 24))]) .ret
def c10_22:ACode := .seq (.ops [ oq 2 (.mv (.v (.sl .full [])))]) (.seq (.ops [ oq 6 (.bsl 4 []),oq 3 (.mv (.t 6))]) (.seq (.seq (.ops [ oq 7 (.mv (.t 0)),oq 8 (.len (.t 7)),oq 9 (.mv (.v (.int .i64 0)))]) (.block 0 (.loop c10_14))) c10_19))
@[go_sem] def c10_14_wp:=wp_of c10_14.eq_1
@[go_sem] def c10_19_wp:=wp_of c10_19.eq_1
@[go_sem] def c10_22_wp:=wp_of c10_22.eq_1
def c10:AFn:=⟨25,[.t 2],c10_22⟩
theorem c10_ok:compF Tryz.prog Tryz.f10=some c10:=by kernel_rfl
theorem a10 {args:List AV} {σ:ASt} {R:AV->ASt->Prop} (hl:args.length<=25) (h:c10_22.wp Tryz.prog (RetQ [.t 2] R) (init args) σ):ACalls Tryz.prog 10 args σ R:=acalls_of Tryz.func10 c10_ok hl h
end Go.A
namespace Go.A
open Go.Proofs
theorem Grown.u8 {σ0 σ:ASt} {k:SK} {n s:Nat} (h:Grown σ0 σ k n s) (hU:U8 σ0):U8 σ:=⟨h.at hU.1,h.at hU.2⟩
def argsP (L:List Pl):List PV:=L.map fun p=>ofP ⟨p.kind,p.n,p.s.take 60⟩
theorem pl_get {L:List Pl} {i:Nat} {p:Pl} (h:L[i]? = some p):(L.map plAV)[i]? = some (plAV p):=by rw [List.getElem?_map,h];rfl
set_option maxHeartbeats 1000000 in
theorem args_ok {σ:ASt} (h:U8 σ) (L:List Pl) (hn:L.length<=100000):ACalls Tryz.prog 10 [.sl .shr (L.map plAV)] σ fun v σ'=>v = .sl .shr ((argsP L).map argAV)/\σ'=σ:=by
 refine a10 (by simp) ?_
 obtain ⟨F,hF⟩:∃ F,F=ACode.wp Tryz.prog c10_19:=⟨_,rfl⟩
 simp (disch:=first|assumption|omega|(simp only [List.length_append,List.length_cons,List.length_nil];omega)) only [go_sem,reduceCtorEq,Nat.reduceEqDiff,Nat.reduceAdd,Nat.reduceSub,Nat.reduceMul,Nat.reduceLeDiff,Int.reduceLT,Int.reduceLE,Int.reduceEq,↓reduceIte,Int.reduceNeg,Int.reduceAdd,Int.reduceSub,Int.reduceMul,true_imp_iff,forall_const,Nat.mul_one,Int.reduceToNat,Nat.reducePow,Int.reducePow,Bool.true_and,Bool.false_and,Bool.and_false,←hF]
 refine wp_loop_by (fun (i:Nat) a σ'=>i<=L.length/\(a 7 = .sl .shr (L.map plAV)/\a 8 = .int .i64 L.length/\a 9 = .int .i64 i)/\∃ k,a 3 = .sl k ((argsP (L.take i)).map argAV)/\Grown σ σ' k ((argsP (L.take i)).map argAV).length 4)
  (fun i=>L.length-i) 0 (Dr.now ⟨Nat.zero_le _,?_,.full,?_,.inl ⟨rfl,by simp [argsP],rfl⟩⟩) ?_
 ·simp (disch:=first|assumption|omega|(simp only [List.length_append,List.length_cons,List.length_nil];omega)) only [go_sem,reduceCtorEq,Nat.reduceEqDiff,Nat.reduceAdd,Nat.reduceSub,Nat.reduceMul,Nat.reduceLeDiff,Int.reduceLT,Int.reduceLE,Int.reduceEq,↓reduceIte,Int.reduceNeg,Int.reduceAdd,Int.reduceSub,Int.reduceMul,true_imp_iff,forall_const,Nat.mul_one,Int.reduceToNat,Nat.reducePow,Int.reducePow,Bool.true_and,Bool.false_and,Bool.and_false]
 ·simp (disch:=first|assumption|omega|(simp only [List.length_append,List.length_cons,List.length_nil];omega)) only [go_sem,reduceCtorEq,Nat.reduceEqDiff,Nat.reduceAdd,Nat.reduceSub,Nat.reduceMul,Nat.reduceLeDiff,Int.reduceLT,Int.reduceLE,Int.reduceEq,↓reduceIte,Int.reduceNeg,Int.reduceAdd,Int.reduceSub,Int.reduceMul,true_imp_iff,forall_const,Nat.mul_one,Int.reduceToNat,Nat.reducePow,Int.reducePow,Bool.true_and,Bool.false_and,Bool.and_false,argsP]
 rintro i a σ1 ⟨hi,hf,k,h3,hg⟩
 by_cases hlt:i<L.length
 ·have hlt':(i:Int)<L.length:=by omega
  have hx : L[i]? = some (L[i]'hlt) := List.getElem?_eq_getElem hlt
  obtain ⟨p, hp⟩ : ∃ p, L[i]'hlt = p := ⟨_, rfl⟩
  rw [hp] at hx
  have hmx:=pl_get hx
  have hap:(argsP (L.take i)).map argAV ++ [argAV (ofP ⟨p.kind,p.n,p.s.take 60⟩)]=(argsP (L.take (i+1))).map argAV:=by
   obtain ⟨h1,h2⟩:=List.getElem?_eq_some_iff.1 hx
   rw [List.take_succ_eq_append_getElem h1,h2];simp [argsP]
  have hlen:((argsP (L.take i)).map argAV).length<=100000:=by simp [argsP];omega
  obtain ⟨kd,n,s⟩:=p
  dsimp only at hap
  have hC:=lcut_ok s 60
  rw [show (((60:Nat)):Int)=60 from rfl] at hC
  have htl:(s.take 60).length<=60:=by rw [List.length_take];omega
  generalize s.take 60=t at *
  have hO1:=vone_ok (ofP ⟨kd,n,t⟩)
  have hu1:=hg.u8 h
  unfold plAV at hmx hf
  dsimp only at hmx
  generalize (argsP (L.take i)).map argAV=A at *
  simp (disch:=first|assumption|omega|(simp only [List.length_append,List.length_cons,List.length_nil];omega)) only [go_sem,reduceCtorEq,Nat.reduceEqDiff,Nat.reduceAdd,Nat.reduceSub,Nat.reduceMul,Nat.reduceLeDiff,Int.reduceLT,Int.reduceLE,Int.reduceEq,↓reduceIte,Int.reduceNeg,Int.reduceAdd,Int.reduceSub,Int.reduceMul,true_imp_iff,forall_const,Nat.mul_one,Int.reduceToNat,Nat.reducePow,Int.reducePow,Bool.true_and,Bool.false_and,Bool.and_false,hf,h3,hlt',hmx,←hF]
  refine allocC_by fun c hc=>?_
  obtain ⟨hga,hc0⟩:=hg.upon hc (q := .obj [.int .i64 kd,.int .i64 n,.str t])
  have hOf:=of_ok (hu1.set hc (r:=some (.obj [.int .i64 kd,.int .i64 n,.str t]))) ⟨kd,n,t⟩ (show t.length<=4611686018427387904 by omega)
  unfold plAV at hOf
  dsimp only at hOf
  simp (disch:=first|assumption|omega|(simp only [List.length_append,List.length_cons,List.length_nil];omega)) only [go_sem,reduceCtorEq,Nat.reduceEqDiff,Nat.reduceAdd,Nat.reduceSub,Nat.reduceMul,Nat.reduceLeDiff,Int.reduceLT,Int.reduceLE,Int.reduceEq,↓reduceIte,Int.reduceNeg,Int.reduceAdd,Int.reduceSub,Int.reduceMul,true_imp_iff,forall_const,Nat.mul_one,Int.reduceToNat,Nat.reducePow,Int.reducePow,Bool.true_and,Bool.false_and,Bool.and_false,hf,h3,←hF]
  refine hC.use ?_
  simp (disch:=first|assumption|omega|(simp only [List.length_append,List.length_cons,List.length_nil];omega)) only [go_sem,reduceCtorEq,Nat.reduceEqDiff,Nat.reduceAdd,Nat.reduceSub,Nat.reduceMul,Nat.reduceLeDiff,Int.reduceLT,Int.reduceLE,Int.reduceEq,↓reduceIte,Int.reduceNeg,Int.reduceAdd,Int.reduceSub,Int.reduceMul,true_imp_iff,forall_const,Nat.mul_one,Int.reduceToNat,Nat.reducePow,Int.reducePow,Bool.true_and,Bool.false_and,Bool.and_false,hf,h3,ASt.set_set,←hF]
  refine hOf.mono ?_
  rintro v σ' ⟨rfl,rfl⟩
  simp (disch:=first|assumption|omega|(simp only [List.length_append,List.length_cons,List.length_nil];omega)) only [go_sem,reduceCtorEq,Nat.reduceEqDiff,Nat.reduceAdd,Nat.reduceSub,Nat.reduceMul,Nat.reduceLeDiff,Int.reduceLT,Int.reduceLE,Int.reduceEq,↓reduceIte,Int.reduceNeg,Int.reduceAdd,Int.reduceSub,Int.reduceMul,true_imp_iff,forall_const,Nat.mul_one,Int.reduceToNat,Nat.reducePow,Int.reducePow,Bool.true_and,Bool.false_and,Bool.and_false,hf,h3,←hF]
  refine hO1.use ?_
  simp (disch:=first|assumption|omega|(simp only [List.length_append,List.length_cons,List.length_nil];omega)) only [go_sem,reduceCtorEq,Nat.reduceEqDiff,Nat.reduceAdd,Nat.reduceSub,Nat.reduceMul,Nat.reduceLeDiff,Int.reduceLT,Int.reduceLE,Int.reduceEq,↓reduceIte,Int.reduceNeg,Int.reduceAdd,Int.reduceSub,Int.reduceMul,true_imp_iff,forall_const,Nat.mul_one,Int.reduceToNat,Nat.reducePow,Int.reducePow,Bool.true_and,Bool.false_and,Bool.and_false,hf,h3,argAV_any,argAV_len,←hF]
  refine appC_by (bytes:=48) (ys := [argAV (ofP ⟨kd,n,t⟩)]) hga rfl rfl (by simp only [List.length_cons,List.length_nil];omega) (by simp only [List.length_cons,List.length_nil];omega) fun k' σ' hg'=>?_
  rw [hap] at hg' ⊢
  obtain ⟨σ2,hd,hg2⟩:=hg'.off hc0
  simp (disch:=first|assumption|omega|(simp only [List.length_append,List.length_cons,List.length_nil];omega)) only [go_sem,reduceCtorEq,Nat.reduceEqDiff,Nat.reduceAdd,Nat.reduceSub,Nat.reduceMul,Nat.reduceLeDiff,Int.reduceLT,Int.reduceLE,Int.reduceEq,↓reduceIte,Int.reduceNeg,Int.reduceAdd,Int.reduceSub,Int.reduceMul,true_imp_iff,forall_const,Nat.mul_one,Int.reduceToNat,Nat.reducePow,Int.reducePow,Bool.true_and,Bool.false_and,Bool.and_false,hf,←hF]
  refine ⟨i+1,by dsimp only;omega,Dr.drop hd ⟨by omega,?_,k',?_,by simpa using hg2⟩⟩
  ·unfold plAV
   simp (disch:=first|assumption|omega|(simp only [List.length_append,List.length_cons,List.length_nil];omega)) only [go_sem,reduceCtorEq,Nat.reduceEqDiff,Nat.reduceAdd,Nat.reduceSub,Nat.reduceMul,Nat.reduceLeDiff,Int.reduceLT,Int.reduceLE,Int.reduceEq,↓reduceIte,Int.reduceNeg,Int.reduceAdd,Int.reduceSub,Int.reduceMul,true_imp_iff,forall_const,Nat.mul_one,Int.reduceToNat,Nat.reducePow,Int.reducePow,Bool.true_and,Bool.false_and,Bool.and_false,hf]
  ·rfl
 ·have hlt':¬ (i:Int)<L.length:=by omega
  have e:L.take i=L:=List.take_of_length_le (by omega)
  rw [e] at h3 hg
  simp (disch:=first|assumption|omega|(simp only [List.length_append,List.length_cons,List.length_nil];omega)) only [go_sem,reduceCtorEq,Nat.reduceEqDiff,Nat.reduceAdd,Nat.reduceSub,Nat.reduceMul,Nat.reduceLeDiff,Int.reduceLT,Int.reduceLE,Int.reduceEq,↓reduceIte,Int.reduceNeg,Int.reduceAdd,Int.reduceSub,Int.reduceMul,true_imp_iff,forall_const,Nat.mul_one,Int.reduceToNat,Nat.reducePow,Int.reducePow,Bool.true_and,Bool.false_and,Bool.and_false,hf,h3,hlt',←hF]
  rw [hF]
  simp (disch:=first|assumption|omega|(simp only [List.length_append,List.length_cons,List.length_nil];omega)) only [go_sem,reduceCtorEq,Nat.reduceEqDiff,Nat.reduceAdd,Nat.reduceSub,Nat.reduceMul,Nat.reduceLeDiff,Int.reduceLT,Int.reduceLE,Int.reduceEq,↓reduceIte,Int.reduceNeg,Int.reduceAdd,Int.reduceSub,Int.reduceMul,true_imp_iff,forall_const,Nat.mul_one,Int.reduceToNat,Nat.reducePow,Int.reducePow,Bool.true_and,Bool.false_and,Bool.and_false,h3]
  exact retC_by hg.drop (.sl _ _) ⟨rfl,rfl⟩
end Go.A
namespace Go.A
open Go.Proofs
/-! 6: tabular/tabularlaw17.awake -/
def c6_7:ACode := .seq (.ops [ oq 0 (.mv (.v (.bool false)))]) (.seq (.ops [ oq 3 (.build [(.int .i64 0),(.int .i64 0),(.str [])] [(0,1,(.v (.int .i64 2))),(2,1,(.v (.str [97,195,169,226,130,172])))]),oq 4 (.build [(.int .i64 0),(.int .i64 0),(.str [])] [(0,1,(.v (.int .i64 1))),(1,1,(.v (.int .i64 20000)))]),oq 5 (.bsl 3 [(.t 3),(.t 4)]),oe 6 (.call 10 [(.t 5)]),oe 7 (.call 9 [(.v (.str [82,73,71,72,84])),(.t 6)]),oq 1 (.mv (.t 7))]) (.seq (.ops [ oq 8 (.build [(.int .i64 0),(.int .i64 0),(.str [])] [(0,1,(.v (.int .i64 2))),(2,1,(.v (.str [97,98,45,99,68])))]),oq 9 (.bsl 3 [(.t 8)]),oe 10 (.call 10 [(.t 9)]),oe 11 (.call 9 [(.v (.str [80,82,79,80,69,82])),(.t 10)]),oq 2 (.mv (.t 11))]) (.seq (.ops [ oq 12 (.mv (.t 1)),oe 13 (.call 11 [(.t 12)]),oq 14 (.bin .eql (.t 13) (.v (.str [195,169,226,130,172]))),oq 15 (.mv (.t 14)),⟨some 16,some (15,true),.q (.mv (.t 2)),[]⟩,⟨some 17,some (15,true),.e (.call 11 [(.t 16)]),[]⟩,⟨some 18,some (15,true),.q (.bin .eql (.t 17) (.v (.str [65,98,45,67,100]))),[]⟩,oq 19 (.pick (.t 15) (.t 18) (.v (.bool false))),oq 0 (.mv (.t 19))]) .ret)))
@[go_sem] def c6_7_wp:=wp_of c6_7.eq_1
def c6:AFn:=⟨20,[.t 0],c6_7⟩
theorem c6_ok:compF Tryz.prog Tryz.f6=some c6:=by kernel_rfl
theorem a6 {args:List AV} {σ:ASt} {R:AV->ASt->Prop} (hl:args.length<=20) (h:c6_7.wp Tryz.prog (RetQ [.t 0] R) (init args) σ):ACalls Tryz.prog 6 args σ R:=acalls_of Tryz.func6 c6_ok hl h
end Go.A
namespace Go.A
open Go.Proofs Go.Lib
def plsA:List Pl := [⟨2,0,[97,195,169,226,130,172]⟩,⟨1,20000,[]⟩]
def plsB:List Pl := [⟨2,0,[97,98,45,99,68]⟩]
theorem xaw1:argsP plsA = [.text [97,195,169,226,130,172],.num 20000]:=by decide +kernel
theorem xaw2:argsP plsB = [.text [97,98,45,99,68]]:=by decide +kernel
theorem xaw3:sidesP nRIGHT [97,195,169,226,130,172] (clampP (asIntV (.num 20000)).1) = .text [195,169,226,130,172]:=by decide +kernel
theorem xaw4:propP [97,98,45,99,68] = [65,98,45,67,100]:=by decide +kernel
theorem xawake_ok {σ:ASt} (hT:Tab σ) (hU:U8 σ):ACalls Tryz.prog 6 [] σ fun v σ'=>v = .bool true/\σ'=σ:=by
 have hA:=args_ok hU plsA (by decide)
 have hB:=args_ok hU plsB (by decide)
 rw [xaw1] at hA
 rw [xaw2] at hB
 have hC:=xcall_of hT nRIGHT [.text [97,195,169,226,130,172],.num 20000] _ _ (by decide) (by decide) (by decide) (fun b τ hT hb _=>rc_RIGHT hT [97,195,169,226,130,172] (.num 20000) (by decide) hb (by show _<=_;decide) trivial)
 have hD:=xcall_of hT nPROPER [.text [97,98,45,99,68]] _ _ (by decide) (by decide) (by decide) (fun b τ hT hb _=>rc_PROPER hT [97,98,45,99,68] (by decide) hb)
 rw [xaw3] at hC
 rw [xaw4] at hD
 rw [if_pos (by decide)] at hC hD
 have h1:=show_ok hT (.text [195,169,226,130,172]) trivial
 have h2:=show_ok hT (.text [65,98,45,67,100]) trivial
 simp only [PV.av,showP,asTextP] at hC hD h1 h2
 generalize hLA : [PV.text [97,195,169,226,130,172],.num 20000].map argAV=LA at *
 generalize hLB : [PV.text [97,98,45,99,68]].map argAV=LB at *
 unfold plsA plsB plAV at *
 simp only [List.map_cons,List.map_nil] at hA hB
 unfold nRIGHT nPROPER at *
 refine a6 (by simp) ?_
 simp (disch:=first|assumption|omega|(simp only [List.length_append,List.length_cons,List.length_nil];omega)) only [go_sem,reduceCtorEq,Nat.reduceEqDiff,Nat.reduceAdd,Nat.reduceSub,Nat.reduceMul,Nat.reduceLeDiff,Int.reduceLT,Int.reduceLE,Int.reduceEq,↓reduceIte,Int.reduceNeg,Int.reduceAdd,Int.reduceSub,Int.reduceMul,true_imp_iff,forall_const,Nat.mul_one,Int.reduceToNat,Nat.reducePow,Int.reducePow,Bool.true_and,Bool.false_and,Bool.and_false]
 refine ACalls.shr rfl (hA.mono ?_)
 rintro v σ' ⟨rfl,rfl⟩
 simp (disch:=first|assumption|omega|(simp only [List.length_append,List.length_cons,List.length_nil];omega)) only [go_sem,reduceCtorEq,Nat.reduceEqDiff,Nat.reduceAdd,Nat.reduceSub,Nat.reduceMul,Nat.reduceLeDiff,Int.reduceLT,Int.reduceLE,Int.reduceEq,↓reduceIte,Int.reduceNeg,Int.reduceAdd,Int.reduceSub,Int.reduceMul,true_imp_iff,forall_const,Nat.mul_one,Int.reduceToNat,Nat.reducePow,Int.reducePow,Bool.true_and,Bool.false_and,Bool.and_false]
 refine hC.mono ?_
 rintro v σ' ⟨rfl,rfl⟩
 simp (disch:=first|assumption|omega|(simp only [List.length_append,List.length_cons,List.length_nil];omega)) only [go_sem,reduceCtorEq,Nat.reduceEqDiff,Nat.reduceAdd,Nat.reduceSub,Nat.reduceMul,Nat.reduceLeDiff,Int.reduceLT,Int.reduceLE,Int.reduceEq,↓reduceIte,Int.reduceNeg,Int.reduceAdd,Int.reduceSub,Int.reduceMul,true_imp_iff,forall_const,Nat.mul_one,Int.reduceToNat,Nat.reducePow,Int.reducePow,Bool.true_and,Bool.false_and,Bool.and_false]
 refine ACalls.shr rfl (hB.mono ?_)
 rintro v σ' ⟨rfl,rfl⟩
 simp (disch:=first|assumption|omega|(simp only [List.length_append,List.length_cons,List.length_nil];omega)) only [go_sem,reduceCtorEq,Nat.reduceEqDiff,Nat.reduceAdd,Nat.reduceSub,Nat.reduceMul,Nat.reduceLeDiff,Int.reduceLT,Int.reduceLE,Int.reduceEq,↓reduceIte,Int.reduceNeg,Int.reduceAdd,Int.reduceSub,Int.reduceMul,true_imp_iff,forall_const,Nat.mul_one,Int.reduceToNat,Nat.reducePow,Int.reducePow,Bool.true_and,Bool.false_and,Bool.and_false]
 refine hD.mono ?_
 rintro v σ' ⟨rfl,rfl⟩
 simp (disch:=first|assumption|omega|(simp only [List.length_append,List.length_cons,List.length_nil];omega)) only [go_sem,reduceCtorEq,Nat.reduceEqDiff,Nat.reduceAdd,Nat.reduceSub,Nat.reduceMul,Nat.reduceLeDiff,Int.reduceLT,Int.reduceLE,Int.reduceEq,↓reduceIte,Int.reduceNeg,Int.reduceAdd,Int.reduceSub,Int.reduceMul,true_imp_iff,forall_const,Nat.mul_one,Int.reduceToNat,Nat.reducePow,Int.reducePow,Bool.true_and,Bool.false_and,Bool.and_false]
 refine h1.mono ?_
 rintro v σ' ⟨rfl,rfl⟩
 simp (disch:=first|assumption|omega|(simp only [List.length_append,List.length_cons,List.length_nil];omega)) only [go_sem,reduceCtorEq,Nat.reduceEqDiff,Nat.reduceAdd,Nat.reduceSub,Nat.reduceMul,Nat.reduceLeDiff,Int.reduceLT,Int.reduceLE,Int.reduceEq,↓reduceIte,Int.reduceNeg,Int.reduceAdd,Int.reduceSub,Int.reduceMul,true_imp_iff,forall_const,Nat.mul_one,Int.reduceToNat,Nat.reducePow,Int.reducePow,Bool.true_and,Bool.false_and,Bool.and_false,eq_self]
 refine h2.mono ?_
 rintro v σ' ⟨rfl,rfl⟩
 simp (disch:=first|assumption|omega|(simp only [List.length_append,List.length_cons,List.length_nil];omega)) only [go_sem,reduceCtorEq,Nat.reduceEqDiff,Nat.reduceAdd,Nat.reduceSub,Nat.reduceMul,Nat.reduceLeDiff,Int.reduceLT,Int.reduceLE,Int.reduceEq,↓reduceIte,Int.reduceNeg,Int.reduceAdd,Int.reduceSub,Int.reduceMul,true_imp_iff,forall_const,Nat.mul_one,Int.reduceToNat,Nat.reducePow,Int.reducePow,Bool.true_and,Bool.false_and,Bool.and_false,eq_self]
 exact retC_by (.refl _) (.refl _) ⟨rfl,rfl⟩
end Go.A
namespace Go.A
open Go.Proofs Go.Lib
theorem sgT_whole (s:List UInt8):∀ m,sgT s=some m->Whole s/\(pcs s).length=m:=by
 refine pcs_ind (Q:=fun s=>∀ m,sgT s=some m->Whole s/\(pcs s).length=m) ?_ ?_ s
 ·intro m h
  rw [sgT_nil] at h
  injection h with h
  exact ⟨whole_nil,h⟩
 ·intro r hr ih m h
  by_cases hv:decodeL r=(65533,1)
  ·rw [sgT_bad hr hv] at h;cases h
  ·rw [sgT_step hr hv] at h
   obtain ⟨k,hk,rfl⟩:=Option.map_eq_some_iff.1 h
   obtain ⟨h1,h2⟩:=ih k hk
   exact ⟨(whole_step hr).2 ⟨hv,h1⟩,by rw [pcs_step hr,List.length_cons,h2]⟩
theorem encU_cases {c:Nat} (hv:c<55296\/(57343<c/\c<=1114111)) :
  (c<128/\encU c = [UInt8.ofNat c])\/(128<=c/\c<2048/\encU c = [UInt8.ofNat (192+c / 64),UInt8.ofNat (128+c % 64)]) ∨
  (2048<=c/\c<65536/\encU c = [UInt8.ofNat (224+c / 4096),UInt8.ofNat (128+c / 64 % 64),UInt8.ofNat (128+c % 64)]) ∨
  (65536<=c/\c<=1114111/\encU c = [UInt8.ofNat (240+c / 262144),UInt8.ofNat (128+c / 4096 % 64),UInt8.ofNat (128+c / 64 % 64),UInt8.ofNat (128+c % 64)]):=by
 have hval:Utf8.valid (c:Int)=true:=by
  unfold Utf8.valid
  simp only [Bool.or_eq_true,Bool.and_eq_true,decide_eq_true_eq]
  omega
 unfold encU Utf8.encode
 rw [if_pos hval]
 simp only [Int.toNat_natCast]
 by_cases h1:c<128
 ·rw [if_pos h1];exact .inl ⟨h1,rfl⟩
 rw [if_neg h1]
 by_cases h2:c<2048
 ·rw [if_pos h2];exact .inr (.inl ⟨by omega,h2,rfl⟩)
 rw [if_neg h2]
 by_cases h3:c<65536
 ·rw [if_pos h3];exact .inr (.inr (.inl ⟨by omega,h3,rfl⟩))
 rw [if_neg h3]
 exact .inr (.inr (.inr ⟨by omega,by omega,rfl⟩))
theorem dec_enc {c:Nat} (hv:c<55296\/(57343<c/\c<=1114111)) (t:List UInt8):decodeL (encU c++t)=(c,(encU c).length):=by
 have u:∀ k,k<256->(UInt8.ofNat k).toNat=k:=fun k hk=>by have:=u8_nat hk;omega
 rw [decodeL_N]
 rcases encU_cases hv with ⟨h1,e⟩|⟨h1,h2,e⟩|⟨h1,h2,e⟩|⟨h1,h2,e⟩
 ·rw [e]
  simp only [List.cons_append,List.nil_append,List.length_cons,List.length_nil,List.getD_cons_zero]
  rw [u _ (by omega)]
  unfold decodeN
  rw [if_pos h1]
 ·rw [e]
  simp only [List.cons_append,List.nil_append,List.length_cons,List.length_nil,List.getD_cons_zero,List.getD_cons_succ]
  rw [u _ (by omega),u _ (by omega)]
  unfold decodeN
  rw [if_neg (by omega),if_pos (by omega),if_pos (by omega)]
  rw [Prod.mk.injEq];omega
 ·rw [e]
  simp only [List.cons_append,List.nil_append,List.length_cons,List.length_nil,List.getD_cons_zero,List.getD_cons_succ]
  rw [u _ (by omega),u _ (by omega),u _ (by omega)]
  unfold decodeN
  have q:(224+c / 4096) % 16*4096+(128+c / 64 % 64) % 64*64+(128+c % 64) % 64=c:=by omega
  rw [if_neg (by omega),if_neg (by omega),if_pos (by omega),q,if_pos (by omega)]
 ·rw [e]
  simp only [List.cons_append,List.nil_append,List.length_cons,List.length_nil,List.getD_cons_zero,List.getD_cons_succ]
  rw [u _ (by omega),u _ (by omega),u _ (by omega),u _ (by omega)]
  unfold decodeN
  have q:(240+c / 262144) % 8*262144+(128+c / 4096 % 64) % 64*4096+(128+c / 64 % 64) % 64*64+(128+c % 64) % 64=c:=by omega
  rw [if_neg (by omega),if_neg (by omega),if_neg (by omega),if_pos (by omega),q,if_pos (by omega)]
theorem enc_vp {c:Nat} (hv:c<55296\/(57343<c/\c<=1114111)):VP (encU c):=by
 have hd:=dec_enc hv []
 rw [List.append_nil] at hd
 have hl:=encU_len c
 refine ⟨fun e=>by rw [e] at hl;simp at hl,?_,by rw [hd]⟩
 rw [hd]
 intro e
 injection e with e1 e2
 rcases encU_cases hv with ⟨h1,e⟩|⟨h1,h2,e⟩|⟨h1,h2,e⟩|⟨h1,h2,e⟩
 ·omega
 ·omega
 ·rw [e] at e2;simp at e2
 ·omega
def noSign (n:Int):Prop:=n<1\/1114111<n\/(55296<=n/\n<=57343)
instance (n:Int):Decidable (noSign n):=by unfold noSign;infer_instance
end Go.A
namespace Go.A
open Go.Proofs Go.Lib
section
variable {σ:ASt} (hT:Tab σ) (s:List UInt8) (hs:s.length<=200000)
include hT hs
end
end Go.A
namespace Go.Proofs
open Go.RowKit Go.Shelf
attribute [local go_sem] Oper.semAt_some
def splitP:List UInt8->List (List UInt8)
 | [] => [[]]
 | c::l=>if c=32 then []::splitP l else match splitP l with
   | [] => [[c]]
   | h::t=>(c::h)::t
theorem splitP_one:∀ {l:List UInt8},(∀ b∈l,b≠32)->splitP l = [l]
 | [],_=>rfl
 | c::l,h=>by
   rw [splitP,if_neg (h c List.mem_cons_self),splitP_one fun b hb=>h b (List.mem_cons_of_mem _ hb)]
theorem splitP_app:∀ {a x:List UInt8},(∀ b∈a,b≠32)->splitP (a++32::x)=a::splitP x
 | [],x,_=>by rw [List.nil_append,splitP,if_pos rfl]
 | c::a,x,h=>by
   rw [List.cons_append,splitP,if_neg (h c List.mem_cons_self),splitP_app fun b hb=>h b (List.mem_cons_of_mem _ hb)]
theorem splitP_len:∀ l:List UInt8,(splitP l).length<=l.length+1
 | []=>by simp [splitP]
 | c::l=>by
   have:=splitP_len l
   rw [splitP]
   split
   ·simp;omega
   ·split
    ·simp
    ·rename_i h;rw [h] at this;simp at this ⊢;omega
def lenAt (W:World) (b:Nat):Nat:=match W.cell? ⟨b,0,none⟩ with
 | some (.string t)=>t.data.toList.length
 | _=>0
theorem lenAt_eq {W:World} {b:Nat} {r:List UInt8} (h:W.cell? ⟨b,0,none⟩=some (.string ⟨⟨r⟩⟩)):lenAt W b=r.length:=by unfold lenAt;rw [h]
theorem idx_some (c:UInt8):∀ (a x:List UInt8),(∀ b∈a,b≠c)->Lib.index (a++c::x) [c]=a.length:=by
 intro a x h
 rw [Lib.index_one]
 induction a with
 | nil=>simp [Lib.indexByte]
 | cons b a ih=>
   have h1:b≠c:=h b (by simp)
   have:=ih fun d hd=>h d (by simp [hd])
   rw [List.cons_append,Lib.indexByte,this]
   have h2:(b==c)=false:=by simpa using h1
   rw [h2]
   have h3:((a.length:Int) == -1)=false:=by rw [beq_eq_false_iff_ne];omega
   simp [h3]
theorem idx_none (c:UInt8):∀ (a:List UInt8),(∀ b∈a,b≠c)->Lib.index a [c] = -1:=by
 intro a h
 rw [Lib.index_one]
 induction a with
 | nil=>rfl
 | cons b a ih=>
   have h1:b≠c:=h b (by simp)
   have:=ih fun d hd=>h d (by simp [hd])
   rw [Lib.indexByte,this]
   have h2:(b==c)=false:=by simpa using h1
   simp [h2]
theorem first_blank (s:List UInt8):(∀ b∈s,b≠32)\/∃ a x,s=a++32::x/\∀ b∈a,b≠32:=by
 induction s with
 | nil=>exact .inl fun _ h=>by cases h
 | cons c l ih=>
   by_cases hc:c=32
   ·subst hc
    exact .inr ⟨[],l,rfl,fun _ h=>by cases h⟩
   ·rcases ih with h|⟨a,x,rfl,h⟩
    ·refine .inl fun b hb=>?_
     rcases List.mem_cons.1 hb with rfl|hb
     ·exact hc
     ·exact h b hb
    ·refine .inr ⟨c::a,x,rfl,fun b hb=>?_⟩
     rcases List.mem_cons.1 hb with rfl|hb
     ·exact hc
     ·exact h b hb
theorem cut_head (a x:List UInt8):(⟨⟨a++32::x⟩⟩:ByteArray).extract 0 a.length=⟨⟨a⟩⟩:=by
 apply ByteArray.ext
 simp
theorem cut_tail (a x:List UInt8) (n:Nat) (h:n=a.length+1+x.length):(⟨⟨a++32::x⟩⟩:ByteArray).extract (a.length+1) n=⟨⟨x⟩⟩:=by
 apply ByteArray.ext
 rw [ByteArray.data_extract]
 apply Array.toList_inj.1
 rw [Array.toList_extract]
 show (a++32::x).extract (a.length+1) n=x
 rw [List.extract_eq_take_drop,List.drop_append,List.drop_of_length_le (by omega),List.nil_append,show a.length+1-a.length=1 by omega,List.drop_succ_cons,List.drop_zero,List.take_of_length_le (by omega)]
set_option maxHeartbeats 2000000 in
theorem split_in (n:Nat) (hn:1<=n) (l bs be bv:Nat) (m:Int) (J:List (List UInt8)->List UInt8->World->Prop)
  (hJc:∀ pre r W,J pre r W->W.cell? ⟨bs,0,none⟩=some (.string ⟨⟨r⟩⟩)/\W.frozen? ⟨bs,0,none⟩=false/\W.cell? ⟨be,0,none⟩=some (.string ⟨⟨[32]⟩⟩)/\W.cell? ⟨bv,0,none⟩=some (.int .i64 0)/\W.cell? ⟨0,0,none⟩=some (.int .i64 m))
  (hJs:∀ pre r r' W,J pre r W->J pre r' (W.setCell ⟨bs,0,none⟩ (.string ⟨⟨r'⟩⟩)))
  (s:List UInt8) (hs:s.length<=1000000)
  (hY:∀ pre x r W,J pre r W->pre.length<=s.length->x.length<=1000000->YieldAt Fence.wide (n-1) Tryz.prog l #[.string ⟨⟨x⟩⟩] W fun e W'=>e = .returned (.bool true)/\J (pre ++ [x]) r W')
  (W:World) (h0:J [] s W) :
  CallsIn Fence.wide n Tryz.prog 112 #[.func (.yield l) #[] #[],.pointer (some ⟨be,0,none⟩),.pointer (some ⟨bs,0,none⟩),.pointer (some ⟨bv,0,none⟩)] W fun e W'=>(∃ v,e = .returned v)/\∃ r,J (splitP s) r W':=by
 refine callsIn_of_wp Tryz.func112 rfl trivial ?_ rfl
 simp only [Tryz.ntmps112,List.size_toArray,List.length_cons,List.length_nil,Nat.reduceAdd,Nat.reduceSub,Array.replicate_succ,Array.replicate_zero,List.push_toArray,List.append_toArray,List.nil_append,List.cons_append]
 obtain ⟨c1,c2,c3,c4,c5⟩:=hJc _ _ _ h0
 gi_wp2
 gi_loopw [7] (fun _ wr=>∃ (pre:List (List UInt8)) (r:List UInt8),J pre r wr/\splitP s=pre++splitP r/\r.length+pre.length<=s.length)
  (fun _ wr=>lenAt wr bs)
 case atStart=>
  exact ⟨[],s,h0,rfl,by simp⟩
 case round=>
  obtain ⟨pre,r,hJ,hsp,hlen⟩:=hrel
  obtain ⟨c1,c2,c3,c4,c5⟩:=hJc _ _ _ hJ
  have hi:=(Tryz.strings_Index ⟨⟨r⟩⟩ ⟨⟨[32]⟩⟩ m wr (by simp [ByteArray.size];omega) c5)
  rcases first_blank r with hno|⟨a,x,rfl,ha⟩
  ·have ix:Lib.index r [32] = -1:=idx_none 32 r hno
   simp only [ix] at hi
   obtain ⟨fn,tmps,assign,body,hy,hR⟩:=hY pre r r wr hJ (by omega) (by omega)
   gi_wp2_with (refine ⟨trivial,?_⟩;gi_at_call 50;refine (callsIn_wide.2 hi).mono ?_;rintro e w' ⟨rfl,rfl⟩)
   refine hR.mono ?_
   rintro e W' ⟨rfl,hJ'⟩
   gi_wp2
   go_end0
   refine ⟨⟨_,rfl⟩,r,?_⟩
   rw [hsp,splitP_one hno]
   exact hJ'
  ·have ix:Lib.index (a++32::x) [32]=a.length:=idx_some 32 a x ha
   simp only [ix] at hi
   simp only [List.length_append,List.length_cons] at hlen
   obtain ⟨fn,tmps,assign,body,hy,hR⟩:=hY pre a (a++32::x) wr hJ (by omega) (by omega)
   have ex:(⟨⟨a++32::x⟩⟩:ByteArray).extract 0 a.length=⟨⟨a⟩⟩:=cut_head a x
   have i1:¬ ((a.length:Int)<0):=by omega
   gi_wp2_with (refine ⟨trivial,?_⟩;gi_at_call 50;refine (callsIn_wide.2 hi).mono ?_;rintro e w' ⟨rfl,rfl⟩)
   refine hR.mono ?_
   rintro e W' ⟨rfl,hJ'⟩
   obtain ⟨d1,d2,d3,d4,d5⟩:=hJc _ _ _ hJ'
   gi_wp2
   have et:=cut_tail a x (a.length+(x.length+1)) (by omega)
   rw [et]
   have hJ2:=hJs _ _ x _ hJ'
   refine ⟨⟨pre ++ [a],x,hJ2,by rw [hsp,splitP_app ha];simp,by simp;omega⟩,?_⟩
   rw [lenAt_eq (hJc _ _ _ hJ2).1,lenAt_eq c1]
   simp
   omega
end Go.Proofs
namespace Go.Proofs
open Go.RowKit Go.Shelf
attribute [local go_sem] Oper.semAt_some
set_option maxHeartbeats 1000000 in
theorem splitA_in (n:Nat) (s sep:ByteArray) (w:World) :
  CallsIn Fence.wide n Tryz.prog 101 #[.string s,.string sep,.int .i64 0] w fun e w'=>e = .returned (.func (.func 112) #[] #[.pointer (some ⟨w.heap.size+1,0,none⟩),.pointer (some ⟨w.heap.size,0,none⟩),.pointer (some ⟨w.heap.size+2,0,none⟩)])/\w'=((w.alloc (.cells #[.string s] 9)).alloc (.cells #[.string sep] 9)).alloc (.cells #[.int .i64 0] 3):=by
 refine callsIn_of_wp Tryz.func101 rfl trivial ?_ rfl
 simp only [Tryz.ntmps101,List.size_toArray,List.length_cons,List.length_nil,Nat.reduceAdd,Nat.reduceSub,Array.replicate_succ,Array.replicate_zero,List.push_toArray,List.append_toArray,List.nil_append,List.cons_append]
 gi_wp2
 go_ret
 exact ⟨rfl,rfl⟩
set_option maxHeartbeats 1000000 in
theorem splitSeq_in (n:Nat) (s sep:ByteArray) (w:World) :
  CallsIn Fence.wide n Tryz.prog 80 #[.string s,.string sep] w fun e w'=>e = .returned (.func (.func 112) #[] #[.pointer (some ⟨w.heap.size+1,0,none⟩),.pointer (some ⟨w.heap.size,0,none⟩),.pointer (some ⟨w.heap.size+2,0,none⟩)])/\w'=((w.alloc (.cells #[.string s] 9)).alloc (.cells #[.string sep] 9)).alloc (.cells #[.int .i64 0] 3):=by
 refine callsIn_of_wp Tryz.func80 rfl trivial ?_ rfl
 simp only [Tryz.ntmps80,List.size_toArray,List.length_cons,List.length_nil,Nat.reduceAdd,Nat.reduceSub,Array.replicate_succ,Array.replicate_zero,List.push_toArray,List.append_toArray,List.nil_append,List.cons_append]
 gi_wp2_with (refine ⟨trivial,fun h=>absurd h (by simp [Fence.wide]),?_⟩;gi_at_call 101;refine (splitA_in _ s sep w).mono ?_;rintro e w' ⟨rfl,rfl⟩)
 go_ret
 exact ⟨rfl,rfl⟩
theorem row_ne {W:World} {B:Nat} {e:TypeId} {size k b:Nat} {v:Value} {xs:List Value} (hr:W.ownsRow B e size v k xs) (hb:b<B):some b≠v.ownBlock:=by
 rcases hr.2 with ⟨rfl,_⟩|⟨g,cap,cur,rfl,h1,hgb,_⟩
 ·simp [Value.ownBlock]
 ·intro e'
  obtain rfl:b=g:=by simpa [Value.ownBlock] using e'
  omega
theorem info_str:(Tryz.prog.info? 9).map (fun i=>(i.zero,i.size,i.bytes))=some (some (.string ⟨#[]⟩),1,16):=by kernel_rfl
def keptP (l:List (List UInt8)):List (List UInt8):=l.filter fun x=>decide (x ≠ [])
def vsP (l:List (List UInt8)):List Value:=l.map fun x=>Value.string ⟨⟨x⟩⟩
structure TrimI (w:World) (pre:List (List UInt8)) (r:List UInt8) (v:Value) (W:World):Prop where
 b0:Boxed W w.heap.size 55 v
 row:W.ownsRow (w.heap.size+6) 9 1 v (keptP pre).length (vsP (keptP pre))
 b1:Boxed W (w.heap.size+1) 9 (.string ⟨⟨r⟩⟩)
 b2:Boxed W (w.heap.size+1+1) 9 (.string ⟨⟨[32]⟩⟩)
 b3:Boxed W (w.heap.size+1+2) 3 (.int .i64 0)
 below:Below w.heap.size w W
 size:w.heap.size+6<=W.heap.size
theorem TrimI.set {w:World} {pre:List (List UInt8)} {r:List UInt8} {v:Value} {W:World} (h:TrimI w pre r v W) (r':List UInt8):TrimI w pre r' v (W.setCell ⟨w.heap.size+1,0,none⟩ (.string ⟨⟨r'⟩⟩)):=by
 have hg:=grownBy_setCell' W (w.heap.size+1) (.string ⟨⟨r'⟩⟩)
 refine ⟨h.b0.kept hg (by simp),h.row.kept hg (.inr (row_ne h.row (by omega)).symm),h.b1.set _,h.b2.kept hg (by simp),h.b3.kept hg (by simp),h.below.setCell (p:=⟨w.heap.size+1,0,none⟩) (by simp) _,?_⟩
 have:=hg.size
 have:=h.size
 omega
theorem TrimI.put {w:World} {pre:List (List UInt8)} {r:List UInt8} {v:Value} {W:World} (h:TrimI w pre r v W) {l:Nat} {o:Obj} (o':Obj) (hl:W.heap[l]? = some o) (ho:o.isCells=false) (h1:w.heap.size+4<=l):TrimI w pre r v (W.putObj l o'):=by
 have hg:=grownBy_putObj' W l o'
 refine ⟨h.b0.kept hg (by simp;omega),ownsRow_putObj h.row o' hl ho,h.b1.kept hg (by simp;omega),h.b2.kept hg (by simp;omega),h.b3.kept hg (by simp;omega),h.below.grown hg (by have:=h.size;omega) (fun k e=>by cases e;omega),?_⟩
 have:=hg.size
 have:=h.size
 omega
theorem keptP_hit (pre:List (List UInt8)) {x:List UInt8} (h:x ≠ []):keptP (pre ++ [x])=keptP pre ++ [x]:=by simp [keptP,h]
theorem keptP_miss (pre:List (List UInt8)) {x:List UInt8} (h:x = []):keptP (pre ++ [x])=keptP pre:=by simp [keptP,h]
theorem keptP_len (pre:List (List UInt8)):(keptP pre).length<=pre.length:=List.length_filter_le _ _
theorem TrimI.app {w:World} {pre:List (List UInt8)} {r x:List UInt8} {v v':Value} {W w1:World} {tmp:Obj} (h:TrimI w pre r v W) (hx:x ≠ [])
  (hown:w1.ownsRow (w.heap.size+6) 9 1 v' ((keptP pre).length+1) (vsP (keptP pre) ++ [Value.string ⟨⟨x⟩⟩])) (hg:(W.alloc tmp).grownBy w1 v.ownBlock) :
  Boxed w1 w.heap.size 55 v/\TrimI w (pre ++ [x]) r v' (w1.setCell ⟨w.heap.size,0,none⟩ v')/\∀ b,w.heap.size<b->b<w.heap.size+6->(w1.setCell ⟨w.heap.size,0,none⟩ v').heap[b]? = W.heap[b]? := by
 have hk:=grownBy_setCell' w1 w.heap.size v'
 have a0:Boxed w1 w.heap.size 55 v:=(h.b0.alloc tmp).kept hg (row_ne h.row (by omega))
 refine ⟨a0,⟨a0.set v',?_,((h.b1.alloc tmp).kept hg (row_ne h.row (by omega))).kept hk (by simp),((h.b2.alloc tmp).kept hg (row_ne h.row (by omega))).kept hk (fun e=>by injection e;omega),((h.b3.alloc tmp).kept hg (row_ne h.row (by omega))).kept hk (fun e=>by injection e;omega),?_,?_⟩,fun b h1 h2=>?_⟩
 ·rw [keptP_hit pre hx]
  simp only [vsP,List.map_append,List.map_cons,List.map_nil,List.length_append,List.length_cons,List.length_nil]
  exact hown.kept hk (.inr (row_ne hown (by omega)).symm)
 ·refine ((h.below.alloc (by have:=h.size;omega) tmp).grown hg (by have:=h.size;simp;omega) fun j e=>?_).setCell (p:=⟨w.heap.size,0,none⟩) (Nat.le_refl _) v'
  refine Nat.le_of_not_lt fun hj=>?_
  exact row_ne h.row (b:=j) (by omega) e.symm
 ·have h1:=hg.size
  have h2:=hk.size
  have h3:=h.size
  simp at h1
  omega
 ·have h3:=h.size
  refine (Below.heap_setCell _ _ _ _ (by simp;omega)).trans ((hg.block b (by simp;omega) (row_ne h.row h2)).trans (Below.heap_alloc _ _ _ (by omega)))
theorem range_own {P:Program} {n:Nat} {g:Operand} {ps:Array Tmp} {assign body:Code} {Q:Exit->Act->World->Prop} {a:Act} {w1:World} (h1:1<=n) {gf:Nat} {lb:Array Value}
  (hg:a.eval g = .func (.func gf) #[] lb) (eg:∀ args W,(callFunc gf args).run P W = .ok (.enter gf args) W) (S:World->Prop)
  (hit:∀ (fn:FuncId) (rec:LoopState->Option Code->Loop),(rec=fun st pe => { state:=st,pending:=pe,fn,tmps:=a.tmps,params:=ps,assign,body,defers:=w1.heap.size }) →
   CallsIn Fence.wide (n-1) P gf (#[.func (.yield (w1.heap.size+1)) #[] #[]]++lb) ((w1.alloc (.deferred (some []))).alloc (.loop (rec .ready none))) fun e W=>(∃ v,e = .returned v)/\S W/\W.heap[w1.heap.size+1]? = some (.loop (rec .ready none)))
  (hdone:∀ (W:World) (o o':Obj),S W->W.heap[w1.heap.size+1]? = some o->o.isCells=false->Q .normal { a with defers := { target := .collected w1.heap.size,args := #[] }::a.defers } (W.putObj (w1.heap.size+1) o')) :
  (Code.rangeFunc g ps assign body).wpIn Fence.wide n P Q a w1:=by
 refine wpIn_rangeFunc ?_
 intro fn hfn
 obtain ⟨rec,hrec⟩:∃ rec:LoopState->Option Code->Loop,rec=fun st pe => { state:=st,pending:=pe,fn,tmps:=a.tmps,params:=ps,assign,body,defers:=w1.heap.size }:=⟨_,rfl⟩
 refine ⟨w1.heap.size+1,[{ target := .collected w1.heap.size,args := #[] }],(w1.alloc (.deferred (some []))).alloc (.loop (rec .ready none)),{ target := .fn (.func gf) lb,args := #[.func (.yield (w1.heap.size+1)) #[] #[]] },(w1.alloc (.deferred (some []))).alloc (.loop (rec .ready none)),gf,
  #[.func (.yield (w1.heap.size+1)) #[] #[]]++lb,(w1.alloc (.deferred (some []))).alloc (.loop (rec .ready none)),?_,?_,?_,?_,fun _=>h1,?_⟩
 ·rw [hrec];exact run_enterLoop_outer _ _ _ _ _
 ·simp only [resolve,hg]
  simp [go_sem]
 ·intro f' _;trivial
 ·simp [invoke,go_sem,eg]
 ·refine (hit fn rec hrec).mono ?_
  rintro e W ⟨⟨v,rfl⟩,hS,hl⟩
  exact ⟨none,_,by have:=run_endLoop (P:=P) hl (by rw [hrec];simp);rw [hrec] at this;exact this,hdone W _ _ hS hl rfl⟩
theorem lens_kept (l:List (List UInt8)):Lib.lens (keptP l)<=Lib.lens l:=by
 induction l with
 | nil=>exact Nat.le_refl _
 | cons x l ih=>
   unfold keptP at ih ⊢
   rw [List.filter_cons]
   split
   ·simp [Lib.lens] at ih ⊢;omega
   ·simp [Lib.lens] at ih ⊢;omega
theorem splitP_lens:∀ s:List UInt8,Lib.lens (splitP s)<=s.length
 | []=>by simp [splitP,Lib.lens]
 | c::l=>by
   have:=splitP_lens l
   rw [splitP]
   split
   ·simp [Lib.lens] at this ⊢;omega
   ·split
    ·simp [Lib.lens]
    ·rename_i h;rw [h] at this;simp [Lib.lens] at this ⊢;omega
theorem kept_join (s:List UInt8):(Lib.join (keptP (splitP s)) [32]).length<=2*s.length+1:=by
 have h1:=lens_kept (splitP s)
 have h2:=splitP_lens s
 have h3:=keptP_len (splitP s)
 have h4:=splitP_len s
 generalize keptP (splitP s)=K at *
 cases K with
 | nil=>simp [Lib.join_nil]
 | cons x K=>
   rw [Lib.join_length]
   simp only [List.length_cons,List.length_nil] at h3 ⊢
   omega
theorem join_row {W:World} {B:Nat} {v:Value} (K:List (List UInt8)) (hr:W.ownsRow B 9 1 v K.length (vsP K)) (hK:K.length<=140737488355328) (hl:(Lib.join K [32]).length<=140737488355328) :
  Calls Tryz.prog 81 #[v,.string ⟨#[32]⟩] W fun e w'=>e = .returned (.string ⟨(Lib.join K [32]).toArray⟩)/\Below W.heap.size W w':=by
 have hcl:=fun g (hg:v.ownBlock=some g)=>hr.cells hg
 have hlt:=hr.lt
 rcases hr.2 with ⟨rfl,h0⟩|⟨g,cap,cur,rfl,h1,hgb,h2,_⟩
 ·obtain rfl:K = []:=List.eq_nil_of_length_eq_zero h0
  refine (Tryz.strings_Join_none none 0 ⟨#[32]⟩ W).mono ?_
  rintro e w' ⟨rfl,rfl⟩
  exact ⟨rfl,Below.refl _ _⟩
 ·have e1:((K.map fun x=>(⟨⟨x⟩⟩:ByteArray)).map fun b=>b.data.toList)=K:=by
   rw [List.map_map]
   exact List.map_id'' (fun _=>rfl) K
  have hJ:=Tryz.strings_Join g 0 cap (K.map fun x=>(⟨⟨x⟩⟩:ByteArray)) ⟨#[32]⟩ W (fun j x hx=>?_) (hlt g rfl).2 (by rw [List.length_map];exact hK) (by rw [List.length_map];exact h2) (by rw [e1];exact hl)
  ·rw [e1,List.length_map] at hJ
   exact hJ
  ·rw [List.getElem?_map] at hx
   obtain ⟨y,hy,rfl⟩:=Option.map_eq_some_iff.1 hx
   have:=hcl g rfl j (.string ⟨⟨y⟩⟩) (by unfold vsP;rw [List.getElem?_map,hy];rfl)
   rw [Nat.zero_add]
   by_cases hj:j=0
   ·subst hj;simpa [Addr.add] using this
   ·simpa [Addr.add,hj] using this
set_option maxHeartbeats 2000000 in
theorem trim_world (s:List UInt8) (hs:s.length<=1000000) (w:World) (m:Int) (hm:w.cell? ⟨0,0,none⟩=some (.int .i64 m)) :
  Calls Tryz.prog 59 #[.string ⟨⟨s⟩⟩] w fun e w'=>e = .returned (.string ⟨(Lib.join (keptP (splitP s)) [32]).toArray⟩)/\Below w.heap.size w w':=by
 obtain ⟨i0,hi,hz0,hz1,hz2⟩:=info_parts info_str
 refine (callsIn_wide (n:=5)).1 ?_
 refine callsIn_of_wp_marks Tryz.func59 rfl trivial ?_ rfl
 simp only [Tryz.ntmps59,List.size_toArray,List.length_cons,List.length_nil,Nat.reduceAdd,Nat.reduceSub,Array.replicate_succ,Array.replicate_zero,List.push_toArray,List.append_toArray,List.nil_append,List.cons_append]
 gi_wp2_with (refine ⟨trivial,?_⟩;gi_at_call 80;refine (splitSeq_in _ _ _ _).mono ?_;rintro e w' ⟨rfl,rfl⟩)
 have B0:=Boxed.new w 55 (.slice none 0 0)
 obtain ⟨wa,hwa⟩:∃ wa,w.alloc (.cells #[.slice none 0 0] 55)=wa:=⟨_,rfl⟩
 have sa:wa.heap.size=w.heap.size+1:=by rw [<-hwa];simp
 have la:Below w.heap.size w wa:=hwa▸(Below.refl _ w).alloc (Nat.le_refl _) _
 rw [hwa] at B0 ⊢
 have B1:=Boxed.new wa 9 (.string ⟨⟨s⟩⟩)
 obtain ⟨wb,hwb⟩:∃ wb,wa.alloc (.cells #[.string ⟨⟨s⟩⟩] 9)=wb:=⟨_,rfl⟩
 have sb:wb.heap.size=w.heap.size+2:=by rw [<-hwb];simp;omega
 have lb:=la.alloc (by omega) (.cells #[.string ⟨⟨s⟩⟩] 9)
 have B0:=B0.alloc (.cells #[.string ⟨⟨s⟩⟩] 9)
 rw [hwb] at B0 B1 lb ⊢
 have B2:=Boxed.new wb 9 (.string ⟨⟨[32]⟩⟩)
 obtain ⟨wc,hwc⟩:∃ wc,wb.alloc (.cells #[.string ⟨⟨[32]⟩⟩] 9)=wc:=⟨_,rfl⟩
 have sc:wc.heap.size=w.heap.size+3:=by rw [<-hwc];simp;omega
 have lc:=lb.alloc (by omega) (.cells #[.string ⟨⟨[32]⟩⟩] 9)
 have B0:=B0.alloc (.cells #[.string ⟨⟨[32]⟩⟩] 9)
 have B1:=B1.alloc (.cells #[.string ⟨⟨[32]⟩⟩] 9)
 rw [hwc] at B0 B1 B2 lc
 have ewc:wb.alloc (.cells #[.string { data := #[32] }] 9)=wc:=hwc
 rw [ewc]
 have B3:=Boxed.new wc 3 (.int .i64 0)
 obtain ⟨wd,hwd⟩:∃ wd,wc.alloc (.cells #[.int .i64 0] 3)=wd:=⟨_,rfl⟩
 have sd:wd.heap.size=w.heap.size+4:=by rw [<-hwd];simp;omega
 have ld:=lc.alloc (by omega) (.cells #[.int .i64 0] 3)
 have B0:=B0.alloc (.cells #[.int .i64 0] 3)
 have B1:=B1.alloc (.cells #[.int .i64 0] 3)
 have B2:=B2.alloc (.cells #[.int .i64 0] 3)
 rw [hwd] at B0 B1 B2 B3 ld ⊢
 rw [sa] at B1
 rw [sb] at B2
 rw [sc] at B3
 have eg:∀ args W,(callFunc 112 args).run Tryz.prog W = .ok (.enter 112 args) W:=enters_of Tryz.func112 (by kernel_rfl) rfl
 refine range_own (by omega) (gf:=112) (lb := #[.pointer (some ⟨w.heap.size+1+1,0,none⟩),.pointer (some ⟨w.heap.size+1,0,none⟩),.pointer (some ⟨w.heap.size+1+2,0,none⟩)]) rfl eg
  (fun W=>∃ r v,TrimI w (splitP s) r v W/\W.heap[w.heap.size+4]? = some (.deferred (some []))) ?hit ?done
 case hit=>
  intro fn rec hrec
  obtain ⟨we,hwe⟩:∃ we,(wd.alloc (.deferred (some []))).alloc (.loop (rec .ready none))=we:=⟨_,rfl⟩
  rw [hwe,sd]
  have hml:0<w.heap.size:=by
   obtain ⟨o,ho,_⟩:=cells_of_cell hm
   exact (Array.getElem?_eq_some_iff.1 ho).1
  refine (split_in 4 (by omega) (w.heap.size+4+1) (w.heap.size+1) (w.heap.size+1+1) (w.heap.size+1+2) m
   (fun pre r W=>∃ v,TrimI w pre r v W/\W.heap[w.heap.size+4]? = some (.deferred (some []))/\W.heap[w.heap.size+4+1]? = some (.loop (rec .ready none))) ?_ ?_ s hs ?_ we ?_).mono ?_
  ·rintro pre r W ⟨v,h,hD,hL⟩
   exact ⟨h.b1.cell,h.b1.frozen,h.b2.cell,h.b3.cell,(h.below.cell (p:=⟨0,0,none⟩) hml).trans hm⟩
  ·rintro pre r r' W ⟨v,h,hD,hL⟩
   exact ⟨v,h.set r',(Below.heap_setCell _ _ _ _ (by simp)).trans hD,(Below.heap_setCell _ _ _ _ (by simp)).trans hL⟩
  ·rintro pre x r W ⟨v,h,hD,hL⟩ hpl hxl
   have hy:=run_yield (P:=Tryz.prog) (args := #[.string ⟨⟨x⟩⟩]) hL (by rw [hrec];rfl)
   rw [hrec] at hy
   obtain ⟨R,hRe⟩:∃ R:Ending->World->Prop,Hid (R=fun e W'=>e = .returned (.bool true)/\∃ v,TrimI w (pre ++ [x]) r v W'/\W'.heap[w.heap.size+4]? = some (.deferred (some []))/\W'.heap[w.heap.size+4+1]? = some (.loop (rec .ready none))):=⟨_,rfl⟩
   refine YieldAt.mono (R:=R) ?_ (fun e W' hr=>by rw [hRe.out] at hr;exact hr)
   have hrd:(rec .ready none).state = .ready:=by rw [hrec]
   have hre:rec .ready none = { { rec .ready none with state := .busy } with state:=if (none:Option Code).isNone then .ready else .done,pending:=none }:=by rw [hrec];rfl
   have HR:Hid (rec=fun st pe=>_):=hrec
   clear hrec
   refine ⟨fn,_,_,_,hy,roundIn_of_wpIn trivial ?_⟩
   clear hy
   have HR2:Hid (rec .ready none = { { rec .ready none with state := .busy } with state:=if (none:Option Code).isNone then .ready else .done,pending:=none }):=hre
   clear hre
   gi_wp2
   refine ⟨_,run_beginRound hL hrd,?_⟩
   have h2:=h.put (.loop { rec .ready none with state := .busy }) hL rfl (by omega)
   have hD2:(W.putObj (w.heap.size+4+1) (.loop { rec .ready none with state := .busy })).heap[w.heap.size+4]? = some (.deferred (some [])):=(World.putObj_heap_other (by omega)).trans hD
   have hL2:(W.putObj (w.heap.size+4+1) (.loop { rec .ready none with state := .busy })).heap[w.heap.size+4+1]? = some (.loop { rec .ready none with state := .busy }):=World.putObj_heap_same (by have:=h.size;omega)
   obtain ⟨W2,hW2⟩:∃ W2,W.putObj (w.heap.size+4+1) (.loop { rec .ready none with state := .busy })=W2:=⟨_,rfl⟩
   rw [hW2] at h2 hD2 hL2 ⊢
   have fin:∀ (v':Value) (W3:World),TrimI w (pre ++ [x]) r v' W3->W3.heap[w.heap.size+4]? = some (.deferred (some []))->W3.heap[w.heap.size+4+1]? = some (.loop { rec .ready none with state := .busy }) →
     ∃ u W4,(Instr.endRound (w.heap.size+4+1) none).run Tryz.prog W3 = .ok u W4/\R (.returned u) W4:=by
    intro v' W3 h3 hD3 hL3
    have he:=run_endRound (P:=Tryz.prog) none hL3
    refine ⟨_,_,he,?_⟩
    rw [hRe.out]
    refine ⟨rfl,v',h3.put _ hL3 rfl (by omega),(World.putObj_heap_other (by omega)).trans hD3,?_⟩
    rw [World.putObj_heap_same (by have:=h3.size;omega),← HR2.out]
   have c0:=h2.b0.cell
   have f0:=h2.b0.frozen
   by_cases hx:x = []
   ·subst hx
    have h4:TrimI w (pre ++ [[]]) r v W2:=⟨h2.b0,by rw [keptP_miss pre rfl];exact h2.row,h2.b1,h2.b2,h2.b3,h2.below,h2.size⟩
    have FIN:Hid _:=fin v W2 h4 hD2 hL2
    clear fin
    gi_wp2
    exact FIN.out
   ·have FIN:Hid _:=fin
    clear fin
    have hkl:=keptP_len pre
    have hmx:(keptP pre).length+1<=maxLen:=by unfold maxLen;omega
    gi_wp2_with (gi_at_builtin;refine wpListIn_append_own _ rfl _ _ 55 rfl (w.heap.size+6) 9 i0 (.string ⟨#[]⟩) 1 16 Tryz.underlying55 hi hz0 hz1 hz2 rfl (by decide) _ _ _ rfl (h2.row.alloc _) ⟨W2.heap.size,0,none⟩ 1 1 [.string ⟨⟨x⟩⟩] rfl rfl (cell_one_new _ _ _) (by simp [Value.oneCell']) (by omega) (by omega) (by have:=h2.size;simp;omega) ?_;intro v' w1 hown' hgrow _;obtain ⟨g',cap',rfl⟩:=ownsRow_succ hown';obtain ⟨hv1,h4,hk4⟩:=h2.app hx hown' hgrow;have HK:Hid _:=hk4;clear hk4;have hc1:=hv1.cell;have hf1:=hv1.frozen)
    ·exact FIN.out _ _ h4 ((HK.out _ (by omega) (by omega)).trans hD2) ((HK.out _ (by omega) (by omega)).trans hL2)
    ·exfalso
     simp_all
  ·have hs5:we.heap.size=w.heap.size+6:=by rw [<-hwe];simp;omega
   refine ⟨.slice none 0 0,⟨?_,World.ownsRow_nil _ _ _ _,?_,?_,?_,?_,by omega⟩,?_,?_⟩
   ·rw [<-hwe];exact (B0.alloc _).alloc _
   ·rw [<-hwe];exact (B1.alloc _).alloc _
   ·rw [<-hwe];exact (B2.alloc _).alloc _
   ·rw [<-hwe];exact (B3.alloc _).alloc _
   ·rw [<-hwe];exact (ld.alloc (by omega) _).alloc (by simp;omega) _
   ·rw [<-hwe]
    refine (Below.heap_alloc _ _ _ (by simp;omega)).trans ?_
    have:=World.alloc_heap_new wd (.deferred (some []))
    rw [sd] at this
    exact this
   ·rw [<-hwe]
    have:=World.alloc_heap_new (wd.alloc (.deferred (some []))) (.loop (rec .ready none))
    rw [World.size_alloc,sd] at this
    exact this
  ·rintro e W ⟨he,r,v,h,hD,hL⟩
   exact ⟨he,⟨r,v,h,hD⟩,hL⟩
 case done=>
  rintro W o o' ⟨r,v,hI,hD⟩ hl ho
  rw [sd] at hl ⊢
  have hI2:=hI.put o' hl ho (by omega)
  have hD2:(W.putObj (w.heap.size+4+1) o').heap[w.heap.size+4]? = some (.deferred (some [])):=(World.putObj_heap_other (by omega)).trans hD
  obtain ⟨W2,hW2⟩:∃ W2,W.putObj (w.heap.size+4+1) o'=W2:=⟨_,rfl⟩
  rw [hW2] at hI2 hD2 ⊢
  have c0:=hI2.b0.cell
  have hJn:=join_row (keptP (splitP s)) hI2.row (by have h1:=keptP_len (splitP s);have h2:=splitP_len s;omega) (by have:=kept_join s;omega)
  gi_wp2_with (refine ⟨trivial,?_⟩;gi_at_call 81;refine (callsIn_wide.2 hJn).mono ?_;rintro e w' ⟨rfl,hB⟩)
  have hD3:w'.heap[w.heap.size+4]? = some (.deferred (some [])):=(hB.block _ (by have:=hI2.size;omega)).trans hD2
  refine ⟨by simp,.inl ⟨_,_,rfl,run_takeDeferred hD3,?_⟩⟩
  refine ⟨_,results_tmp rfl _ _ _,rfl,?_⟩
  exact ((hI2.below).trans (hB.mono (by have:=hI2.size;omega))).trans (belowK_b (w:=w) (Nat.le_refl _) w' _ _ _ (by omega) hD3 rfl rfl)
end Go.Proofs
namespace Go.A
open Go.Proofs Go.Lib
theorem all256 (p:UInt8->Bool) (h:(List.range 256).all (fun n=>p (UInt8.ofNat n))=true) (c:UInt8):p c=true:=by
 have:=(List.all_eq_true.1 h) c.toNat (List.mem_range.2 c.toNat_lt)
 simpa using this
theorem gr_sm (c:UInt8):greatC (smallC c)=greatC c:=by
 simpa using all256 (fun c=>decide (greatC (smallC c)=greatC c)) (by decide +kernel) c
theorem sm_gr (c:UInt8):smallC (greatC c)=smallC c:=by
 simpa using all256 (fun c=>decide (smallC (greatC c)=smallC c)) (by decide +kernel) c
theorem gr_gr (c:UInt8):greatC (greatC c)=greatC c:=by
 simpa using all256 (fun c=>decide (greatC (greatC c)=greatC c)) (by decide +kernel) c
theorem sm_sm (c:UInt8):smallC (smallC c)=smallC c:=by
 simpa using all256 (fun c=>decide (smallC (smallC c)=smallC c)) (by decide +kernel) c
theorem gr_hi (c:UInt8) (h:128<=c.toNat):greatC c=c:=by unfold greatC;rw [if_neg (by omega)]
theorem sm_hi (c:UInt8) (h:128<=c.toNat):smallC c=c:=by unfold smallC;rw [if_neg (by omega)]
theorem gr_lo (c:UInt8) (h:c.toNat<128):(greatC c).toNat<128:=by
 simpa [h] using all256 (fun c=>decide (c.toNat<128->(greatC c).toNat<128)) (by decide +kernel) c
theorem sm_lo (c:UInt8) (h:c.toNat<128):(smallC c).toNat<128:=by
 simpa [h] using all256 (fun c=>decide (c.toNat<128->(smallC c).toNat<128)) (by decide +kernel) c
theorem let_gs (c:UInt8):letterB ((greatC c).toNat:Int)=letterB ((smallC c).toNat:Int):=by
 simpa using all256 (fun c=>decide (letterB ((greatC c).toNat:Int)=letterB ((smallC c).toNat:Int))) (by decide +kernel) c
theorem great_small (l:List UInt8):greatP (smallP l)=greatP l:=by
 unfold greatP smallP;rw [List.map_map];exact List.map_congr_left fun c _=>gr_sm c
theorem small_great (l:List UInt8):smallP (greatP l)=smallP l:=by
 unfold greatP smallP;rw [List.map_map];exact List.map_congr_left fun c _=>sm_gr c
theorem great_great (l:List UInt8):greatP (greatP l)=greatP l:=by
 unfold greatP;rw [List.map_map];exact List.map_congr_left fun c _=>gr_gr c
theorem small_small (l:List UInt8):smallP (smallP l)=smallP l:=by
 unfold smallP;rw [List.map_map];exact List.map_congr_left fun c _=>sm_sm c
theorem dec_valid (l:List UInt8):(decodeL l).1<55296\/(57343<(decodeL l).1/\(decodeL l).1<=1114111):=by
 rw [decodeL_N]
 generalize l.length=n
 generalize (l.getD 0 0).toNat=b0
 generalize (l.getD 1 0).toNat=b1
 generalize (l.getD 2 0).toNat=b2
 generalize (l.getD 3 0).toNat=b3
 unfold decodeN
 repeat' split
 all_goals simp only []
 all_goals omega
theorem enc_rune {c:Nat} (hv:c<55296\/(57343<c/\c<=1114111)):encU (c:Int)=encodeRune (c:Int):=by
 unfold encodeRune encodeRuneZ
 rcases encU_cases hv with ⟨h1,e⟩|⟨h1,h2,e⟩|⟨h1,h2,e⟩|⟨h1,h2,e⟩
 ·rw [e,if_pos (by omega)]
  rfl
 ·rw [e,if_neg (by omega),if_pos (by omega)]
  rfl
 ·rw [e,if_neg (by omega),if_neg (by omega),if_pos (by omega)]
  rfl
 ·rw [e,if_neg (by omega),if_neg (by omega),if_neg (by omega),if_pos (by omega)]
  rfl
theorem vp_enc {p:List UInt8} (h:VP p):encU ((decodeL p).1:Int)=p:=by
 obtain ⟨h1,h2,h3⟩:=h
 have h4:=encode_decode p h1 (fun e=>h2 (by rw [<-e.1,← e.2]))
 rw [h3,List.take_of_length_le (Nat.le_refl _)] at h4
 rw [enc_rune (dec_valid p)]
 exact h4
theorem vp_cases {p:List UInt8} (h:VP p):(∃ c:UInt8,p = [c]/\c.toNat<128)\/(∀ b∈p,128<=b.toNat):=by
 have he:=vp_enc h
 have hv:=dec_valid p
 generalize (decodeL p).1=c at *
 have u:∀ k,k<256->(UInt8.ofNat k).toNat=k:=fun k hk=>by have:=u8_nat hk;omega
 rcases encU_cases hv with ⟨h1,e⟩|⟨h1,h2,e⟩|⟨h1,h2,e⟩|⟨h1,h2,e⟩
 ·exact .inl ⟨UInt8.ofNat c,by rw [<-he,e],by rw [u _ (by omega)];exact h1⟩
 all_goals
  refine .inr fun b hb=>?_
  rw [<-he,e] at hb
  simp only [List.mem_cons,List.not_mem_nil,or_false] at hb
  rcases hb with rfl|rfl|rfl|rfl<;>rw [u _ (by omega)]<;>omega
theorem vp_ascii {c:UInt8} (h:c.toNat<128):VP [c]/\(decodeL [c]).1=c.toNat:=by
 have hv:c.toNat<55296\/(57343<c.toNat/\c.toNat<=1114111) := .inl (by omega)
 have he:encU (c.toNat:Int) = [c]:=by
  rcases encU_cases hv with ⟨h1,e⟩|⟨h1,h2,e⟩|⟨h1,h2,e⟩|⟨h1,h2,e⟩
  ·rw [e];simp
  all_goals omega
 have h1:=enc_vp hv
 have h2:=dec_enc hv []
 rw [he] at h1 h2
 rw [List.append_nil] at h2
 exact ⟨h1,by rw [h2]⟩
theorem vp_great {p:List UInt8} (h:VP p):VP (greatP p):=by
 rcases vp_cases h with ⟨c,rfl,hc⟩|hb
 ·exact (vp_ascii (gr_lo c hc)).1
 ·rw [show greatP p=p from (List.map_congr_left fun b hb'=>gr_hi b (hb b hb')).trans (List.map_id' p)];exact h
theorem vp_small {p:List UInt8} (h:VP p):VP (smallP p):=by
 rcases vp_cases h with ⟨c,rfl,hc⟩|hb
 ·exact (vp_ascii (sm_lo c hc)).1
 ·rw [show smallP p=p from (List.map_congr_left fun b hb'=>sm_hi b (hb b hb')).trans (List.map_id' p)];exact h
theorem let_vp {p:List UInt8} (h:VP p):letterB ((decodeL (greatP p)).1:Int)=letterB ((decodeL (smallP p)).1:Int):=by
 rcases vp_cases h with ⟨c,rfl,hc⟩|hb
 ·show letterB ((decodeL [greatC c]).1:Int)=letterB ((decodeL [smallC c]).1:Int)
  rw [(vp_ascii (gr_lo c hc)).2,(vp_ascii (sm_lo c hc)).2,let_gs]
 ·rw [show greatP p=p from (List.map_congr_left fun b hb'=>gr_hi b (hb b hb')).trans (List.map_id' p),show smallP p=p from (List.map_congr_left fun b hb'=>sm_hi b (hb b hb')).trans (List.map_id' p)]
theorem prop_vp {q t:List UInt8} (h:VP q) (ins:Bool):propQ ins (q++t)=(if ins=true then smallP q else greatP q)++propQ (letterB ((decodeL q).1:Int)) t:=by
 have hne:q++t ≠ []:=by simp [h.1]
 rw [propQ_step ins hne,h.app,vp_enc h,h.2.2,List.drop_left]
theorem prop_two:∀ (P:List (List UInt8)),(∀ p∈P,VP p)->∀ ins,propQ ins (P.map greatP).flatten=propQ ins (P.map smallP).flatten
 | [],_,ins=>rfl
 | p::P,h,ins=>by
   have hp:=h p List.mem_cons_self
   have ih:=prop_two P fun q hq=>h q (List.mem_cons_of_mem _ hq)
   rw [List.map_cons,List.map_cons,List.flatten_cons,List.flatten_cons,prop_vp (vp_great hp),prop_vp (vp_small hp),let_vp hp,ih,small_great,small_small,great_great,great_small]
theorem proper_law {s:List UInt8} (h:Whole s):propP (greatP s)=propP (smallP s):=by
 have e1:greatP s=((pcs s).map greatP).flatten:=by
  conv=>lhs;rw [<-pcs_flat s]
  unfold greatP;rw [List.map_flatten]
 have e2:smallP s=((pcs s).map smallP).flatten:=by
  conv=>lhs;rw [<-pcs_flat s]
  unfold smallP;rw [List.map_flatten]
 rw [e1,e2]
 exact prop_two (pcs s) h false
def revP (s:List UInt8):List UInt8:=(runesBytes (runesOf s).reverse).data.toList
theorem runes_flat:∀ (ns:List Int) (b:ByteArray),(ns.foldl (fun r n=>r++Utf8.encode n) b).data.toList=b.data.toList++(ns.map encU).flatten
 | [],b=>by simp
 | n::ns,b=>by
   rw [List.foldl_cons,runes_flat ns,List.map_cons,List.flatten_cons,← List.append_assoc]
   congr 1
theorem map_enc:∀ P:List (List UInt8),(∀ p∈P,VP p)->(P.map fun p=>((decodeL p).1:Int)).map encU=P
 | [],_=>rfl
 | p::P,h=>by
   rw [List.map_cons,List.map_cons,vp_enc (h p List.mem_cons_self),map_enc P fun q hq=>h q (List.mem_cons_of_mem _ hq)]
theorem runes_pcs (s:List UInt8):∀ (f i:Nat),s.length-i<=f->Whole (s.drop i)->runesZ ⟨⟨s⟩⟩ f i=(pcs (s.drop i)).map fun p=>((decodeL p).1:Int)
 | 0,i,h,_=>by
   rw [List.drop_eq_nil_of_le (by omega)]
   try rfl
 | f+1,i,h,hw=>by
   unfold runesZ
   by_cases hi:i<s.length
   ·obtain ⟨r1,r2,r3,r4⟩:=range_at hi
    rw [if_pos (by simpa [ByteArray.size] using hi),r2]
    obtain ⟨w1,w2⟩:=(whole_step r1).1 hw
    have hv:=take_vp r1 w1
    have e:=hv.app ((s.drop i).drop (decodeL (s.drop i)).2)
    rw [List.take_append_drop] at e
    rw [List.drop_drop] at w2
    rw [runes_pcs s f _ (by omega) w2,pcs_step r1,List.map_cons,List.drop_drop,← e]
   ·rw [if_neg (by simpa [ByteArray.size] using hi),List.drop_eq_nil_of_le (by omega)]
    rfl
theorem rev_pcs {s:List UInt8} (h:Whole s):revP s=(pcs s).reverse.flatten:=by
 have h1:=runes_pcs s s.length 0 (by omega) h
 rw [List.drop_zero] at h1
 unfold revP runesOf runesBytes
 rw [h1,runes_flat,← List.map_reverse,map_enc _ fun p hp=>h p (List.mem_reverse.1 hp)]
 rfl
theorem rev_law {s:List UInt8} (h:Whole s):revP (revP s)=s:=by
 have h1:=rev_pcs h
 have h2:pcs (pcs s).reverse.flatten=(pcs s).reverse:=pcs_of fun p hp=>h p (List.mem_reverse.1 hp)
 have h3:Whole (revP s):=by
  rw [h1]
  intro p hp
  rw [h2] at hp
  exact h p (List.mem_reverse.1 hp)
 rw [rev_pcs h3,h1,h2,List.reverse_reverse,pcs_flat]
def trimT (s:List UInt8):List UInt8:=Lib.join (keptP (splitP s)) [32]
theorem splitP_no:∀ (s:List UInt8),∀ p∈splitP s,∀ b∈p,b≠32
 | [],p,hp,b,hb=>by rw [splitP,List.mem_singleton] at hp;subst hp;cases hb
 | c::l,p,hp,b,hb=>by
   have ih:=splitP_no l
   rw [splitP] at hp
   split at hp
   ·rcases List.mem_cons.1 hp with rfl|hp
    ·cases hb
    ·exact ih p hp b hb
   ·rename_i hc
    split at hp
    ·rw [List.mem_singleton] at hp;subst hp
     rw [List.mem_singleton.1 hb];exact hc
    ·rename_i h t e
     rcases List.mem_cons.1 hp with rfl|hp
     ·rcases List.mem_cons.1 hb with rfl|hb
      ·exact hc
      ·exact ih h (by rw [e];exact List.mem_cons_self) b hb
     ·exact ih p (by rw [e];exact List.mem_cons_of_mem _ hp) b hb
theorem split_tail:∀ (r:List (List UInt8)) (x:List UInt8),(∀ p∈x::r,∀ b∈p,b≠32)->splitP (x++Lib.joinTail [32] r)=x::r
 | [],x,h=>by
   rw [show Lib.joinTail [32] [] = [] from rfl,List.append_nil]
   exact splitP_one (h x List.mem_cons_self)
 | y::r,x,h=>by
   have e:Lib.joinTail [32] (y::r)=32::(y++Lib.joinTail [32] r):=by simp [Lib.joinTail]
   rw [e,splitP_app (h x List.mem_cons_self),split_tail r y fun p hp=>h p (List.mem_cons_of_mem _ hp)]
theorem kept_kept (K:List (List UInt8)) (h:∀ p∈K,p ≠ []):keptP K=K:=List.filter_eq_self.2 fun p hp=>by simpa using h p hp
theorem trim_law (s:List UInt8):trimT (trimT s)=trimT s:=by
 have h1:∀ p∈keptP (splitP s),p ≠ []:=fun p hp=>by have:=(List.mem_filter.1 hp).2;simpa using this
 have h2:∀ p∈keptP (splitP s),∀ b∈p,b≠32:=fun p hp=>splitP_no s p (List.mem_filter.1 hp).1
 unfold trimT
 generalize keptP (splitP s)=K at *
 cases K with
 | nil=>rfl
 | cons x K=>
   rw [Lib.join_cons,split_tail K x h2,kept_kept _ h1,Lib.join_cons]
end Go.A
namespace Go.A
open Go.Proofs Go.Lib
def MaxL (σ:ASt):Prop:=∃ m:Int,σ 0=some (.fix ([m].map (AV.int .i64)))
end Go.A
namespace Go.A
open Go.Proofs
/-! 3: tabular/tabularlaw17.TextsTurns -/
def c3_15:ACode := .seq (.ops [ oq 2 (.mv (.v (.bool false)))]) (.seq (.ops [ oq 7 (.mv (.t 0)),oe 8 (.call 4 [(.t 7),(.v (.int .i64 200))]),oq 0 (.mv (.t 8))]) (.seq (.seq (.ops [ oq 10 (.mv (.t 0)),oe 11 (.call 5 [(.t 10)]),oq 9 (.mv (.t 11)),oq 12 (.ext 0 (.t 9)),oq 13 (.ext 1 (.t 9)),oq 3 (.mv (.t 12)),oq 4 (.mv (.t 13))]) (.seq (.ops [ oq 14 (.mv (.t 4)),oq 15 (.un .not (.t 14))]) (.cond (.t 15) (.seq (.ops [ oe 16 (.call 6 []),oq 2 (.mv (.t 16))]) .ret) .skip))) (.seq (.ops [ oq 17 (.mv (.t 0)),oe 18 (.call 7 [(.v (.str [85,80,80,69,82])),(.t 17),(.v (.sl .full []))]),oq 19 (.mv (.t 0)),oe 20 (.call 7 [(.v (.str [76,79,87,69,82])),(.t 19),(.v (.sl .full []))]),oq 5 (.mv (.t 18)),oq 6 (.mv (.t 20))]) (.seq (.ops [ oe 21 (.call 6 []),oq 22 (.mv (.t 21)),⟨some 23,some (22,true),.q (.mv (.t 0)),[]⟩,⟨some 24,some (22,true),.e (.call 7 [(.v (.str [82,69,86,69,82,83,69])),(.t 23),(.v (.sl .full []))]),[]⟩,⟨some 25,some (22,true),.e (.call 7 [(.v (.str [82,69,86,69,82,83,69])),(.t 24),(.v (.sl .full []))]),[]⟩,⟨some 26,some (22,true),.q (.mv (.t 0)),[]⟩,⟨some 27,some (22,true),.q (.bin .eql (.t 25) (.t 26)),[]⟩,oq 28 (.pick (.t 22) (.t 27) (.v (.bool false))),oq 29 (.mv (.t 28)),⟨some 30,some (29,true),.q (.mv (.t 6)),[]⟩,⟨some 31,some (29,true),.e (.call 7 [(.v (.str [85,80,80,69,82])),(.t 30),(.v (.sl .full []))]),[]⟩,⟨some 32,some (29,true),.q (.mv (.t 5)),[]⟩,⟨some 33,some (29,true),.q (.bin .eql (.t 31) (.t 32)),[]⟩,oq 34 (.pick (.t 29) (.t 33) (.v (.bool false))),oq 35 (.mv (.t 34)),⟨some 36,some (35,true),.q (.mv (.t 5)),[]⟩,⟨some 37,some (35,true),.e (.call 7 [(.v (.str [76,79,87,69,82])),(.t 36),(.v (.sl .full []))]),[]⟩,⟨some 38,some (35,true),.q (.mv (.t 6)),[]⟩,⟨some 39,some (35,true),.q (.bin .eql (.t 37) (.t 38)),[]⟩,oq 40 (.pick (.t 35) (.t 39) (.v (.bool false))),oq 41 (.mv (.t 40)),⟨some 42,some (41,true),.q (.mv (.t 0)),[]⟩,⟨some 43,some (41,true),.e (.call 7 [(.v (.str [84,82,73,77])),(.t 42),(.v (.sl .full []))]),[]⟩,⟨some 44,some (41,true),.e (.call 7 [(.v (.str [84,82,73,77])),(.t 43),(.v (.sl .full []))]),[]⟩,⟨some 45,some (41,true),.q (.mv (.t 0)),[]⟩,⟨some 46,some (41,true),.e (.call 7 [(.v (.str [84,82,73,77])),(.t 45),(.v (.sl .full []))]),[]⟩,⟨some 47,some (41,true),.q (.bin .eql (.t 44) (.t 46)),[]⟩,oq 48 (.pick (.t 41) (.t 47) (.v (.bool false))),oq 49 (.mv (.t 48)),⟨some 50,some (49,true),.q (.mv (.t 5)),[]⟩,⟨some 51,some (49,true),.e (.call 7 [(.v (.str [80,82,79,80,69,82])),(.t 50),(.v (.sl .full []))]),[]⟩,⟨some 52,some (49,true),.q (.mv (.t 6)),[]⟩,⟨some 53,some (49,true),.e (.call 7 [(.v (.str [80,82,79,80,69,82])),(.t 52),(.v (.sl .full []))]),[]⟩,⟨some 54,some (49,true),.q (.bin .eql (.t 51) (.t 53)),[]⟩,oq 55 (.pick (.t 49) (.t 54) (.v (.bool false))),oq 2 (.mv (.t 55))]) .ret))))
@[go_sem] def c3_15_wp:=wp_of c3_15.eq_1
def c3:AFn:=⟨56,[.t 2],c3_15⟩
theorem c3_ok:compF Tryz.prog Tryz.f3=some c3:=by kernel_rfl
theorem a3 {args:List AV} {σ:ASt} {R:AV->ASt->Prop} (hl:args.length<=56) (h:c3_15.wp Tryz.prog (RetQ [.t 2] R) (init args) σ):ACalls Tryz.prog 3 args σ R:=acalls_of Tryz.func3 c3_ok hl h
/-! 61: tabular/texts.reverse -/
def c61_10:ACode := .seq (.seq (.ops [ oq 11 (.mv (.t 4)),oq 12 (.mv (.t 5)),oq 13 (.bin .lss (.t 11) (.t 12))]) (.cond (.t 13) .skip (.exit 0))) (.seq (.block 1 (.ops [ oq 18 (.mv (.t 3)),oq 19 (.mv (.t 4)),oq 20 (.mv (.t 3)),oq 21 (.mv (.t 5)),oq 22 (.mv (.t 3)),oq 23 (.mv (.t 5)),oq 24 (.ia 1 (.t 22) (.t 23)),oq 25 (.ld none (.t 24)),oq 26 (.mv (.t 3)),oq 27 (.mv (.t 4)),oq 28 (.ia 1 (.t 26) (.t 27)),oq 29 (.ld none (.t 28)),oq 30 (.ia 1 (.t 18) (.t 19)),oz (.store 1 (.t 30) (.t 25)),oq 31 (.ia 1 (.t 20) (.t 21)),oz (.store 1 (.t 31) (.t 29))])) (.ops [ oq 14 (.mv (.t 4)),oq 15 (.bin .add (.t 14) (.v (.int .i64 1))),oq 16 (.mv (.t 5)),oq 17 (.bin .sub (.t 16) (.v (.int .i64 1))),oq 4 (.mv (.t 15)),oq 5 (.mv (.t 17))]))
def c61_18:ACode := .seq (.ops [ oq 2 (.mv (.v (.str [])))]) (.seq (.ops [ oq 6 (.mv (.t 0)),oe 7 (.s2r (.t 6)),oq 3 (.mv (.t 7))]) (.seq (.seq (.ops [ oq 8 (.mv (.t 3)),oq 9 (.len (.t 8)),oq 10 (.bin .sub (.t 9) (.v (.int .i64 1))),oq 4 (.mv (.v (.int .i64 0))),oq 5 (.mv (.t 10))]) (.block 0 (.loop c61_10))) (.seq (.ops [ oq 32 (.mv (.t 3)),oq 33 (.r2s (.t 32)),oq 2 (.mv (.t 33))]) .ret)))
@[go_sem] def c61_10_wp:=wp_of c61_10.eq_1
@[go_sem] def c61_18_wp:=wp_of c61_18.eq_1
def c61:AFn:=⟨34,[.t 2],c61_18⟩
theorem c61_ok:compF Tryz.prog Tryz.f61=some c61:=by kernel_rfl
theorem a61 {args:List AV} {σ:ASt} {R:AV->ASt->Prop} (hl:args.length<=34) (h:c61_18.wp Tryz.prog (RetQ [.t 2] R) (init args) σ):ACalls Tryz.prog 61 args σ R:=acalls_of Tryz.func61 c61_ok hl h
end Go.A
namespace Go.A
open Go.Proofs Go.Lib
theorem i32_get {M:List Int} {i:Nat} {x:Int} (h:M[i]? = some x):(M.map (AV.int .i32))[i]? = some (.int .i32 x):=by rw [List.getElem?_map,h];rfl
theorem i32_set {M:List Int} {i:Nat} (x:Int) (h:i<M.length):(M.map (AV.int .i32)).take i ++ [AV.int .i32 x]++(M.map (AV.int .i32)).drop (i+1)=(M.set i x).map (AV.int .i32):=by
 rw [List.map_set,List.set_eq_take_append_cons_drop,if_pos (by rw [List.length_map];exact h),List.append_assoc]
 rfl
set_option maxHeartbeats 1000000 in
theorem xreverse_ok (s:List UInt8) (hs:s.length<=200000):Pure Tryz.prog 61 [.str s] (.str (revP s)):=by
 intro σ
 have hn:=runesOf_len s
 unfold revP
 obtain ⟨L,hL⟩:∃ L,runesOf s=L:=⟨_,rfl⟩
 obtain ⟨n,hn2⟩:∃ n,L.length=n:=⟨_,rfl⟩
 rw [hL,hn2] at hn
 rw [hL]
 refine a61 (by simp) ?_
 simp (disch:=first|assumption|omega|(simp only [List.length_append,List.length_cons,List.length_nil];omega)) only [go_sem,reduceCtorEq,Nat.reduceEqDiff,Nat.reduceAdd,Nat.reduceSub,Nat.reduceMul,Nat.reduceLeDiff,Int.reduceLT,Int.reduceLE,Int.reduceEq,↓reduceIte,Int.reduceNeg,Int.reduceAdd,Int.reduceSub,Int.reduceMul,true_imp_iff,forall_const,Nat.mul_one,Int.reduceToNat,Nat.reducePow,Int.reducePow,Bool.true_and,Bool.false_and,Bool.and_false]
 refine s2r_own (by omega) fun b cp hb hcp=>?_
 rw [hL] at hcp ⊢
 rw [hn2] at hcp ⊢
 simp (disch:=first|assumption|omega|(simp only [List.length_append,List.length_cons,List.length_nil];omega)) only [go_sem,reduceCtorEq,Nat.reduceEqDiff,Nat.reduceAdd,Nat.reduceSub,Nat.reduceMul,Nat.reduceLeDiff,Int.reduceLT,Int.reduceLE,Int.reduceEq,↓reduceIte,Int.reduceNeg,Int.reduceAdd,Int.reduceSub,Int.reduceMul,true_imp_iff,forall_const,Nat.mul_one,Int.reduceToNat,Nat.reducePow,Int.reducePow,Bool.true_and,Bool.false_and,Bool.and_false]
 refine wp_loop_on (fun (i:Nat) a σ'=>2*i<=n/\(∃ M:List Int,M.length=n/\(∀ j,M[j]? = if j<i\/n<j+1+i then (if j<n then L[n-1-j]? else none) else L[j]?)/\σ'=σ.set b (some (.obj (M.map (AV.int .i32)))))/\(a 3 = .msl b 0 n cp/\a 4 = .int .i64 i/\a 5 = .int .i64 ((n:Int)-1-i))) (fun i=>n-i) 0 ⟨by omega,⟨L,hn2,?_,rfl⟩,?_⟩ ?_
 ·intro j
  by_cases h:n<j+1+0
  ·rw [if_pos (.inr h),if_neg (by omega),List.getElem?_eq_none (by omega)]
  ·rw [if_neg (by omega)]
 ·simp (disch:=first|assumption|omega|(simp only [List.length_append,List.length_cons,List.length_nil];omega)) only [go_sem,reduceCtorEq,Nat.reduceEqDiff,Nat.reduceAdd,Nat.reduceSub,Nat.reduceMul,Nat.reduceLeDiff,Int.reduceLT,Int.reduceLE,Int.reduceEq,↓reduceIte,Int.reduceNeg,Int.reduceAdd,Int.reduceSub,Int.reduceMul,true_imp_iff,forall_const,Nat.mul_one,Int.reduceToNat,Nat.reducePow,Int.reducePow,Bool.true_and,Bool.false_and,Bool.and_false]
  simp
 rintro i a σ1 ⟨hi,⟨M,hMl,hM,rfl⟩,hf⟩
 have lm:(M.map (AV.int .i32)).length=n:=by rw [List.length_map];exact hMl
 by_cases hlt:2*i+1<n
 ·obtain ⟨k,hk⟩:∃ k:Nat,n=k+1+i:=⟨n-1-i,by omega⟩
  have ek:(n:Int)-1-i=k:=by omega
  rw [ek] at hf
  have hlt':(i:Int)<k:=by omega
  obtain ⟨x,hx⟩:∃ x,M[i]? = some x:=⟨_,List.getElem?_eq_getElem (by omega)⟩
  obtain ⟨y,hy⟩:∃ y,M[k]? = some y:=⟨_,List.getElem?_eq_getElem (by omega)⟩
  have gx:=i32_get hx
  have gy:=i32_get hy
  have s1:=i32_set (M:=M) y (show i<M.length by omega)
  have s2:=i32_set (M:=M.set i y) x (show k<(M.set i y).length by rw [List.length_set];omega)
  have l1:i+1<=M.length:=by omega
  have l2:k+1<=M.length:=by omega
  have l3:k+1<=(M.set i y).length:=by rw [List.length_set];omega
  have ei:(i:Int)+1=((i+1:Nat):Int):=by omega
  have hM2:∀ j,((M.set i y).set k x)[j]? = if j<i+1\/n<j+1+(i+1) then (if j<n then L[n-1-j]? else none) else L[j]? := by
   intro j
   have hxl:=hM i
   have hyl:=hM k
   rw [hx,if_neg (by omega)] at hxl
   rw [hy,if_neg (by omega)] at hyl
   by_cases j1:j=k
   ·subst j1
    rw [List.getElem?_set_self (by rw [List.length_set];omega),if_pos (by omega),if_pos (by omega),show n-1-j=i by omega,← hxl]
   ·rw [List.getElem?_set_ne (by omega)]
    by_cases j2:j=i
    ·subst j2
     rw [List.getElem?_set_self (by omega),if_pos (by omega),if_pos (by omega),show n-1-j=k by omega,← hyl]
    ·rw [List.getElem?_set_ne (by omega),hM j]
     by_cases c:j<i\/n<j+1+i
     ·rw [if_pos c,if_pos (show j<i+1\/n<j+1+(i+1) by omega)]
     ·rw [if_neg c,if_neg (show ¬ (j<i+1\/n<j+1+(i+1)) by omega)]
  simp (disch:=first|assumption|omega|(simp only [List.length_append,List.length_cons,List.length_nil];omega)) only [go_sem,reduceCtorEq,Nat.reduceEqDiff,Nat.reduceAdd,Nat.reduceSub,Nat.reduceMul,Nat.reduceLeDiff,Int.reduceLT,Int.reduceLE,Int.reduceEq,↓reduceIte,Int.reduceNeg,Int.reduceAdd,Int.reduceSub,Int.reduceMul,true_imp_iff,forall_const,Nat.mul_one,Int.reduceToNat,Nat.reducePow,Int.reducePow,Bool.true_and,Bool.false_and,Bool.and_false,hf,hlt',gx,gy,s1,s2,l1,l2,l3,ASt.set_set]
  exact ⟨i+1,by omega,by omega,⟨_,by simp [hMl],hM2,rfl⟩,rfl,by congr 1;omega⟩
 ·have hlt':¬ (i:Int)<(n:Int)-1-i:=by omega
  have hrev:M=L.reverse:=by
   apply List.ext_getElem?
   intro j
   rw [hM j]
   by_cases hj:j<n
   ·rw [List.getElem?_reverse (by omega),hn2]
    by_cases c:j<i\/n<j+1+i
    ·rw [if_pos c,if_pos hj]
    ·rw [if_neg c]
     congr 1
     omega
   ·rw [if_pos (by omega),if_neg hj,List.getElem?_eq_none (by rw [List.length_reverse];omega)]
  have tk:(M.map (AV.int .i32)).take n=M.map (AV.int .i32):=List.take_of_length_le (by omega)
  have hio:=intsOf_map M
  have ln:n<=M.length:=by omega
  rw [<-hrev]
  simp (disch:=first|assumption|omega|(simp only [List.length_append,List.length_cons,List.length_nil];omega)) only [go_sem,reduceCtorEq,Nat.reduceEqDiff,Nat.reduceAdd,Nat.reduceSub,Nat.reduceMul,Nat.reduceLeDiff,Int.reduceLT,Int.reduceLE,Int.reduceEq,↓reduceIte,Int.reduceNeg,Int.reduceAdd,Int.reduceSub,Int.reduceMul,true_imp_iff,forall_const,Nat.mul_one,Int.reduceToNat,Nat.reducePow,Int.reducePow,Bool.true_and,Bool.false_and,Bool.and_false,hf,hlt',tk,hio,ln,List.drop_zero]
  exact retC_by (by repeat' (first|exact Drop.refl _|with_reducible refine Drop.off ?_ (by assumption))) (.refl _) ⟨rfl,rfl⟩
theorem trim_ok17 {σ:ASt} (hM:MaxL σ) (s:List UInt8) (hs:s.length<=1000000):ACalls Tryz.prog 59 [.str s] σ fun v σ'=>v = .str (trimT s)/\σ'=σ:=by
 obtain ⟨m,hm⟩:=hM
 refine ACalls.of_below (u := .string ⟨⟨trimT s⟩⟩) (fun w vs hsim ha=>?_) fun w => .str _
 cases ha with
 | cons h1 h2=>
 cases h2;cases h1
 exact trim_world s hs w m (fix_ints hsim hm 0 m rfl)
theorem trimT_len (s:List UInt8):(trimT s).length<=2*s.length+1:=kept_join s
theorem xone_REVERSE (s:List UInt8) (hs:s.length<=200000):Pure Tryz.prog 36 [.str nREVERSE,.str s] (PV.text (revP s)).av:=by
 intro σ
 have h1:=xreverse_ok s (by omega)
 simp only [PV.av]
 unfold nREVERSE
 refine a36 (by simp) ?_
 simp (disch:=first|assumption|omega|(simp only [List.length_append,List.length_cons,List.length_nil];omega)) only [go_sem,reduceCtorEq,Nat.reduceEqDiff,Nat.reduceAdd,Nat.reduceSub,Nat.reduceMul,Nat.reduceLeDiff,Int.reduceLT,Int.reduceLE,Int.reduceEq,↓reduceIte,Int.reduceNeg,Int.reduceAdd,Int.reduceSub,Int.reduceMul,true_imp_iff,forall_const,Nat.mul_one,Int.reduceToNat,Nat.reducePow,Int.reducePow,Bool.true_and,Bool.false_and,Bool.and_false,nes_REVERSE]
 refine h1.use ?_
 simp (disch:=first|assumption|omega|(simp only [List.length_append,List.length_cons,List.length_nil];omega)) only [go_sem,reduceCtorEq,Nat.reduceEqDiff,Nat.reduceAdd,Nat.reduceSub,Nat.reduceMul,Nat.reduceLeDiff,Int.reduceLT,Int.reduceLE,Int.reduceEq,↓reduceIte,Int.reduceNeg,Int.reduceAdd,Int.reduceSub,Int.reduceMul,true_imp_iff,forall_const,Nat.mul_one,Int.reduceToNat,Nat.reducePow,Int.reducePow,Bool.true_and,Bool.false_and,Bool.and_false,nes_REVERSE]
 exact retC_by (.refl _) (.refl _) ⟨rfl,rfl⟩
theorem xone_TRIM {σ:ASt} (hM:MaxL σ) (s:List UInt8) (hs:s.length<=200000):ACalls Tryz.prog 36 [.str nTRIM,.str s] σ fun v σ'=>v=(PV.text (trimT s)).av/\σ'=σ:=by
 have h1:=trim_ok17 hM s (by omega)
 simp only [PV.av]
 unfold nTRIM
 refine a36 (by simp) ?_
 simp (disch:=first|assumption|omega|(simp only [List.length_append,List.length_cons,List.length_nil];omega)) only [go_sem,reduceCtorEq,Nat.reduceEqDiff,Nat.reduceAdd,Nat.reduceSub,Nat.reduceMul,Nat.reduceLeDiff,Int.reduceLT,Int.reduceLE,Int.reduceEq,↓reduceIte,Int.reduceNeg,Int.reduceAdd,Int.reduceSub,Int.reduceMul,true_imp_iff,forall_const,Nat.mul_one,Int.reduceToNat,Nat.reducePow,Int.reducePow,Bool.true_and,Bool.false_and,Bool.and_false,nes_TRIM]
 refine h1.mono ?_
 rintro v σ' ⟨rfl,rfl⟩
 simp (disch:=first|assumption|omega|(simp only [List.length_append,List.length_cons,List.length_nil];omega)) only [go_sem,reduceCtorEq,Nat.reduceEqDiff,Nat.reduceAdd,Nat.reduceSub,Nat.reduceMul,Nat.reduceLeDiff,Int.reduceLT,Int.reduceLE,Int.reduceEq,↓reduceIte,Int.reduceNeg,Int.reduceAdd,Int.reduceSub,Int.reduceMul,true_imp_iff,forall_const,Nat.mul_one,Int.reduceToNat,Nat.reducePow,Int.reducePow,Bool.true_and,Bool.false_and,Bool.and_false,nes_TRIM]
 exact retC_by (.refl _) (.refl _) ⟨rfl,rfl⟩
theorem rc_REVERSE {τ:ASt} {b:Nat} (hT:Tab τ) (s:List UInt8) (hs:s.length<=200000) (hb:τ b=rdO [.text s] 0) :
  ACalls Tryz.prog 15 [.ptr b 0,.str nREVERSE] τ fun v σ'=>v=(PV.text (revP s)).av/\σ'=τ.set b (rdO [.text s] 0):=by
 have h0:=xrtext_ok hT hb 0 rfl (v := .text s) trivial
 have h1:=xone_REVERSE s hs
 rw [show ((0:Nat):Int)=0 from rfl] at h0
 simp only [asTextP,seen] at h0
 generalize (PV.text (revP s)).av=W at *
 unfold nREVERSE at *
 refine a15 (by simp) ?_
 simp (disch:=first|assumption|omega|(simp only [List.length_append,List.length_cons,List.length_nil];omega)) only [go_sem,reduceCtorEq,Nat.reduceEqDiff,Nat.reduceAdd,Nat.reduceSub,Nat.reduceMul,Nat.reduceLeDiff,Int.reduceLT,Int.reduceLE,Int.reduceEq,↓reduceIte,Int.reduceNeg,Int.reduceAdd,Int.reduceSub,Int.reduceMul,true_imp_iff,forall_const,Nat.mul_one,Int.reduceToNat,Nat.reducePow,Int.reducePow,Bool.true_and,Bool.false_and,Bool.and_false,nes_REVERSE]
 refine h0.mono ?_
 rintro v σ' ⟨rfl,rfl⟩
 simp (disch:=first|assumption|omega|(simp only [List.length_append,List.length_cons,List.length_nil];omega)) only [go_sem,reduceCtorEq,Nat.reduceEqDiff,Nat.reduceAdd,Nat.reduceSub,Nat.reduceMul,Nat.reduceLeDiff,Int.reduceLT,Int.reduceLE,Int.reduceEq,↓reduceIte,Int.reduceNeg,Int.reduceAdd,Int.reduceSub,Int.reduceMul,true_imp_iff,forall_const,Nat.mul_one,Int.reduceToNat,Nat.reducePow,Int.reducePow,Bool.true_and,Bool.false_and,Bool.and_false,nes_REVERSE]
 refine h1.use ?_
 simp (disch:=first|assumption|omega|(simp only [List.length_append,List.length_cons,List.length_nil];omega)) only [go_sem,reduceCtorEq,Nat.reduceEqDiff,Nat.reduceAdd,Nat.reduceSub,Nat.reduceMul,Nat.reduceLeDiff,Int.reduceLT,Int.reduceLE,Int.reduceEq,↓reduceIte,Int.reduceNeg,Int.reduceAdd,Int.reduceSub,Int.reduceMul,true_imp_iff,forall_const,Nat.mul_one,Int.reduceToNat,Nat.reducePow,Int.reducePow,Bool.true_and,Bool.false_and,Bool.and_false,nes_REVERSE]
 exact retC_by (.refl _) (.refl _) ⟨rfl,rfl⟩
theorem maxl_keep {σ τ:ASt} (h:MaxL σ) (hk:∀ x r,σ x=some r->τ x=some r):MaxL τ:=by
 obtain ⟨m,hm⟩:=h
 exact ⟨m,hk _ _ hm⟩
theorem rc_TRIM {τ:ASt} {b:Nat} (hT:Tab τ) (hM:MaxL τ) (s:List UInt8) (hs:s.length<=200000) (hb:τ b=rdO [.text s] 0) :
  ACalls Tryz.prog 15 [.ptr b 0,.str nTRIM] τ fun v σ'=>v=(PV.text (trimT s)).av/\σ'=τ.set b (rdO [.text s] 0):=by
 have h0:=xrtext_ok hT hb 0 rfl (v := .text s) trivial
 have hM2:MaxL (τ.set b (rdO [.text s] 0)):=by rw [xset_self hb];exact hM
 have h1:=xone_TRIM hM2 s hs
 rw [show ((0:Nat):Int)=0 from rfl] at h0
 simp only [asTextP,seen] at h0
 generalize (PV.text (trimT s)).av=W at *
 unfold nTRIM at *
 refine a15 (by simp) ?_
 simp (disch:=first|assumption|omega|(simp only [List.length_append,List.length_cons,List.length_nil];omega)) only [go_sem,reduceCtorEq,Nat.reduceEqDiff,Nat.reduceAdd,Nat.reduceSub,Nat.reduceMul,Nat.reduceLeDiff,Int.reduceLT,Int.reduceLE,Int.reduceEq,↓reduceIte,Int.reduceNeg,Int.reduceAdd,Int.reduceSub,Int.reduceMul,true_imp_iff,forall_const,Nat.mul_one,Int.reduceToNat,Nat.reducePow,Int.reducePow,Bool.true_and,Bool.false_and,Bool.and_false,nes_TRIM]
 refine h0.mono ?_
 rintro v σ' ⟨rfl,rfl⟩
 simp (disch:=first|assumption|omega|(simp only [List.length_append,List.length_cons,List.length_nil];omega)) only [go_sem,reduceCtorEq,Nat.reduceEqDiff,Nat.reduceAdd,Nat.reduceSub,Nat.reduceMul,Nat.reduceLeDiff,Int.reduceLT,Int.reduceLE,Int.reduceEq,↓reduceIte,Int.reduceNeg,Int.reduceAdd,Int.reduceSub,Int.reduceMul,true_imp_iff,forall_const,Nat.mul_one,Int.reduceToNat,Nat.reducePow,Int.reducePow,Bool.true_and,Bool.false_and,Bool.and_false,nes_TRIM]
 refine h1.mono ?_
 rintro v σ' ⟨rfl,rfl⟩
 simp (disch:=first|assumption|omega|(simp only [List.length_append,List.length_cons,List.length_nil];omega)) only [go_sem,reduceCtorEq,Nat.reduceEqDiff,Nat.reduceAdd,Nat.reduceSub,Nat.reduceMul,Nat.reduceLeDiff,Int.reduceLT,Int.reduceLE,Int.reduceEq,↓reduceIte,Int.reduceNeg,Int.reduceAdd,Int.reduceSub,Int.reduceMul,true_imp_iff,forall_const,Nat.mul_one,Int.reduceToNat,Nat.reducePow,Int.reducePow,Bool.true_and,Bool.false_and,Bool.and_false,nes_TRIM]
 exact retC_by (.refl _) (.refl _) ⟨rfl,rfl⟩
section
variable {σ:ASt} (hT:Tab σ) (s:List UInt8) (hs:s.length<=200000)
include hT hs
theorem lc_UPPER:ACalls Tryz.prog 7 [.str nUPPER,.str s,.sl .shr []] σ fun v σ'=>v = .str (greatP s)/\σ'=σ:=by
 refine xl_ok hT nUPPER s [] (.text (greatP s)) (by decide) (fun τ hT _=>?_) trivial
 have h:=xcall_of hT nUPPER [.text s] _ _ (by decide) (by show (limX nUPPER).1<=1;decide) (by show 1<=(limX nUPPER).2;decide) (fun b τ hT hb _=>rc_UPPER hT s hs hb)
 rw [if_pos rfl] at h
 exact h
theorem lc_LOWER:ACalls Tryz.prog 7 [.str nLOWER,.str s,.sl .shr []] σ fun v σ'=>v = .str (smallP s)/\σ'=σ:=by
 refine xl_ok hT nLOWER s [] (.text (smallP s)) (by decide) (fun τ hT _=>?_) trivial
 have h:=xcall_of hT nLOWER [.text s] _ _ (by decide) (by show (limX nLOWER).1<=1;decide) (by show 1<=(limX nLOWER).2;decide) (fun b τ hT hb _=>rc_LOWER hT s hs hb)
 rw [if_pos rfl] at h
 exact h
theorem lc_PROPER:ACalls Tryz.prog 7 [.str nPROPER,.str s,.sl .shr []] σ fun v σ'=>v = .str (propP s)/\σ'=σ:=by
 refine xl_ok hT nPROPER s [] (.text (propP s)) (by decide) (fun τ hT _=>?_) trivial
 have h:=xcall_of hT nPROPER [.text s] _ _ (by decide) (by show (limX nPROPER).1<=1;decide) (by show 1<=(limX nPROPER).2;decide) (fun b τ hT hb _=>rc_PROPER hT s hs hb)
 rw [if_pos rfl] at h
 exact h
theorem lc_REVERSE:ACalls Tryz.prog 7 [.str nREVERSE,.str s,.sl .shr []] σ fun v σ'=>v = .str (revP s)/\σ'=σ:=by
 refine xl_ok hT nREVERSE s [] (.text (revP s)) (by decide) (fun τ hT _=>?_) trivial
 have h:=xcall_of hT nREVERSE [.text s] _ _ (by decide) (by show (limX nREVERSE).1<=1;decide) (by show 1<=(limX nREVERSE).2;decide) (fun b τ hT hb _=>rc_REVERSE hT s hs hb)
 rw [if_pos rfl] at h
 exact h
theorem lc_TRIM (hM:MaxL σ):ACalls Tryz.prog 7 [.str nTRIM,.str s,.sl .shr []] σ fun v σ'=>v = .str (trimT s)/\σ'=σ:=by
 refine xl_ok hT nTRIM s [] (.text (trimT s)) (by decide) (fun τ hT hk=>?_) trivial
 have h:=xcall_of hT nTRIM [.text s] _ _ (by decide) (by show (limX nTRIM).1<=1;decide) (by show 1<=(limX nTRIM).2;decide) (fun b τ' hT hb hk2=>rc_TRIM hT (maxl_keep (maxl_keep hM hk) hk2) s hs hb)
 rw [if_pos rfl] at h
 exact h
end
theorem revP_len {s:List UInt8} (h:Whole s):(revP s).length=s.length:=by
 rw [rev_pcs h,List.length_flatten,List.map_reverse,List.sum_reverse,← List.length_flatten,pcs_flat]
set_option maxHeartbeats 1000000 in
theorem TextsTurns_any {σ:ASt} (hT:Tab σ) (hU:U8 σ) (hM:MaxL σ) (s:List UInt8) :
  ACalls Tryz.prog 3 [.str s] σ fun v σ'=>v = .bool true/\σ'=σ:=by
 have hA:=xawake_ok hT hU
 have hc:Pure Tryz.prog 4 [.str s,.int .i64 200] (.str (s.take 200)):=cut_ok s 200
 have hl:(s.take 200).length<=200:=by rw [List.length_take];omega
 generalize s.take 200=t at *
 have hG:Pure Tryz.prog 5 [.str t] (sgAV t):=rsigns_ok _ (by omega)
 unfold sgAV at hG
 cases hsg:sgT t with
 | none=>
   rw [hsg] at hG
   dsimp only at hG
   refine a3 (by simp) ?_
   simp (disch:=first|assumption|omega|(simp only [List.length_append,List.length_cons,List.length_nil];omega)) only [go_sem,reduceCtorEq,Nat.reduceEqDiff,Nat.reduceAdd,Nat.reduceSub,Nat.reduceMul,Nat.reduceLeDiff,Int.reduceLT,Int.reduceLE,Int.reduceEq,↓reduceIte,Int.reduceNeg,Int.reduceAdd,Int.reduceSub,Int.reduceMul,true_imp_iff,forall_const,Nat.mul_one,Int.reduceToNat,Nat.reducePow,Int.reducePow,Bool.true_and,Bool.false_and,Bool.and_false]
   refine hc.use ?_
   simp (disch:=first|assumption|omega|(simp only [List.length_append,List.length_cons,List.length_nil];omega)) only [go_sem,reduceCtorEq,Nat.reduceEqDiff,Nat.reduceAdd,Nat.reduceSub,Nat.reduceMul,Nat.reduceLeDiff,Int.reduceLT,Int.reduceLE,Int.reduceEq,↓reduceIte,Int.reduceNeg,Int.reduceAdd,Int.reduceSub,Int.reduceMul,true_imp_iff,forall_const,Nat.mul_one,Int.reduceToNat,Nat.reducePow,Int.reducePow,Bool.true_and,Bool.false_and,Bool.and_false]
   refine hG.use ?_
   simp (disch:=first|assumption|omega|(simp only [List.length_append,List.length_cons,List.length_nil];omega)) only [go_sem,reduceCtorEq,Nat.reduceEqDiff,Nat.reduceAdd,Nat.reduceSub,Nat.reduceMul,Nat.reduceLeDiff,Int.reduceLT,Int.reduceLE,Int.reduceEq,↓reduceIte,Int.reduceNeg,Int.reduceAdd,Int.reduceSub,Int.reduceMul,true_imp_iff,forall_const,Nat.mul_one,Int.reduceToNat,Nat.reducePow,Int.reducePow,Bool.true_and,Bool.false_and,Bool.and_false]
   refine hA.mono ?_
   rintro v σ' ⟨rfl,rfl⟩
   simp (disch:=first|assumption|omega|(simp only [List.length_append,List.length_cons,List.length_nil];omega)) only [go_sem,reduceCtorEq,Nat.reduceEqDiff,Nat.reduceAdd,Nat.reduceSub,Nat.reduceMul,Nat.reduceLeDiff,Int.reduceLT,Int.reduceLE,Int.reduceEq,↓reduceIte,Int.reduceNeg,Int.reduceAdd,Int.reduceSub,Int.reduceMul,true_imp_iff,forall_const,Nat.mul_one,Int.reduceToNat,Nat.reducePow,Int.reducePow,Bool.true_and,Bool.false_and,Bool.and_false]
   exact retC_by (.refl _) (.refl _) ⟨rfl,rfl⟩
 | some m=>
   rw [hsg] at hG
   dsimp only at hG
   obtain ⟨hw,hm⟩:=sgT_whole t m hsg
   have e1:=lc_UPPER hT t (by omega)
   have e2:=lc_LOWER hT t (by omega)
   have e3:=lc_REVERSE hT t (by omega)
   have e4:=lc_REVERSE hT (revP t) (by rw [revP_len hw];omega)
   have lg:(greatP t).length=t.length:=greatP_len t
   have ls:(smallP t).length=t.length:=smallP_len t
   have e5:=lc_UPPER hT (smallP t) (by omega)
   have e6:=lc_LOWER hT (greatP t) (by omega)
   have e7:=lc_TRIM hT t (by omega) hM
   have e8:=lc_TRIM hT (trimT t) (by have:=trimT_len t;omega) hM
   have e9:=lc_PROPER hT (greatP t) (by omega)
   have e10:=lc_PROPER hT (smallP t) (by omega)
   rw [rev_law hw] at e4
   rw [great_small] at e5
   rw [small_great] at e6
   rw [trim_law] at e8
   rw [proper_law hw] at e9
   generalize greatP t=G at *
   generalize smallP t=S at *
   generalize revP t=R at *
   generalize trimT t=Q at *
   generalize propP S=O at *
   unfold nUPPER at e1 e5
   unfold nLOWER at e2 e6
   unfold nREVERSE at e3 e4
   unfold nTRIM at e7 e8
   unfold nPROPER at e9 e10
   refine a3 (by simp) ?_
   simp (disch:=first|assumption|omega|(simp only [List.length_append,List.length_cons,List.length_nil];omega)) only [go_sem,reduceCtorEq,Nat.reduceEqDiff,Nat.reduceAdd,Nat.reduceSub,Nat.reduceMul,Nat.reduceLeDiff,Int.reduceLT,Int.reduceLE,Int.reduceEq,↓reduceIte,Int.reduceNeg,Int.reduceAdd,Int.reduceSub,Int.reduceMul,true_imp_iff,forall_const,Nat.mul_one,Int.reduceToNat,Nat.reducePow,Int.reducePow,Bool.true_and,Bool.false_and,Bool.and_false]
   refine hc.use ?_
   simp (disch:=first|assumption|omega|(simp only [List.length_append,List.length_cons,List.length_nil];omega)) only [go_sem,reduceCtorEq,Nat.reduceEqDiff,Nat.reduceAdd,Nat.reduceSub,Nat.reduceMul,Nat.reduceLeDiff,Int.reduceLT,Int.reduceLE,Int.reduceEq,↓reduceIte,Int.reduceNeg,Int.reduceAdd,Int.reduceSub,Int.reduceMul,true_imp_iff,forall_const,Nat.mul_one,Int.reduceToNat,Nat.reducePow,Int.reducePow,Bool.true_and,Bool.false_and,Bool.and_false]
   refine hG.use ?_
   simp (disch:=first|assumption|omega|(simp only [List.length_append,List.length_cons,List.length_nil];omega)) only [go_sem,reduceCtorEq,Nat.reduceEqDiff,Nat.reduceAdd,Nat.reduceSub,Nat.reduceMul,Nat.reduceLeDiff,Int.reduceLT,Int.reduceLE,Int.reduceEq,↓reduceIte,Int.reduceNeg,Int.reduceAdd,Int.reduceSub,Int.reduceMul,true_imp_iff,forall_const,Nat.mul_one,Int.reduceToNat,Nat.reducePow,Int.reducePow,Bool.true_and,Bool.false_and,Bool.and_false]
   refine ACalls.shr rfl (e1.mono ?_)
   rintro v σ' ⟨rfl,rfl⟩
   simp (disch:=first|assumption|omega|(simp only [List.length_append,List.length_cons,List.length_nil];omega)) only [go_sem,reduceCtorEq,Nat.reduceEqDiff,Nat.reduceAdd,Nat.reduceSub,Nat.reduceMul,Nat.reduceLeDiff,Int.reduceLT,Int.reduceLE,Int.reduceEq,↓reduceIte,Int.reduceNeg,Int.reduceAdd,Int.reduceSub,Int.reduceMul,true_imp_iff,forall_const,Nat.mul_one,Int.reduceToNat,Nat.reducePow,Int.reducePow,Bool.true_and,Bool.false_and,Bool.and_false]
   refine ACalls.shr rfl (e2.mono ?_)
   rintro v σ' ⟨rfl,rfl⟩
   simp (disch:=first|assumption|omega|(simp only [List.length_append,List.length_cons,List.length_nil];omega)) only [go_sem,reduceCtorEq,Nat.reduceEqDiff,Nat.reduceAdd,Nat.reduceSub,Nat.reduceMul,Nat.reduceLeDiff,Int.reduceLT,Int.reduceLE,Int.reduceEq,↓reduceIte,Int.reduceNeg,Int.reduceAdd,Int.reduceSub,Int.reduceMul,true_imp_iff,forall_const,Nat.mul_one,Int.reduceToNat,Nat.reducePow,Int.reducePow,Bool.true_and,Bool.false_and,Bool.and_false]
   refine hA.mono ?_
   rintro v σ' ⟨rfl,rfl⟩
   simp (disch:=first|assumption|omega|(simp only [List.length_append,List.length_cons,List.length_nil];omega)) only [go_sem,reduceCtorEq,Nat.reduceEqDiff,Nat.reduceAdd,Nat.reduceSub,Nat.reduceMul,Nat.reduceLeDiff,Int.reduceLT,Int.reduceLE,Int.reduceEq,↓reduceIte,Int.reduceNeg,Int.reduceAdd,Int.reduceSub,Int.reduceMul,true_imp_iff,forall_const,Nat.mul_one,Int.reduceToNat,Nat.reducePow,Int.reducePow,Bool.true_and,Bool.false_and,Bool.and_false]
   refine ACalls.shr rfl (e3.mono ?_)
   rintro v σ' ⟨rfl,rfl⟩
   simp (disch:=first|assumption|omega|(simp only [List.length_append,List.length_cons,List.length_nil];omega)) only [go_sem,reduceCtorEq,Nat.reduceEqDiff,Nat.reduceAdd,Nat.reduceSub,Nat.reduceMul,Nat.reduceLeDiff,Int.reduceLT,Int.reduceLE,Int.reduceEq,↓reduceIte,Int.reduceNeg,Int.reduceAdd,Int.reduceSub,Int.reduceMul,true_imp_iff,forall_const,Nat.mul_one,Int.reduceToNat,Nat.reducePow,Int.reducePow,Bool.true_and,Bool.false_and,Bool.and_false]
   refine ACalls.shr rfl (e4.mono ?_)
   rintro v σ' ⟨rfl,rfl⟩
   simp (disch:=first|assumption|omega|(simp only [List.length_append,List.length_cons,List.length_nil];omega)) only [go_sem,reduceCtorEq,Nat.reduceEqDiff,Nat.reduceAdd,Nat.reduceSub,Nat.reduceMul,Nat.reduceLeDiff,Int.reduceLT,Int.reduceLE,Int.reduceEq,↓reduceIte,Int.reduceNeg,Int.reduceAdd,Int.reduceSub,Int.reduceMul,true_imp_iff,forall_const,Nat.mul_one,Int.reduceToNat,Nat.reducePow,Int.reducePow,Bool.true_and,Bool.false_and,Bool.and_false]
   refine ACalls.shr rfl (e5.mono ?_)
   rintro v σ' ⟨rfl,rfl⟩
   simp (disch:=first|assumption|omega|(simp only [List.length_append,List.length_cons,List.length_nil];omega)) only [go_sem,reduceCtorEq,Nat.reduceEqDiff,Nat.reduceAdd,Nat.reduceSub,Nat.reduceMul,Nat.reduceLeDiff,Int.reduceLT,Int.reduceLE,Int.reduceEq,↓reduceIte,Int.reduceNeg,Int.reduceAdd,Int.reduceSub,Int.reduceMul,true_imp_iff,forall_const,Nat.mul_one,Int.reduceToNat,Nat.reducePow,Int.reducePow,Bool.true_and,Bool.false_and,Bool.and_false]
   refine ACalls.shr rfl (e6.mono ?_)
   rintro v σ' ⟨rfl,rfl⟩
   simp (disch:=first|assumption|omega|(simp only [List.length_append,List.length_cons,List.length_nil];omega)) only [go_sem,reduceCtorEq,Nat.reduceEqDiff,Nat.reduceAdd,Nat.reduceSub,Nat.reduceMul,Nat.reduceLeDiff,Int.reduceLT,Int.reduceLE,Int.reduceEq,↓reduceIte,Int.reduceNeg,Int.reduceAdd,Int.reduceSub,Int.reduceMul,true_imp_iff,forall_const,Nat.mul_one,Int.reduceToNat,Nat.reducePow,Int.reducePow,Bool.true_and,Bool.false_and,Bool.and_false]
   refine ACalls.shr rfl (e7.mono ?_)
   rintro v σ' ⟨rfl,rfl⟩
   simp (disch:=first|assumption|omega|(simp only [List.length_append,List.length_cons,List.length_nil];omega)) only [go_sem,reduceCtorEq,Nat.reduceEqDiff,Nat.reduceAdd,Nat.reduceSub,Nat.reduceMul,Nat.reduceLeDiff,Int.reduceLT,Int.reduceLE,Int.reduceEq,↓reduceIte,Int.reduceNeg,Int.reduceAdd,Int.reduceSub,Int.reduceMul,true_imp_iff,forall_const,Nat.mul_one,Int.reduceToNat,Nat.reducePow,Int.reducePow,Bool.true_and,Bool.false_and,Bool.and_false]
   refine ACalls.shr rfl (e8.mono ?_)
   rintro v σ' ⟨rfl,rfl⟩
   simp (disch:=first|assumption|omega|(simp only [List.length_append,List.length_cons,List.length_nil];omega)) only [go_sem,reduceCtorEq,Nat.reduceEqDiff,Nat.reduceAdd,Nat.reduceSub,Nat.reduceMul,Nat.reduceLeDiff,Int.reduceLT,Int.reduceLE,Int.reduceEq,↓reduceIte,Int.reduceNeg,Int.reduceAdd,Int.reduceSub,Int.reduceMul,true_imp_iff,forall_const,Nat.mul_one,Int.reduceToNat,Nat.reducePow,Int.reducePow,Bool.true_and,Bool.false_and,Bool.and_false]
   refine ACalls.shr rfl (e7.mono ?_)
   rintro v σ' ⟨rfl,rfl⟩
   simp (disch:=first|assumption|omega|(simp only [List.length_append,List.length_cons,List.length_nil];omega)) only [go_sem,reduceCtorEq,Nat.reduceEqDiff,Nat.reduceAdd,Nat.reduceSub,Nat.reduceMul,Nat.reduceLeDiff,Int.reduceLT,Int.reduceLE,Int.reduceEq,↓reduceIte,Int.reduceNeg,Int.reduceAdd,Int.reduceSub,Int.reduceMul,true_imp_iff,forall_const,Nat.mul_one,Int.reduceToNat,Nat.reducePow,Int.reducePow,Bool.true_and,Bool.false_and,Bool.and_false]
   refine ACalls.shr rfl (e9.mono ?_)
   rintro v σ' ⟨rfl,rfl⟩
   simp (disch:=first|assumption|omega|(simp only [List.length_append,List.length_cons,List.length_nil];omega)) only [go_sem,reduceCtorEq,Nat.reduceEqDiff,Nat.reduceAdd,Nat.reduceSub,Nat.reduceMul,Nat.reduceLeDiff,Int.reduceLT,Int.reduceLE,Int.reduceEq,↓reduceIte,Int.reduceNeg,Int.reduceAdd,Int.reduceSub,Int.reduceMul,true_imp_iff,forall_const,Nat.mul_one,Int.reduceToNat,Nat.reducePow,Int.reducePow,Bool.true_and,Bool.false_and,Bool.and_false]
   refine ACalls.shr rfl (e10.mono ?_)
   rintro v σ' ⟨rfl,rfl⟩
   simp (disch:=first|assumption|omega|(simp only [List.length_append,List.length_cons,List.length_nil];omega)) only [go_sem,reduceCtorEq,Nat.reduceEqDiff,Nat.reduceAdd,Nat.reduceSub,Nat.reduceMul,Nat.reduceLeDiff,Int.reduceLT,Int.reduceLE,Int.reduceEq,↓reduceIte,Int.reduceNeg,Int.reduceAdd,Int.reduceSub,Int.reduceMul,true_imp_iff,forall_const,Nat.mul_one,Int.reduceToNat,Nat.reducePow,Int.reducePow,Bool.true_and,Bool.false_and,Bool.and_false]
   exact retC_by (.refl _) (.refl _) ⟨rfl,rfl⟩
end Go.A
namespace Go.Proofs.YtigdnpbpajgphaaGreatDoor
open Go Go.ChangeShapes Go.WideShapes Go.ChangeAt Go.RowKit Go.A Go.Lib Go.Shelf
theorem row_own:ownKnob Tryz.prog.godebug=none:=by kernel_rfl
theorem row_laid:laidOutB Tryz.prog=true:=by kernel_rfl
theorem first_eq:Rows.laid_unicode_utf8_first=firstData:=by kernel_rfl
theorem acc_eq:(Rows.laid_unicode_utf8_acceptRanges:DataW Unit)=acceptData:=by kernel_rfl
theorem u8_extra:U8Extra Tryz.prog Tryz.lays260_ren:=⟨by kernel_rfl,by kernel_rfl,by kernel_rfl,by kernel_rfl,by kernel_rfl,by kernel_rfl,by kernel_rfl⟩
theorem var_size {P:Program} {w:World} {n:String} {d:DataW Unit} (h:VarReads P w n d) {g:Nat} (hg:P.globalNamed n=some g) {t e:TypeId} {k:Nat} (hty:(P.globals[g]?).map (·.type)=some t) (ht:P.underlying t=some (.array k e)) :
  ∃ cs T fr,w.heap[g]? = some (.cells cs T fr)/\cs.size=P.cellsOf t:=by
 obtain ⟨g',t',cs,fuel,p,hg',hty',hvar,hd⟩:=h
 obtain rfl:=Option.some.inj (hg.symm.trans hg')
 obtain rfl:=Option.some.inj (hty.symm.trans hty')
 have hlen:cs.toList.length=P.cellsOf t:=by
  cases fuel with
  | zero=>simp [DataW.trod] at hd
  | succ fuel=>
    simp only [DataW.trod,ht] at hd
    split at hd
    ·assumption
    ·cases hd
 unfold World.var? at hvar
 rw [hg,Option.bind_some] at hvar
 split at hvar
 ·rename_i cs' T fr hheap
  injection hvar with hvar
  subst hvar
  exact ⟨_,_,_,hheap,by simpa using hlen⟩
 ·cases hvar
theorem ints_reps {σ:ASt} {w:World} {k:IntKind}:∀ zs:List Int,Reps σ w (zs.map (AV.int k)) (zs.map (Value.int k))
 | [] => .nil
 | z::zs => .cons (.int k z) (ints_reps zs)
theorem fix_ok {σ:ASt} {W:World} {b:Nat} {zs:List Int} (hs:σ b=some (.fix (zs.map (AV.int .u8)))) {cs:Array Value} {T:TypeId} {fr:Nat×Nat} (hh:W.heap[b]? = some (.cells cs T fr)) (hsz:cs.size=zs.length)
  (hc:∀ j z,zs[j]? = some z->W.cell? ⟨b,j,none⟩=some (.int .u8 z)):RoleOk σ W b (.fix (zs.map (AV.int .u8))):=by
 have hlt:b<W.heap.size:=(Array.getElem?_eq_some_iff.1 hh).1
 refine ⟨At.mk' (ints_reps _) (fun j _=>⟨hlt,.inr (.inl ⟨_,hs⟩)⟩) (fun j v hj=>?_),cs,T,fr,hh,by simpa using hsz⟩
 rw [List.getElem?_map] at hj
 obtain ⟨z,hz,rfl⟩:=Option.map_eq_some_iff.1 hj
 rw [Nat.zero_add]
 exact hc j z hz
def stOf:List (Nat×List AV)->ASt
 | [],_=>none
 | p::ps,b=>if b=p.1 then some (.fix p.2) else stOf ps b
theorem stOf_fix:∀ {ps:List (Nat×List AV)} {b:Nat} {r:Role},stOf ps b=some r->∃ l,r = .fix l
 | [],_,_,h=>by cases h
 | p::ps,b,r,h=>by
   simp only [stOf] at h
   split at h
   ·injection h with h;exact ⟨_,h.symm⟩
   ·exact stOf_fix h
theorem stOf_mem:∀ {ps:List (Nat×List AV)} {b:Nat} {r:Role},stOf ps b=some r->∃ l,(b,l)∈ps/\r = .fix l
 | [],_,_,h=>by cases h
 | p::ps,b,r,h=>by
   simp only [stOf] at h
   split at h
   ·rename_i hb
    injection h with h
    subst hb
    exact ⟨p.2,List.mem_cons_self,h.symm⟩
   ·obtain ⟨l,hl,he⟩:=stOf_mem h
    exact ⟨l,List.mem_cons_of_mem _ hl,he⟩
theorem still_fix {σ:ASt} (hfx:∀ b r,σ b=some r->∃ l,r = .fix l) {w:World} {b o:Nat} (h:b<w.heap.size):Still σ w b o:=by
 refine ⟨h,?_⟩
 cases hb:σ b with
 | none=>exact .inl rfl
 | some r=>obtain ⟨l,rfl⟩:=hfx b r hb;exact .inr (.inl ⟨_,rfl⟩)
end Go.Proofs.YtigdnpbpajgphaaGreatDoor
namespace Go.A
section
variable {σ:ASt} {w:World}
theorem Still.fixed (hfx:∀ b r,σ b=some r->∃ l,r = .fix l) {b o:Nat} (h:Still noRole w b o):Still σ w b o:=by
 refine ⟨h.1,?_⟩
 cases hb:σ b with
 | none=>exact .inl rfl
 | some r=>obtain ⟨l,rfl⟩:=hfx b r hb;exact .inr (.inl ⟨_,rfl⟩)
theorem Stands.fixed (hfx:∀ b r,σ b=some r->∃ l,r = .fix l) (b:Nat):Stands σ b:=by
 refine ⟨fun cs h=>?_,fun l p h=>?_,fun T cs h=>?_⟩<;>(obtain ⟨l,hl⟩:=hfx b _ h;cases hl)
theorem SK.ok_fixed (hfx:∀ b r,σ b=some r->∃ l,r = .fix l) {k:SK} {b o n c sz:Nat} (h:k.ok noRole w b o n c sz):k.ok σ w b o n c sz:=by
 cases k with
 | shr=>trivial
 | full=>exact h
 | tok t s T=>exact ⟨h.1,h.2.1,h.2.2.1,h.2.2.2.1,Stands.fixed hfx b⟩
mutual
theorem Rep.fixed (hfx:∀ b r,σ b=some r->∃ l,r = .fix l):∀ {a:AV} {v:Value},Rep noRole w a v->Rep σ w a v
 | _,_,.any v => .any v
 | _,_,.bool b => .bool b
 | _,_,.int k n => .int k n
 | _,_,.str l => .str l
 | _,_,.ptr b o => .ptr b o
 | _,_,.imm h1 => .imm (h1.fixed hfx)
 | _,_,.nilp => .nilp
 | _,_,.slE A c => .slE A c
 | _,_,.slN => .slN
 | _,_,.sl h1 h2 h3 h4 h5 => .sl (h1.fixed hfx) h2 h3 (SK.ok_fixed hfx h4) h5
 | _,_,.msl b o n c => .msl b o n c
 | _,_,.agg h1 => .agg (h1.fixed hfx)
 | _,_,.tuple h1 => .tuple (h1.fixed hfx)
 | _,_,.iface h1 => .iface (h1.fixed hfx)
 | _,_,.nili => .nili
 | _,_,.func h1 h2 => .func (h1.fixed hfx) (h2.fixed hfx)
 | _,_,.nilf => .nilf
theorem Reps.fixed (hfx:∀ b r,σ b=some r->∃ l,r = .fix l):∀ {avs:List AV} {vs:List Value},Reps noRole w avs vs->Reps σ w avs vs
 | _,_,.nil => .nil
 | _,_,.cons h1 h2 => .cons (h1.fixed hfx) (h2.fixed hfx)
theorem At.fixed (hfx:∀ b r,σ b=some r->∃ l,r = .fix l):∀ {b o:Nat} {avs:List AV},At noRole w b o avs->At σ w b o avs
 | _,_,_,.nil b o => .nil b o
 | _,_,_,.cons h1 h2 h3 h4 => .cons (h1.fixed hfx) h2 (h3.fixed hfx) (h4.fixed hfx)
theorem Row.fixed (hfx:∀ b r,σ b=some r->∃ l,r = .fix l):∀ {b o sz:Nat} {avs:List AV},Row noRole w b o sz avs->Row σ w b o sz avs
 | _,_,_,_,.nil b o sz => .nil b o sz
 | _,_,_,_,.cons h1 h2 h3 => .cons h1 (h2.fixed hfx) (h3.fixed hfx)
end
end
end Go.A
namespace Go.Proofs.YtigdnpbpajgphaaGreatDoor
open Go Go.ChangeShapes Go.WideShapes Go.ChangeAt Go.RowKit Go.A Go.Lib Go.Shelf
theorem u8_roles {σ : ASt} {W : World} (h3 : VarReads Tryz.prog W "unicode/utf8.first" firstData) (h4 : VarReads Tryz.prog W "unicode/utf8.acceptRanges" acceptData) :
  (σ 1=some (.fix (firstTab.map (AV.int .u8)))->RoleOk σ W 1 (.fix (firstTab.map (AV.int .u8))))/\(σ 2=some (.fix (accTab.map (AV.int .u8)))->RoleOk σ W 2 (.fix (accTab.map (AV.int .u8)))):=by
 have hT:=utf8Tabs_of_reads (ρ:=Tryz.lays260_ren) Tryz.lays260 u8_extra h3 h4
 obtain ⟨hT1,hT2⟩:=hT
 have hT1:∀ c,c<256->W.cell? ⟨1,c,none⟩=some (.int .u8 (firstT c)):=hT1
 have hT2:∀ i,i<16->W.cell? ⟨2,2*i,none⟩=some (.int .u8 (accLo i))/\W.cell? ⟨2,2*i+1,none⟩=some (.int .u8 (accHi i)):=hT2
 constructor
 ·intro hs
  obtain ⟨cs,T,fr,hh,hsz⟩:=var_size h3 (g:=1) (by kernel_rfl) u8_extra.y3 (Tryz.lays260.t119)
  refine fix_ok hs hh (hsz.trans (by kernel_rfl)) fun j z hj=>?_
  have hl:=(List.getElem?_eq_some_iff.1 hj).1
  simp only [firstTab,List.length_map,List.length_range] at hl
  simp only [firstTab,List.getElem?_map,List.getElem?_range hl,Option.map_some,Option.some.injEq] at hj
  subst hj
  exact hT1 j hl
 ·intro hs
  obtain ⟨cs,T,fr,hh,hsz⟩:=var_size h4 (g:=2) (by kernel_rfl) u8_extra.y4 (Tryz.lays260.t139)
  refine fix_ok hs hh (hsz.trans (by kernel_rfl)) fun j z hj=>?_
  have hl:=(List.getElem?_eq_some_iff.1 hj).1
  have key:∀ j,j<32->accTab[j]? = some (if j % 2=0 then (accLo (j / 2):Int) else accHi (j / 2)):=by decide
  have hl:j<32:=hl
  rw [key j hl] at hj
  injection hj with hj
  subst hj
  obtain ⟨g1,g2⟩:=hT2 (j / 2) (by omega)
  split
  ·rw [show 2*(j / 2)=j by omega] at g1;exact g1
  ·rw [show 2*(j / 2)+1=j by omega] at g2;exact g2
theorem pow_role {σ : ASt} {W : World} (hfx : ∀ b r, σ b = some r → ∃ l, r = .fix l) (h3 : VarReads Tryz.prog W "internal/strconv.uint64pow10" (Lib.tabData .u64 Lib.pow10Tab)) :
  RoleOk σ W 4 (.fix (Lib.pow10Tab.map (AV.int .u64))):=by
 obtain ⟨g',t',cs,fuel,p,hg',ht',hvar,hd⟩:=h3
 obtain rfl := Option.some.inj ((show Tryz.prog.globalNamed "internal/strconv.uint64pow10" = some 4 by kernel_rfl).symm.trans hg')
 obtain rfl:=Option.some.inj ((show (Tryz.prog.globals[4]?).map (·.type)=some 159 by kernel_rfl).symm.trans ht')
 have hcs:=cells_of_tab (n:=20) (e:=107) (k := .u64) (by kernel_rfl) (by kernel_rfl) (by kernel_rfl) (by kernel_rfl) hd
 unfold World.var? at hvar
 rw [show Tryz.prog.globalNamed "internal/strconv.uint64pow10" = some 4 by kernel_rfl, Option.bind_some] at hvar
 split at hvar
 ·rename_i cs' T fr hheap
  injection hvar with hvar
  have hlt:4<W.heap.size:=(Array.getElem?_eq_some_iff.1 hheap).1
  have he:cs'=(Lib.pow10Tab.map fun z=>Value.int .u64 z).toArray:=by rw [hvar];exact Array.ext' (by simpa using hcs)
  refine ⟨At.mk' (ints_reps _) (fun j _=>still_fix hfx hlt) (fun j v hj=>?_),cs',T,fr,hheap,by rw [he];simp⟩
  simp only [World.cell?,hheap,Nat.zero_add,he]
  simpa using hj
 ·cases hvar
end Go.Proofs.YtigdnpbpajgphaaGreatDoor
namespace Go.Proofs.YtigdnpbpajgphaaGreatDoor
open Go Go.ChangeShapes Go.WideShapes Go.ChangeAt Go.RowKit Go.A Go.Lib Go.Shelf
def laidU : List (String × DataW Unit) := [("math/bits.deBruijn32tab", Rows.laid_math_bits_deBruijn32tab), ("math/bits.deBruijn64tab", Rows.laid_math_bits_deBruijn64tab), ("internal/strconv.uint64pow10", Rows.laid_internal_strconv_uint64pow10), ("unicode/utf8.acceptRanges", Rows.laid_unicode_utf8_acceptRanges), ("tabular/deci.tens", Rows.laid_tabular_deci_tens), ("unicode/utf8.first", Rows.laid_unicode_utf8_first)]
def uPs:List (Nat×List AV) := [(1,firstTab.map (AV.int .u8)),(2,accTab.map (AV.int .u8)),(4,Lib.pow10Tab.map (AV.int .u64))]
def uSt:ASt:=stOf uPs
end Go.Proofs.YtigdnpbpajgphaaGreatDoor
