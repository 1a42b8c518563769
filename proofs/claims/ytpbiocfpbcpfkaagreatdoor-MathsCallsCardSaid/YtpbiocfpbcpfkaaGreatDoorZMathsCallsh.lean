/- Part 8 of what MathsCalls leans on: CodeJ Ja Jb Jc Jd Je CodeRv. -/
import Derived.Test.YtpbiocfpbcpfkaaGreatDoorProg
import Derived.KernelRfl
import Derived.Test.YtpbiocfpbcpfkaaGreatDoorZMathsCallsg
set_option linter.defProp false
set_option linter.unusedSimpArgs false
set_option linter.unusedVariables false
set_option maxRecDepth 100000
namespace Go.A
open Go.Proofs
/-! 7: tabular/maths.Has -/
def c7_5:ACode := .seq (.ops [ oq 2 (.mv (.v (.bool false)))]) (.seq (.ops [ oq 6 (.mv (.t 0)),oe 7 (.call 15 [(.t 6)]),oq 5 (.mv (.t 7)),oq 8 (.ext 0 (.t 5)),oq 9 (.ext 1 (.t 5)),oq 3 (.mv (.t 8)),oq 4 (.mv (.t 9))]) (.seq (.ops [ oq 10 (.mv (.t 4)),oq 11 (.bin .gtr (.t 10) (.v (.int .i64 0))),oq 2 (.mv (.t 11))]) .ret))
@[go_sem] def c7_5_wp:=wp_of c7_5.eq_1
def c7:AFn:=⟨12,[.t 2],c7_5⟩
theorem c7_ok:compF Tryz.prog Tryz.f7=some c7:=by kernel_rfl
theorem a7 {args:List AV} {σ:ASt} {R:AV->ASt->Prop} (hl:args.length<=12) (h:c7_5.wp Tryz.prog (RetQ [.t 2] R) (init args) σ):ACalls Tryz.prog 7 args σ R:=acalls_of Tryz.func7 c7_ok hl h
/-! 10: tabular/maths.Call -/
def c10_100:ACode := .cond (.t 99) (.seq (.seq (.ops [ oq 101 (.mv (.t 7)),oq 102 (.ia 1 (.t 101) (.v (.int .i64 1))),oq 103 (.ld none (.t 102)),oq 104 (.bin .eql (.t 103) (.v (.int .i64 0)))]) (.cond (.t 104) (.seq (.ops [ oq 105 (.mki 45 (.v (.int .i64 1))),oq 4 (.mv (.t 105))]) .ret) .skip)) (.seq (.ops [ oq 106 (.mv (.t 9)),oq 107 (.mv (.t 7)),oq 108 (.ia 1 (.t 107) (.v (.int .i64 1))),oq 109 (.ld none (.t 108)),oe 110 (.call 29 [(.t 106),(.t 109)]),oq 111 (.ext 0 (.t 110)),oq 112 (.ext 1 (.t 110)),oe 113 (.call 20 [(.t 111),(.t 112)]),oq 4 (.mv (.t 113))]) .ret)) (.seq (.ops [ oq 115 (.bin .eql (.t 41) (.v (.str [81,85,79,84,73,69,78,84]))),oq 114 (.mv (.t 115))]) (.cond (.t 114) (.seq (.ops [ oq 116 (.mv (.t 9)),oq 117 (.mv (.t 7)),oq 118 (.ia 1 (.t 117) (.v (.int .i64 1))),oq 119 (.ld none (.t 118)),oe 120 (.call 30 [(.t 116),(.t 119)]),oq 4 (.mv (.t 120))]) .ret) (.seq (.ops [ oq 122 (.bin .eql (.t 41) (.v (.str [80,79,87,69,82]))),oq 121 (.mv (.t 122))]) (.cond (.t 121) (.seq (.ops [ oq 123 (.mv (.t 9)),oq 124 (.mv (.t 7)),oq 125 (.ia 1 (.t 124) (.v (.int .i64 1))),oq 126 (.ld none (.t 125)),oe 127 (.call 31 [(.t 123),(.t 126)]),oq 4 (.mv (.t 127))]) .ret) (.seq (.ops [ oq 129 (.bin .eql (.t 41) (.v (.str [83,81,82,84]))),oq 128 (.mv (.t 129))]) (.cond (.t 128) (.seq (.ops [ oq 130 (.mv (.t 9)),oe 131 (.call 32 [(.t 130)]),oq 132 (.ext 0 (.t 131)),oq 133 (.ext 1 (.t 131)),oe 134 (.call 20 [(.t 132),(.t 133)]),oq 4 (.mv (.t 134))]) .ret) (.seq (.ops [ oq 136 (.bin .eql (.t 41) (.v (.str [70,65,67,84]))),oq 135 (.mv (.t 136))]) (.cond (.t 135) (.seq (.ops [ oq 137 (.mv (.t 9)),oe 138 (.call 33 [(.t 137)]),oq 4 (.mv (.t 138))]) .ret) (.seq (.ops [ oq 140 (.bin .eql (.t 41) (.v (.str [69,86,69,78]))),oq 139 (.mv (.t 140))]) (.cond (.t 139) (.seq (.ops [ oq 141 (.mv (.t 9)),oe 142 (.call 34 [(.t 141),(.v (.int .i64 0))]),oq 4 (.mv (.t 142))]) .ret) (.seq (.ops [ oq 144 (.bin .eql (.t 41) (.v (.str [79,68,68]))),oq 143 (.mv (.t 144))]) (.cond (.t 143) (.seq (.ops [ oq 145 (.mv (.t 9)),oe 146 (.call 34 [(.t 145),(.v (.int .i64 1))]),oq 4 (.mv (.t 146))]) .ret) (.seq (.ops [ oq 148 (.bin .eql (.t 41) (.v (.str [67,76,65,77,80]))),oq 147 (.mv (.t 148))]) (.cond (.t 147) (.seq (.seq (.ops [ oq 149 (.mv (.t 7)),oq 150 (.ia 1 (.t 149) (.v (.int .i64 1))),oq 151 (.ld none (.t 150)),oq 152 (.mv (.t 7)),oq 153 (.ia 1 (.t 152) (.v (.int .i64 2))),oq 154 (.ld none (.t 153)),oq 155 (.bin .gtr (.t 151) (.t 154))]) (.cond (.t 155) (.seq (.ops [ oq 156 (.mki 45 (.v (.int .i64 2))),oq 4 (.mv (.t 156))]) .ret) .skip)) (.seq (.ops [ oq 157 (.mv (.t 9)),oq 158 (.mv (.t 7)),oq 159 (.ia 1 (.t 158) (.v (.int .i64 2))),oq 160 (.ld none (.t 159)),oq 161 (.mnx false (.t 157) (.t 160)),oq 162 (.mv (.t 7)),oq 163 (.ia 1 (.t 162) (.v (.int .i64 1))),oq 164 (.ld none (.t 163)),oq 165 (.mnx true (.t 161) (.t 164)),oq 166 (.mki 49 (.t 165)),oq 4 (.mv (.t 166))]) .ret)) .skip))))))))))))))
def c10_118:ACode := .block 0 (.seq (.ops [ oq 43 (.bin .eql (.t 41) (.v (.str [65,66,83]))),oq 42 (.mv (.t 43))]) (.cond (.t 42) (.seq (.ops [ oq 44 (.mv (.t 9)),oe 45 (.call 18 [(.t 44)]),oq 46 (.mki 49 (.t 45)),oq 4 (.mv (.t 46))]) .ret) (.seq (.ops [ oq 48 (.bin .eql (.t 41) (.v (.str [83,73,71,78]))),oq 47 (.mv (.t 48))]) (.cond (.t 47) (.seq (.ops [ oq 49 (.mv (.t 9)),oe 50 (.call 19 [(.t 49)]),oq 51 (.bin .mul (.t 50) (.v (.int .i64 10000))),oq 52 (.mki 49 (.t 51)),oq 4 (.mv (.t 52))]) .ret) (.seq (.ops [ oq 54 (.bin .eql (.t 41) (.v (.str [73,78,84]))),oq 53 (.mv (.t 54))]) (.cond (.t 53) (.seq (.ops [ oq 55 (.mv (.t 9)),oe 56 (.call 21 [(.t 55),(.v (.int .i64 10000))]),oq 57 (.ext 0 (.t 56)),oq 58 (.ext 1 (.t 56)),oe 59 (.call 20 [(.t 57),(.t 58)]),oq 4 (.mv (.t 59))]) .ret) (.seq (.seq (.ops [ oq 61 (.bin .eql (.t 41) (.v (.str [84,82,85,78,67]))),oq 60 (.mv (.t 61))]) (.cond (.t 60) .skip (.ops [ oq 62 (.bin .eql (.t 41) (.v (.str [82,79,85,78,68,68,79,87,78]))),oq 60 (.mv (.t 62))]))) (.cond (.t 60) (.seq (.ops [ oq 63 (.mv (.t 9)),oq 64 (.mv (.t 7)),oe 65 (.call 23 [(.t 64)]),oe 66 (.call 22 [(.t 63),(.t 65)]),oq 67 (.mki 49 (.t 66)),oq 4 (.mv (.t 67))]) .ret) (.seq (.ops [ oq 69 (.bin .eql (.t 41) (.v (.str [82,79,85,78,68]))),oq 68 (.mv (.t 69))]) (.cond (.t 68) (.seq (.ops [ oq 70 (.mv (.t 9)),oq 71 (.mv (.t 7)),oe 72 (.call 23 [(.t 71)]),oe 73 (.call 24 [(.t 70),(.t 72)]),oq 74 (.ext 0 (.t 73)),oq 75 (.ext 1 (.t 73)),oe 76 (.call 20 [(.t 74),(.t 75)]),oq 4 (.mv (.t 76))]) .ret) (.seq (.ops [ oq 78 (.bin .eql (.t 41) (.v (.str [82,79,85,78,68,85,80]))),oq 77 (.mv (.t 78))]) (.cond (.t 77) (.seq (.ops [ oq 79 (.mv (.t 9)),oq 80 (.mv (.t 7)),oe 81 (.call 23 [(.t 80)]),oe 82 (.call 25 [(.t 79),(.t 81)]),oq 4 (.mv (.t 82))]) .ret) (.seq (.seq (.ops [ oq 84 (.bin .eql (.t 41) (.v (.str [70,76,79,79,82]))),oq 83 (.mv (.t 84))]) (.cond (.t 83) .skip (.ops [ oq 85 (.bin .eql (.t 41) (.v (.str [67,69,73,76,73,78,71]))),oq 83 (.mv (.t 85))]))) (.cond (.t 83) (.seq (.ops [ oq 86 (.mv (.t 9)),oq 87 (.mv (.t 7)),oe 88 (.call 27 [(.t 87),(.v (.int .i64 10000))]),oq 89 (.mv (.t 0)),oq 90 (.bin .eql (.t 89) (.v (.str [67,69,73,76,73,78,71]))),oe 91 (.call 26 [(.t 86),(.t 88),(.t 90)]),oq 4 (.mv (.t 91))]) .ret) (.seq (.ops [ oq 93 (.bin .eql (.t 41) (.v (.str [77,82,79,85,78,68]))),oq 92 (.mv (.t 93))]) (.cond (.t 92) (.seq (.ops [ oq 94 (.mv (.t 9)),oq 95 (.mv (.t 7)),oq 96 (.ia 1 (.t 95) (.v (.int .i64 1))),oq 97 (.ld none (.t 96)),oe 98 (.call 28 [(.t 94),(.t 97)]),oq 4 (.mv (.t 98))]) .ret) (.seq (.ops [ oq 100 (.bin .eql (.t 41) (.v (.str [77,79,68]))),oq 99 (.mv (.t 100))]) c10_100)))))))))))))))))
def c10_123:ACode := .seq (.ops [ oq 38 (.mv (.t 7)),oq 39 (.ia 1 (.t 38) (.v (.int .i64 0))),oq 40 (.ld none (.t 39)),oq 9 (.mv (.t 40))]) (.seq (.seq (.ops [ oq 41 (.mv (.t 0))]) c10_118) (.seq (.ops [ oq 167 (.mv (.t 0)),oq 168 (.mv (.t 7)),oe 169 (.call 35 [(.t 167),(.t 168)]),oq 4 (.mv (.t 169))]) .ret))
def c10_129:ACode := .seq (.ops [ oq 4 (.mv (.v .nili))]) (.seq (.ops [ oq 11 (.mv (.t 0)),oe 12 (.call 15 [(.t 11)]),oq 10 (.mv (.t 12)),oq 13 (.ext 0 (.t 10)),oq 14 (.ext 1 (.t 10)),oq 5 (.mv (.t 13)),oq 6 (.mv (.t 14))]) (.seq (.seq (.ops [ oq 15 (.mv (.t 6)),oq 16 (.bin .eql (.t 15) (.v (.int .i64 0)))]) (.cond (.t 16) (.seq (.ops [ oq 17 (.mki 45 (.v (.int .i64 6))),oq 4 (.mv (.t 17))]) .ret) .skip)) (.seq (.seq (.ops [ oq 18 (.mv (.t 1)),oq 19 (.len (.t 18)),oq 20 (.mv (.t 5)),oq 21 (.bin .lss (.t 19) (.t 20)),oq 22 (.mv (.t 21)),⟨some 23,some (22,false),.q (.mv (.t 1)),[]⟩,⟨some 24,some (22,false),.q (.len (.t 23)),[]⟩,⟨some 25,some (22,false),.q (.mv (.t 6)),[]⟩,⟨some 26,some (22,false),.q (.bin .gtr (.t 24) (.t 25)),[]⟩,oq 27 (.pick (.t 22) (.v (.bool true)) (.t 26))]) (.cond (.t 27) (.seq (.ops [ oq 28 (.mki 45 (.v (.int .i64 3))),oq 4 (.mv (.t 28))]) .ret) .skip)) (.seq (.ops [ oq 30 (.mv (.t 1)),oe 31 (.call 17 [(.t 30)]),oq 29 (.mv (.t 31)),oq 32 (.ext 0 (.t 29)),oq 33 (.ext 1 (.t 29)),oq 7 (.mv (.t 32)),oq 8 (.mv (.t 33))]) (.seq (.seq (.ops [ oq 34 (.mv (.t 8)),oq 35 (.bin .neq (.t 34) (.v (.int .i64 0)))]) (.cond (.t 35) (.seq (.ops [ oq 36 (.mv (.t 8)),oq 37 (.mki 45 (.t 36)),oq 4 (.mv (.t 37))]) .ret) .skip)) c10_123)))))
@[go_sem] def c10_100_wp:=wp_of c10_100.eq_1
@[go_sem] def c10_118_wp:=wp_of c10_118.eq_1
@[go_sem] def c10_123_wp:=wp_of c10_123.eq_1
@[go_sem] def c10_129_wp:=wp_of c10_129.eq_1
def c10:AFn:=⟨170,[.t 4],c10_129⟩
theorem c10_ok:compF Tryz.prog Tryz.f10=some c10:=by kernel_rfl
theorem a10 {args:List AV} {σ:ASt} {R:AV->ASt->Prop} (hl:args.length<=170) (h:c10_129.wp Tryz.prog (RetQ [.t 4] R) (init args) σ):ACalls Tryz.prog 10 args σ R:=acalls_of Tryz.func10 c10_ok hl h
/-! 14: tabular/value.Tell -/
def c14_41:ACode := .seq (.ops [ oe 2 (.alloc [(.int .i64 0),(.int .i64 0),(.str [])])]) (.seq (.seq (.ops [ oq 7 (.mv (.t 0))]) (.block 0 (.seq (.ops [ oq 8 (.ta 49 (.int .i64 0) true (.t 7)),oq 9 (.ext 1 (.t 8)),oq 10 (.ext 0 (.t 8))]) (.cond (.t 9) (.seq (.ops [ oq 3 (.mv (.t 10))]) (.seq (.ops [ oq 11 (.mv (.t 3)),oq 12 (.build [(.int .i64 0),(.int .i64 0),(.str [])] [(0,1,(.v (.int .i64 1))),(1,1,(.t 11))]),oz (.store 3 (.t 2) (.t 12))]) .ret)) (.seq (.ops [ oq 13 (.ta 88 (.str []) true (.t 7)),oq 14 (.ext 1 (.t 13)),oq 15 (.ext 0 (.t 13))]) (.cond (.t 14) (.seq (.ops [ oq 4 (.mv (.t 15))]) (.seq (.ops [ oq 16 (.mv (.t 4)),oq 17 (.build [(.int .i64 0),(.int .i64 0),(.str [])] [(0,1,(.v (.int .i64 2))),(2,1,(.t 16))]),oz (.store 3 (.t 2) (.t 17))]) .ret)) (.seq (.ops [ oq 18 (.ta 89 (.bool false) true (.t 7)),oq 19 (.ext 1 (.t 18)),oq 20 (.ext 0 (.t 18))]) (.cond (.t 19) (.seq (.ops [ oq 5 (.mv (.t 20))]) (.seq (.seq (.ops [ oq 21 (.mv (.t 5))]) (.cond (.t 21) (.seq (.ops [ oq 22 (.build [(.int .i64 0),(.int .i64 0),(.str [])] [(0,1,(.v (.int .i64 3))),(1,1,(.v (.int .i64 1)))]),oz (.store 3 (.t 2) (.t 22))]) .ret) .skip)) (.seq (.ops [ oq 23 (.build [(.int .i64 0),(.int .i64 0),(.str [])] [(0,1,(.v (.int .i64 3)))]),oz (.store 3 (.t 2) (.t 23))]) .ret))) (.seq (.ops [ oq 24 (.ta 45 (.int .i64 0) true (.t 7)),oq 25 (.ext 1 (.t 24)),oq 26 (.ext 0 (.t 24))]) (.cond (.t 25) (.seq (.ops [ oq 6 (.mv (.t 26))]) (.seq (.ops [ oq 27 (.mv (.t 6)),oq 28 (.build [(.int .i64 0),(.int .i64 0),(.str [])] [(0,1,(.v (.int .i64 4))),(1,1,(.t 27))]),oz (.store 3 (.t 2) (.t 28))]) .ret)) .skip)))))))))) (.seq (.ops [ oq 29 (.build [(.int .i64 0),(.int .i64 0),(.str [])] []),oz (.store 3 (.t 2) (.t 29))]) .ret))
@[go_sem] def c14_41_wp:=wp_of c14_41.eq_1
def c14:AFn:=⟨30,[.c 2 (some 3)],c14_41⟩
theorem c14_ok:compF Tryz.prog Tryz.f14=some c14:=by kernel_rfl
theorem a14 {args:List AV} {σ:ASt} {R:AV->ASt->Prop} (hl:args.length<=30) (h:c14_41.wp Tryz.prog (RetQ [.c 2 (some 3)] R) (init args) σ):ACalls Tryz.prog 14 args σ R:=acalls_of Tryz.func14 c14_ok hl h
/-! 15: tabular/maths.limits -/
def c15_77:ACode := .seq (.ops [ oq 2 (.mv (.v (.int .i64 0))),oq 3 (.mv (.v (.int .i64 0)))]) (.seq (.seq (.ops [ oq 4 (.mv (.t 0))]) (.block 0 (.seq (.seq (.ops [ oq 6 (.bin .eql (.t 4) (.v (.str [65,66,83]))),oq 5 (.mv (.t 6))]) (.cond (.t 5) .skip (.seq (.ops [ oq 7 (.bin .eql (.t 4) (.v (.str [83,73,71,78]))),oq 5 (.mv (.t 7))]) (.cond (.t 5) .skip (.seq (.ops [ oq 8 (.bin .eql (.t 4) (.v (.str [73,78,84]))),oq 5 (.mv (.t 8))]) (.cond (.t 5) .skip (.seq (.ops [ oq 9 (.bin .eql (.t 4) (.v (.str [83,81,82,84]))),oq 5 (.mv (.t 9))]) (.cond (.t 5) .skip (.seq (.ops [ oq 10 (.bin .eql (.t 4) (.v (.str [70,65,67,84]))),oq 5 (.mv (.t 10))]) (.cond (.t 5) .skip (.seq (.ops [ oq 11 (.bin .eql (.t 4) (.v (.str [69,86,69,78]))),oq 5 (.mv (.t 11))]) (.cond (.t 5) .skip (.ops [ oq 12 (.bin .eql (.t 4) (.v (.str [79,68,68]))),oq 5 (.mv (.t 12))]))))))))))))) (.cond (.t 5) (.seq (.ops [ oq 2 (.mv (.v (.int .i64 1))),oq 3 (.mv (.v (.int .i64 1)))]) .ret) (.seq (.seq (.ops [ oq 14 (.bin .eql (.t 4) (.v (.str [84,82,85,78,67]))),oq 13 (.mv (.t 14))]) (.cond (.t 13) .skip (.seq (.ops [ oq 15 (.bin .eql (.t 4) (.v (.str [70,76,79,79,82]))),oq 13 (.mv (.t 15))]) (.cond (.t 13) .skip (.seq (.ops [ oq 16 (.bin .eql (.t 4) (.v (.str [67,69,73,76,73,78,71]))),oq 13 (.mv (.t 16))]) (.cond (.t 13) .skip (.seq (.ops [ oq 17 (.bin .eql (.t 4) (.v (.str [82,79,85,78,68]))),oq 13 (.mv (.t 17))]) (.cond (.t 13) .skip (.seq (.ops [ oq 18 (.bin .eql (.t 4) (.v (.str [82,79,85,78,68,85,80]))),oq 13 (.mv (.t 18))]) (.cond (.t 13) .skip (.ops [ oq 19 (.bin .eql (.t 4) (.v (.str [82,79,85,78,68,68,79,87,78]))),oq 13 (.mv (.t 19))]))))))))))) (.cond (.t 13) (.seq (.ops [ oq 2 (.mv (.v (.int .i64 1))),oq 3 (.mv (.v (.int .i64 2)))]) .ret) (.seq (.seq (.ops [ oq 21 (.bin .eql (.t 4) (.v (.str [77,82,79,85,78,68]))),oq 20 (.mv (.t 21))]) (.cond (.t 20) .skip (.seq (.ops [ oq 22 (.bin .eql (.t 4) (.v (.str [77,79,68]))),oq 20 (.mv (.t 22))]) (.cond (.t 20) .skip (.seq (.ops [ oq 23 (.bin .eql (.t 4) (.v (.str [81,85,79,84,73,69,78,84]))),oq 20 (.mv (.t 23))]) (.cond (.t 20) .skip (.ops [ oq 24 (.bin .eql (.t 4) (.v (.str [80,79,87,69,82]))),oq 20 (.mv (.t 24))]))))))) (.cond (.t 20) (.seq (.ops [ oq 2 (.mv (.v (.int .i64 2))),oq 3 (.mv (.v (.int .i64 2)))]) .ret) (.seq (.ops [ oq 26 (.bin .eql (.t 4) (.v (.str [67,76,65,77,80]))),oq 25 (.mv (.t 26))]) (.cond (.t 25) (.seq (.ops [ oq 2 (.mv (.v (.int .i64 3))),oq 3 (.mv (.v (.int .i64 3)))]) .ret) (.seq (.seq (.ops [ oq 28 (.bin .eql (.t 4) (.v (.str [71,67,68]))),oq 27 (.mv (.t 28))]) (.cond (.t 27) .skip (.ops [ oq 29 (.bin .eql (.t 4) (.v (.str [76,67,77]))),oq 27 (.mv (.t 29))]))) (.cond (.t 27) (.seq (.ops [ oq 2 (.mv (.v (.int .i64 1))),oq 3 (.mv (.v (.int .i64 30)))]) .ret) .skip)))))))))))) (.seq (.ops [ oq 2 (.mv (.v (.int .i64 0))),oq 3 (.mv (.v (.int .i64 0)))]) .ret))
@[go_sem] def c15_77_wp:=wp_of c15_77.eq_1
def c15:AFn:=⟨30,[.t 2,.t 3],c15_77⟩
theorem c15_ok:compF Tryz.prog Tryz.f15=some c15:=by kernel_rfl
theorem a15 {args:List AV} {σ:ASt} {R:AV->ASt->Prop} (hl:args.length<=30) (h:c15_77.wp Tryz.prog (RetQ [.t 2,.t 3] R) (init args) σ):ACalls Tryz.prog 15 args σ R:=acalls_of Tryz.func15 c15_ok hl h
/-! 17: tabular/maths.numbers -/
def c17_20:ACode := .seq (.ops [ oq 12 (.bin .lss (.t 11) (.t 10))]) (.seq (.cond (.t 12) .skip (.exit 0)) (.seq (.block 1 (.seq (.ops [ oq 13 (.ia 4 (.t 9) (.t 11)),oq 14 (.ld (some 4) (.t 13)),oe 6 (.alloc [(.int .i64 0),(.int .i64 0),(.bool false),(.sl .full [])]),oz (.store 4 (.t 6) (.t 14))]) (.seq (.ops [ oq 16 (.ld (some 4) (.t 6)),oe 17 (.call 56 [(.t 16)]),oe 18 (.call 57 [(.t 17)]),oq 15 (.mv (.t 18)),oq 19 (.ext 0 (.t 15)),oq 20 (.ext 1 (.t 15)),oq 7 (.mv (.t 19)),oq 8 (.mv (.t 20))]) (.seq (.seq (.ops [ oq 21 (.mv (.t 8)),oq 22 (.bin .neq (.t 21) (.v (.int .i64 0)))]) (.cond (.t 22) (.seq (.ops [ oq 23 (.mv (.t 8)),oq 2 (.mv (.v (.sl .full []))),oq 3 (.mv (.t 23))]) .ret) .skip)) (.ops [ oq 24 (.mv (.t 4)),oq 25 (.mv (.t 7)),oq 26 (.bsl 1 [(.t 25)]),oe 27 (.app 39 1 8 [(.int .i64 0)] (.t 24) (.t 26)),oq 4 (.mv (.t 27))]))))) (.ops [ oq 28 (.bin .add (.t 11) (.v (.int .i64 1))),oq 11 (.mv (.t 28))])))
def c17_25:ACode := .seq (.ops [ oq 29 (.mv (.t 4)),oq 2 (.mv (.t 29)),oq 3 (.mv (.v (.int .i64 0)))]) .ret
def c17_28:ACode := .seq (.ops [ oq 2 (.mv (.v (.sl .full []))),oq 3 (.mv (.v (.int .i64 0)))]) (.seq (.ops [ oq 4 (.mv (.v (.sl .full [])))]) (.seq (.seq (.ops [ oq 9 (.mv (.t 0)),oq 10 (.len (.t 9)),oq 11 (.mv (.v (.int .i64 0)))]) (.block 0 (.loop c17_20))) c17_25))
@[go_sem] def c17_20_wp:=wp_of c17_20.eq_1
@[go_sem] def c17_25_wp:=wp_of c17_25.eq_1
@[go_sem] def c17_28_wp:=wp_of c17_28.eq_1
def c17:AFn:=⟨30,[.t 2,.t 3],c17_28⟩
theorem c17_ok:compF Tryz.prog Tryz.f17=some c17:=by kernel_rfl
theorem a17 {args:List AV} {σ:ASt} {R:AV->ASt->Prop} (hl:args.length<=30) (h:c17_28.wp Tryz.prog (RetQ [.t 2,.t 3] R) (init args) σ):ACalls Tryz.prog 17 args σ R:=acalls_of Tryz.func17 c17_ok hl h
/-! 20: tabular/value.Counted -/
def c20_9:ACode := .seq (.ops [ oq 4 (.mv (.v .nili))]) (.seq (.seq (.ops [ oq 5 (.mv (.t 1)),oq 6 (.un .not (.t 5))]) (.cond (.t 6) (.seq (.ops [ oq 7 (.mki 45 (.v (.int .i64 2))),oq 4 (.mv (.t 7))]) .ret) .skip)) (.seq (.ops [ oq 8 (.mv (.t 0)),oq 9 (.mki 49 (.t 8)),oq 4 (.mv (.t 9))]) .ret))
@[go_sem] def c20_9_wp:=wp_of c20_9.eq_1
def c20:AFn:=⟨10,[.t 4],c20_9⟩
theorem c20_ok:compF Tryz.prog Tryz.f20=some c20:=by kernel_rfl
theorem a20 {args:List AV} {σ:ASt} {R:AV->ASt->Prop} (hl:args.length<=10) (h:c20_9.wp Tryz.prog (RetQ [.t 4] R) (init args) σ):ACalls Tryz.prog 20 args σ R:=acalls_of Tryz.func20 c20_ok hl h
/-! 23: tabular/maths.places -/
def c23_5:ACode := .seq (.ops [ oq 2 (.mv (.v (.int .i64 0)))]) (.seq (.ops [ oq 4 (.mv (.t 0)),oe 5 (.call 27 [(.t 4),(.v (.int .i64 0))]),oe 6 (.call 60 [(.t 5)]),oq 3 (.mv (.t 6))]) (.seq (.ops [ oq 7 (.mv (.t 3)),oq 8 (.mnx false (.t 7) (.v (.int .i64 20))),oq 9 (.mnx true (.t 8) (.v (.int .i64 (-20)))),oq 2 (.mv (.t 9))]) .ret))
@[go_sem] def c23_5_wp:=wp_of c23_5.eq_1
def c23:AFn:=⟨10,[.t 2],c23_5⟩
theorem c23_ok:compF Tryz.prog Tryz.f23=some c23:=by kernel_rfl
theorem a23 {args:List AV} {σ:ASt} {R:AV->ASt->Prop} (hl:args.length<=10) (h:c23_5.wp Tryz.prog (RetQ [.t 2] R) (init args) σ):ACalls Tryz.prog 23 args σ R:=acalls_of Tryz.func23 c23_ok hl h
/-! 25: tabular/maths.away -/
def c25_25:ACode := .seq (.seq (.ops [ oq 26 (.mv (.t 7)),oq 27 (.un .not (.t 26))]) (.cond (.t 27) (.seq (.ops [ oq 28 (.mki 45 (.v (.int .i64 2))),oq 4 (.mv (.t 28))]) .ret) .skip)) (.seq (.seq (.ops [ oq 29 (.mv (.t 0)),oq 30 (.bin .lss (.t 29) (.v (.int .i64 0)))]) (.cond (.t 30) (.seq (.ops [ oq 31 (.mv (.t 5)),oq 32 (.mv (.t 6)),oe 33 (.call 58 [(.t 31),(.t 32)]),oq 34 (.ext 0 (.t 33)),oq 35 (.ext 1 (.t 33)),oe 36 (.call 20 [(.t 34),(.t 35)]),oq 4 (.mv (.t 36))]) .ret) .skip)) (.seq (.ops [ oq 37 (.mv (.t 5)),oq 38 (.mv (.t 6)),oe 39 (.call 65 [(.t 37),(.t 38)]),oq 40 (.ext 0 (.t 39)),oq 41 (.ext 1 (.t 39)),oe 42 (.call 20 [(.t 40),(.t 41)]),oq 4 (.mv (.t 42))]) .ret))
def c25_30:ACode := .seq (.ops [ oq 4 (.mv (.v .nili))]) (.seq (.ops [ oq 8 (.mv (.t 0)),oq 9 (.mv (.t 1)),oe 10 (.call 22 [(.t 8),(.t 9)]),oq 5 (.mv (.t 10))]) (.seq (.seq (.ops [ oq 11 (.mv (.t 5)),oq 12 (.mv (.t 0)),oq 13 (.bin .eql (.t 11) (.t 12))]) (.cond (.t 13) (.seq (.ops [ oq 14 (.mv (.t 0)),oq 15 (.mki 49 (.t 14)),oq 4 (.mv (.t 15))]) .ret) .skip)) (.seq (.ops [ oq 17 (.mv (.t 1)),oq 18 (.un .neg (.t 17)),oe 19 (.call 63 [(.v (.int .i64 100000)),(.t 18)]),oq 16 (.mv (.t 19)),oq 20 (.ext 0 (.t 16)),oq 21 (.ext 1 (.t 16)),oq 6 (.mv (.t 20)),oq 7 (.mv (.t 21))]) (.seq (.seq (.ops [ oq 22 (.mv (.t 1)),oq 23 (.bin .gtr (.t 22) (.v (.int .i64 0)))]) (.cond (.t 23) (.ops [ oq 24 (.mv (.t 1)),oe 25 (.call 64 [(.t 24)]),oq 6 (.mv (.t 25)),oq 7 (.mv (.v (.bool true)))]) .skip)) c25_25))))
@[go_sem] def c25_25_wp:=wp_of c25_25.eq_1
@[go_sem] def c25_30_wp:=wp_of c25_30.eq_1
def c25:AFn:=⟨43,[.t 4],c25_30⟩
theorem c25_ok:compF Tryz.prog Tryz.f25=some c25:=by kernel_rfl
theorem a25 {args:List AV} {σ:ASt} {R:AV->ASt->Prop} (hl:args.length<=43) (h:c25_30.wp Tryz.prog (RetQ [.t 4] R) (init args) σ):ACalls Tryz.prog 25 args σ R:=acalls_of Tryz.func25 c25_ok hl h
/-! 27: tabular/maths.second -/
def c27_9:ACode := .seq (.ops [ oq 4 (.mv (.v (.int .i64 0)))]) (.seq (.seq (.ops [ oq 5 (.mv (.t 0)),oq 6 (.len (.t 5)),oq 7 (.bin .gtr (.t 6) (.v (.int .i64 1)))]) (.cond (.t 7) (.seq (.ops [ oq 8 (.mv (.t 0)),oq 9 (.ia 1 (.t 8) (.v (.int .i64 1))),oq 10 (.ld none (.t 9)),oq 4 (.mv (.t 10))]) .ret) .skip)) (.seq (.ops [ oq 11 (.mv (.t 1)),oq 4 (.mv (.t 11))]) .ret))
@[go_sem] def c27_9_wp:=wp_of c27_9.eq_1
def c27:AFn:=⟨12,[.t 4],c27_9⟩
theorem c27_ok:compF Tryz.prog Tryz.f27=some c27:=by kernel_rfl
theorem a27 {args:List AV} {σ:ASt} {R:AV->ASt->Prop} (hl:args.length<=12) (h:c27_9.wp Tryz.prog (RetQ [.t 4] R) (init args) σ):ACalls Tryz.prog 27 args σ R:=acalls_of Tryz.func27 c27_ok hl h
/-! 30: tabular/maths.quotient -/
def c30_9:ACode := .seq (.ops [ oq 4 (.mv (.v .nili))]) (.seq (.seq (.ops [ oq 5 (.mv (.t 1)),oq 6 (.bin .eql (.t 5) (.v (.int .i64 0)))]) (.cond (.t 6) (.seq (.ops [ oq 7 (.mki 45 (.v (.int .i64 1))),oq 4 (.mv (.t 7))]) .ret) .skip)) (.seq (.ops [ oq 8 (.mv (.t 0)),oq 9 (.mv (.t 1)),oq 10 (.bin .quo (.t 8) (.t 9)),oe 11 (.call 67 [(.t 10)]),oq 12 (.ext 0 (.t 11)),oq 13 (.ext 1 (.t 11)),oe 14 (.call 20 [(.t 12),(.t 13)]),oq 4 (.mv (.t 14))]) .ret))
@[go_sem] def c30_9_wp:=wp_of c30_9.eq_1
def c30:AFn:=⟨15,[.t 4],c30_9⟩
theorem c30_ok:compF Tryz.prog Tryz.f30=some c30:=by kernel_rfl
theorem a30 {args:List AV} {σ:ASt} {R:AV->ASt->Prop} (hl:args.length<=15) (h:c30_9.wp Tryz.prog (RetQ [.t 4] R) (init args) σ):ACalls Tryz.prog 30 args σ R:=acalls_of Tryz.func30 c30_ok hl h
/-! 35: tabular/maths.many -/
def c35_44:ACode := .seq (.ops [ oq 18 (.bin .lss (.t 17) (.t 16))]) (.seq (.cond (.t 18) .skip (.exit 0)) (.seq (.block 1 (.seq (.ops [ oq 19 (.ia 1 (.t 15) (.t 17)),oq 20 (.ld none (.t 19)),oq 7 (.mv (.t 20))]) (.seq (.ops [ oq 21 (.mv (.t 7)),oe 22 (.call 60 [(.t 21)]),oq 8 (.mv (.t 22))]) (.block 2 (.seq (.ops [ oq 49 (.mv (.t 7)),oq 50 (.bin .lss (.t 49) (.v (.int .i64 0))),oq 48 (.mv (.t 50))]) (.cond (.t 48) (.seq (.ops [ oq 51 (.mki 45 (.v (.int .i64 2))),oq 4 (.mv (.t 51))]) .ret) (.seq (.ops [ oq 53 (.mv (.t 5)),oq 54 (.bin .lss (.t 53) (.v (.int .i64 0))),oq 52 (.mv (.t 54))]) (.cond (.t 52) (.ops [ oq 55 (.mv (.t 8)),oq 5 (.mv (.t 55))]) (.seq (.ops [ oq 57 (.mv (.t 0)),oq 58 (.bin .eql (.t 57) (.v (.str [71,67,68]))),oq 56 (.mv (.t 58))]) (.cond (.t 56) (.ops [ oq 59 (.mv (.t 5)),oq 60 (.mv (.t 8)),oe 61 (.call 71 [(.t 59),(.t 60)]),oq 5 (.mv (.t 61))]) (.seq (.ops [ oq 63 (.mv (.t 5)),oq 64 (.bin .eql (.t 63) (.v (.int .i64 0))),oq 65 (.mv (.t 64)),⟨some 66,some (65,false),.q (.mv (.t 8)),[]⟩,⟨some 67,some (65,false),.q (.bin .eql (.t 66) (.v (.int .i64 0))),[]⟩,oq 68 (.pick (.t 65) (.v (.bool true)) (.t 67)),oq 62 (.mv (.t 68))]) (.cond (.t 62) (.ops [ oq 5 (.mv (.v (.int .i64 0)))]) (.seq (.ops [ oq 24 (.mv (.t 5)),oq 25 (.mv (.t 5)),oq 26 (.mv (.t 8)),oe 27 (.call 71 [(.t 25),(.t 26)]),oq 28 (.bin .quo (.t 24) (.t 27)),oe 29 (.call 67 [(.t 28)]),oq 23 (.mv (.t 29)),oq 30 (.ext 0 (.t 23)),oq 31 (.ext 1 (.t 23)),oq 9 (.mv (.t 30)),oq 10 (.mv (.t 31))]) (.seq (.ops [ oq 33 (.mv (.t 8)),oe 34 (.call 67 [(.t 33)]),oq 32 (.mv (.t 34)),oq 35 (.ext 0 (.t 32)),oq 36 (.ext 1 (.t 32)),oq 11 (.mv (.t 35)),oq 12 (.mv (.t 36))]) (.seq (.ops [ oq 38 (.mv (.t 9)),oq 39 (.mv (.t 11)),oe 40 (.call 70 [(.t 38),(.t 39)]),oq 37 (.mv (.t 40)),oq 41 (.ext 0 (.t 37)),oq 42 (.ext 1 (.t 37)),oq 13 (.mv (.t 41)),oq 14 (.mv (.t 42))]) (.seq (.seq (.ops [ oq 43 (.mv (.t 14)),oq 44 (.un .not (.t 43))]) (.cond (.t 44) (.seq (.ops [ oq 45 (.mki 45 (.v (.int .i64 2))),oq 4 (.mv (.t 45))]) .ret) .skip)) (.ops [ oq 46 (.mv (.t 13)),oe 47 (.call 60 [(.t 46)]),oq 5 (.mv (.t 47))]))))))))))))))))) (.ops [ oq 69 (.bin .add (.t 17) (.v (.int .i64 1))),oq 17 (.mv (.t 69))])))
def c35_52:ACode := .seq (.ops [ oq 4 (.mv (.v .nili))]) (.seq (.ops [ oq 5 (.mv (.v (.int .i64 (-1))))]) (.seq (.seq (.ops [ oq 15 (.mv (.t 1)),oq 16 (.len (.t 15)),oq 17 (.mv (.v (.int .i64 0)))]) (.block 0 (.loop c35_44))) (.seq (.ops [ oq 70 (.mv (.t 5)),oe 71 (.call 67 [(.t 70)]),oq 72 (.ext 0 (.t 71)),oq 73 (.ext 1 (.t 71)),oe 74 (.call 20 [(.t 72),(.t 73)]),oq 4 (.mv (.t 74))]) .ret)))
@[go_sem] def c35_44_wp:=wp_of c35_44.eq_1
@[go_sem] def c35_52_wp:=wp_of c35_52.eq_1
def c35:AFn:=⟨75,[.t 4],c35_52⟩
theorem c35_ok:compF Tryz.prog Tryz.f35=some c35:=by kernel_rfl
theorem a35 {args:List AV} {σ:ASt} {R:AV->ASt->Prop} (hl:args.length<=75) (h:c35_52.wp Tryz.prog (RetQ [.t 4] R) (init args) σ):ACalls Tryz.prog 35 args σ R:=acalls_of Tryz.func35 c35_ok hl h
/-! 36: tabular/value.One -/
def c36_3:ACode := .seq (.ops [ oe 2 (.alloc [(.int .i64 0),(.int .i64 0),(.bool false),(.sl .full [])])]) (.seq (.ops [ oq 3 (.mv (.t 0)),oq 4 (.bsl 1 [(.t 3)]),oq 5 (.build [(.int .i64 0),(.int .i64 0),(.bool false),(.sl .full [])] [(0,1,(.v (.int .i64 1))),(1,1,(.v (.int .i64 1))),(3,1,(.t 4))]),oz (.store 4 (.t 2) (.t 5))]) .ret)
@[go_sem] def c36_3_wp:=wp_of c36_3.eq_1
def c36:AFn:=⟨6,[.c 2 (some 4)],c36_3⟩
theorem c36_ok:compF Tryz.prog Tryz.f36=some c36:=by kernel_rfl
theorem a36 {args:List AV} {σ:ASt} {R:AV->ASt->Prop} (hl:args.length<=6) (h:c36_3.wp Tryz.prog (RetQ [.c 2 (some 4)] R) (init args) σ):ACalls Tryz.prog 36 args σ R:=acalls_of Tryz.func36 c36_ok hl h
/-! 37: tabular/value.Of -/
def c37_38:ACode := .seq (.ops [ oe 1 (.box (.t 0)),oq 2 (.mv (.v .nili))]) (.seq (.seq (.ops [ oq 5 (.fa 0 (.t 1)),oq 6 (.ld none (.t 5))]) (.block 0 (.seq (.ops [ oq 8 (.bin .eql (.t 6) (.v (.int .i64 1))),oq 7 (.mv (.t 8))]) (.cond (.t 7) (.seq (.ops [ oq 9 (.fa 1 (.t 1)),oq 10 (.ld none (.t 9)),oe 11 (.call 72 [(.t 10)])]) (.cond (.t 11) (.seq (.ops [ oq 12 (.fa 1 (.t 1)),oq 13 (.ld none (.t 12)),oq 14 (.mki 49 (.t 13)),oq 2 (.mv (.t 14))]) .ret) .skip)) (.seq (.ops [ oq 16 (.bin .eql (.t 6) (.v (.int .i64 2))),oq 15 (.mv (.t 16))]) (.cond (.t 15) (.seq (.ops [ oq 18 (.fa 2 (.t 1)),oq 19 (.ld none (.t 18)),oe 20 (.call 73 [(.t 19)]),oq 17 (.mv (.t 20)),oq 21 (.ext 0 (.t 17)),oq 22 (.ext 1 (.t 17)),oq 3 (.mv (.t 21)),oq 4 (.mv (.t 22))]) (.seq (.ops [ oq 23 (.mv (.t 4)),oq 24 (.mv (.t 23)),⟨some 25,some (24,true),.q (.fa 2 (.t 1)),[]⟩,⟨some 26,some (24,true),.q (.ld none (.t 25)),[]⟩,⟨some 27,some (24,true),.q (.lenS (.t 26)),[]⟩,⟨some 28,some (24,true),.q (.bin .leq (.t 27) (.v (.int .i64 2000))),[]⟩,oq 29 (.pick (.t 24) (.t 28) (.v (.bool false)))]) (.cond (.t 29) (.seq (.ops [ oq 30 (.fa 2 (.t 1)),oq 31 (.ld none (.t 30)),oq 32 (.mki 88 (.t 31)),oq 2 (.mv (.t 32))]) .ret) .skip))) (.seq (.ops [ oq 34 (.bin .eql (.t 6) (.v (.int .i64 3))),oq 33 (.mv (.t 34))]) (.cond (.t 33) (.seq (.ops [ oq 35 (.fa 1 (.t 1)),oq 36 (.ld none (.t 35)),oq 37 (.bin .eql (.t 36) (.v (.int .i64 1))),oq 38 (.mki 89 (.t 37)),oq 2 (.mv (.t 38))]) .ret) (.seq (.ops [ oq 40 (.bin .eql (.t 6) (.v (.int .i64 4))),oq 39 (.mv (.t 40))]) (.cond (.t 39) (.seq (.ops [ oq 41 (.fa 1 (.t 1)),oq 42 (.ld none (.t 41)),oq 43 (.bin .geq (.t 42) (.v (.int .i64 1))),oq 44 (.mv (.t 43)),⟨some 45,some (44,true),.q (.fa 1 (.t 1)),[]⟩,⟨some 46,some (44,true),.q (.ld none (.t 45)),[]⟩,⟨some 47,some (44,true),.e (.call 74 []),[⟨(some (44,true)),.ld none (.t 45),46⟩]⟩,⟨some 48,some (44,true),.q (.len (.t 47)),[]⟩,⟨some 49,some (44,true),.q (.bin .leq (.t 46) (.t 48)),[]⟩,oq 50 (.pick (.t 44) (.t 49) (.v (.bool false)))]) (.cond (.t 50) (.seq (.ops [ oq 51 (.fa 1 (.t 1)),oq 52 (.ld none (.t 51)),oq 53 (.mki 45 (.t 52)),oq 2 (.mv (.t 53))]) .ret) .skip)) .skip)))))))))) (.seq (.ops [ oq 54 (.build [] []),oq 55 (.mki 109 (.t 54)),oq 2 (.mv (.t 55))]) .ret))
@[go_sem] def c37_38_wp:=wp_of c37_38.eq_1
def c37:AFn:=⟨56,[.t 2],c37_38⟩
theorem c37_ok:compF Tryz.prog Tryz.f37=some c37:=by kernel_rfl
theorem a37 {args:List AV} {σ:ASt} {R:AV->ASt->Prop} (hl:args.length<=56) (h:c37_38.wp Tryz.prog (RetQ [.t 2] R) (init args) σ):ACalls Tryz.prog 37 args σ R:=acalls_of Tryz.func37 c37_ok hl h
/-! 56: (tabular/value.Arg).Value -/
def c56_9:ACode := .seq (.ops [ oe 1 (.box (.t 0)),oq 2 (.mv (.v .nili))]) (.seq (.seq (.ops [ oq 3 (.fa 3 (.t 1)),oq 4 (.ld none (.t 3)),oq 5 (.len (.t 4)),oq 6 (.bin .neq (.t 5) (.v (.int .i64 1)))]) (.cond (.t 6) (.seq (.ops [ oq 7 (.mki 45 (.v (.int .i64 3))),oq 2 (.mv (.t 7))]) .ret) .skip)) (.seq (.ops [ oq 8 (.fa 3 (.t 1)),oq 9 (.ld none (.t 8)),oq 10 (.ia 1 (.t 9) (.v (.int .i64 0))),oq 11 (.ld none (.t 10)),oq 2 (.mv (.t 11))]) .ret))
@[go_sem] def c56_9_wp:=wp_of c56_9.eq_1
def c56:AFn:=⟨12,[.t 2],c56_9⟩
theorem c56_ok:compF Tryz.prog Tryz.f56=some c56:=by kernel_rfl
theorem a56 {args:List AV} {σ:ASt} {R:AV->ASt->Prop} (hl:args.length<=12) (h:c56_9.wp Tryz.prog (RetQ [.t 2] R) (init args) σ):ACalls Tryz.prog 56 args σ R:=acalls_of Tryz.func56 c56_ok hl h
/-! 57: tabular/value.AsNumber -/
def c57_49:ACode := .seq (.ops [ oq 2 (.mv (.v (.int .i64 0))),oq 3 (.mv (.v (.int .i64 0)))]) (.seq (.seq (.ops [ oq 10 (.mv (.t 0))]) (.block 0 (.seq (.ops [ oq 11 (.ta 49 (.int .i64 0) true (.t 10)),oq 12 (.ext 1 (.t 11)),oq 13 (.ext 0 (.t 11))]) (.cond (.t 12) (.seq (.ops [ oq 4 (.mv (.t 13))]) (.seq (.ops [ oq 14 (.mv (.t 4)),oq 2 (.mv (.t 14)),oq 3 (.mv (.v (.int .i64 0)))]) .ret)) (.seq (.ops [ oq 15 (.ta 89 (.bool false) true (.t 10)),oq 16 (.ext 1 (.t 15)),oq 17 (.ext 0 (.t 15))]) (.cond (.t 16) (.seq (.ops [ oq 5 (.mv (.t 17))]) (.seq (.seq (.ops [ oq 18 (.mv (.t 5))]) (.cond (.t 18) (.seq (.ops [ oq 2 (.mv (.v (.int .i64 10000))),oq 3 (.mv (.v (.int .i64 0)))]) .ret) .skip)) (.seq (.ops [ oq 2 (.mv (.v (.int .i64 0))),oq 3 (.mv (.v (.int .i64 0)))]) .ret))) (.seq (.ops [ oq 19 (.ta 88 (.str []) true (.t 10)),oq 20 (.ext 1 (.t 19)),oq 21 (.ext 0 (.t 19))]) (.cond (.t 20) (.seq (.ops [ oq 6 (.mv (.t 21))]) (.seq (.seq (.ops [ oq 23 (.mv (.t 6)),oe 24 (.call 89 [(.t 23)]),oe 25 (.call 88 [(.t 24)]),oq 22 (.mv (.t 25)),oq 26 (.ext 0 (.t 22)),oq 27 (.ext 1 (.t 22)),oq 7 (.mv (.t 26)),oq 8 (.mv (.t 27))]) (.seq (.ops [ oq 28 (.mv (.t 8))]) (.cond (.t 28) (.seq (.ops [ oq 29 (.mv (.t 7)),oq 2 (.mv (.t 29)),oq 3 (.mv (.v (.int .i64 0)))]) .ret) .skip))) (.seq (.ops [ oq 2 (.mv (.v (.int .i64 0))),oq 3 (.mv (.v (.int .i64 3)))]) .ret))) (.seq (.ops [ oq 30 (.ta 45 (.int .i64 0) true (.t 10)),oq 31 (.ext 1 (.t 30)),oq 32 (.ext 0 (.t 30))]) (.cond (.t 31) (.seq (.ops [ oq 9 (.mv (.t 32))]) (.seq (.ops [ oq 33 (.mv (.t 9)),oq 2 (.mv (.v (.int .i64 0))),oq 3 (.mv (.t 33))]) .ret)) .skip)))))))))) (.seq (.ops [ oq 2 (.mv (.v (.int .i64 0))),oq 3 (.mv (.v (.int .i64 0)))]) .ret))
@[go_sem] def c57_49_wp:=wp_of c57_49.eq_1
def c57:AFn:=⟨34,[.t 2,.t 3],c57_49⟩
theorem c57_ok:compF Tryz.prog Tryz.f57=some c57:=by kernel_rfl
theorem a57 {args:List AV} {σ:ASt} {R:AV->ASt->Prop} (hl:args.length<=34) (h:c57_49.wp Tryz.prog (RetQ [.t 2,.t 3] R) (init args) σ):ACalls Tryz.prog 57 args σ R:=acalls_of Tryz.func57 c57_ok hl h
/-! 64: tabular/maths.unit -/
def c64_10:ACode := .seq (.ops [ oq 6 (.bin .lss (.t 5) (.t 4))]) (.seq (.cond (.t 6) .skip (.exit 0)) (.seq (.block 1 (.ops [ oq 7 (.mv (.t 3)),oq 8 (.bin .quo (.t 7) (.v (.int .i64 10))),oq 3 (.mv (.t 8))])) (.ops [ oq 9 (.bin .add (.t 5) (.v (.int .i64 1))),oq 5 (.mv (.t 9))])))
def c64_18:ACode := .seq (.ops [ oq 2 (.mv (.v (.int .i64 0)))]) (.seq (.ops [ oq 3 (.mv (.v (.int .i64 10000)))]) (.seq (.seq (.ops [ oq 4 (.mv (.t 0)),oq 5 (.mv (.v (.int .i64 0)))]) (.block 0 (.loop c64_10))) (.seq (.ops [ oq 10 (.mv (.t 3)),oq 2 (.mv (.t 10))]) .ret)))
@[go_sem] def c64_10_wp:=wp_of c64_10.eq_1
@[go_sem] def c64_18_wp:=wp_of c64_18.eq_1
def c64:AFn:=⟨11,[.t 2],c64_18⟩
theorem c64_ok:compF Tryz.prog Tryz.f64=some c64:=by kernel_rfl
theorem a64 {args:List AV} {σ:ASt} {R:AV->ASt->Prop} (hl:args.length<=11) (h:c64_18.wp Tryz.prog (RetQ [.t 2] R) (init args) σ):ACalls Tryz.prog 64 args σ R:=acalls_of Tryz.func64 c64_ok hl h
/-! 71: tabular/maths.divisor -/
def c71_6:ACode := .seq (.seq (.ops [ oq 5 (.mv (.t 1)),oq 6 (.bin .gtr (.t 5) (.v (.int .i64 0)))]) (.cond (.t 6) .skip (.exit 0))) (.block 1 (.ops [ oq 7 (.mv (.t 1)),oq 8 (.mv (.t 0)),oq 9 (.mv (.t 1)),oq 10 (.bin .rem (.t 8) (.t 9)),oq 0 (.mv (.t 7)),oq 1 (.mv (.t 10))]))
def c71_12:ACode := .seq (.ops [ oq 4 (.mv (.v (.int .i64 0)))]) (.seq (.block 0 (.loop c71_6)) (.seq (.ops [ oq 11 (.mv (.t 0)),oq 4 (.mv (.t 11))]) .ret))
@[go_sem] def c71_6_wp:=wp_of c71_6.eq_1
@[go_sem] def c71_12_wp:=wp_of c71_12.eq_1
def c71:AFn:=⟨12,[.t 4],c71_12⟩
theorem c71_ok:compF Tryz.prog Tryz.f71=some c71:=by kernel_rfl
theorem a71 {args:List AV} {σ:ASt} {R:AV->ASt->Prop} (hl:args.length<=12) (h:c71_12.wp Tryz.prog (RetQ [.t 4] R) (init args) σ):ACalls Tryz.prog 71 args σ R:=acalls_of Tryz.func71 c71_ok hl h
/-! 73: tabular/token.Signs -/
def c73_21:ACode := .seq (.ops [ oe 11 (.nxt (.t 10)),oq 12 (.ext 0 (.t 11))]) (.seq (.cond (.t 12) .skip (.exit 0)) (.block 1 (.seq (.ops [ oq 13 (.ext 1 (.t 11)),oq 14 (.ext 2 (.t 11)),oq 5 (.mv (.t 13)),oq 6 (.mv (.t 14))]) (.seq (.seq (.ops [ oq 15 (.mv (.t 6)),oq 16 (.bin .eql (.t 15) (.v (.int .i32 65533)))]) (.cond (.t 16) (.seq (.ops [ oq 18 (.mv (.t 0)),oq 19 (.mv (.t 5)),oq 20 (.slfrom (true,0) (.t 18) (.t 19)),oe 21 (.call 92 [(.t 20)]),oq 17 (.mv (.t 21)),oq 22 (.ext 0 (.t 17)),oq 23 (.ext 1 (.t 17)),oq 7 (.mv (.t 22)),oq 8 (.mv (.t 23))]) (.seq (.ops [ oq 24 (.mv (.t 8)),oq 25 (.bin .eql (.t 24) (.v (.int .i64 1)))]) (.cond (.t 25) (.seq (.ops [ oq 2 (.mv (.v (.int .i64 0))),oq 3 (.mv (.v (.bool false)))]) .ret) .skip))) .skip)) (.ops [ oq 26 (.mv (.t 4)),oq 27 (.bin .add (.t 26) (.v (.int .i64 1))),oq 4 (.mv (.t 27))])))))
def c73_26:ACode := .seq (.ops [ oq 28 (.mv (.t 4)),oq 2 (.mv (.t 28)),oq 3 (.mv (.v (.bool true)))]) .ret
def c73_29:ACode := .seq (.ops [ oq 2 (.mv (.v (.int .i64 0))),oq 3 (.mv (.v (.bool false)))]) (.seq (.ops [ oq 4 (.mv (.v (.int .i64 0)))]) (.seq (.seq (.ops [ oq 9 (.mv (.t 0)),oe 10 (.rng (.t 9))]) (.block 0 (.loop c73_21))) c73_26))
@[go_sem] def c73_21_wp:=wp_of c73_21.eq_1
@[go_sem] def c73_26_wp:=wp_of c73_26.eq_1
@[go_sem] def c73_29_wp:=wp_of c73_29.eq_1
def c73:AFn:=⟨29,[.t 2,.t 3],c73_29⟩
theorem c73_ok:compF Tryz.prog Tryz.f73=some c73:=by kernel_rfl
theorem a73 {args:List AV} {σ:ASt} {R:AV->ASt->Prop} (hl:args.length<=29) (h:c73_29.wp Tryz.prog (RetQ [.t 2,.t 3] R) (init args) σ):ACalls Tryz.prog 73 args σ R:=acalls_of Tryz.func73 c73_ok hl h
/-! 74: tabular/token.Errors -/
def c74_3:ACode := .seq (.ops [ oq 0 (.mv (.v (.sl .full [])))]) (.seq (.ops [ oq 1 (.bsl 1 [(.v (.str [35,68,73,86,47,48,33])),(.v (.str [35,78,85,77,33])),(.v (.str [35,86,65,76,85,69,33])),(.v (.str [35,82,69,70,33])),(.v (.str [35,78,47,65])),(.v (.str [35,78,65,77,69,63])),(.v (.str [35,67,89,67,76,69,33]))]),oq 0 (.mv (.t 1))]) .ret)
@[go_sem] def c74_3_wp:=wp_of c74_3.eq_1
def c74:AFn:=⟨2,[.t 0],c74_3⟩
theorem c74_ok:compF Tryz.prog Tryz.f74=some c74:=by kernel_rfl
theorem a74 {args:List AV} {σ:ASt} {R:AV->ASt->Prop} (hl:args.length<=2) (h:c74_3.wp Tryz.prog (RetQ [.t 0] R) (init args) σ):ACalls Tryz.prog 74 args σ R:=acalls_of Tryz.func74 c74_ok hl h
/-! 89: tabular/value.trim -/
def c89_3:ACode := .seq (.ops [ oq 2 (.mv (.v (.str [])))]) (.seq (.ops [ oq 3 (.mv (.t 0)),oe 4 (.call 97 [(.t 3),(.v (.str [32]))]),oq 2 (.mv (.t 4))]) .ret)
@[go_sem] def c89_3_wp:=wp_of c89_3.eq_1
def c89:AFn:=⟨5,[.t 2],c89_3⟩
theorem c89_ok:compF Tryz.prog Tryz.f89=some c89:=by kernel_rfl
theorem a89 {args:List AV} {σ:ASt} {R:AV->ASt->Prop} (hl:args.length<=5) (h:c89_3.wp Tryz.prog (RetQ [.t 2] R) (init args) σ):ACalls Tryz.prog 89 args σ R:=acalls_of Tryz.func89 c89_ok hl h
end Go.A
namespace Go.A
open Go.Proofs
section
variable {σ0 σ:ASt} {k:SK} {n s c:Nat} {q:Role}
theorem set_swap2 {b c:Nat} {r q:Option Role} (h:b≠c):(σ.set b r).set c q=(σ.set c q).set b r:=by
 funext x
 simp only [ASt.set]
 by_cases h1:x=c
 ·subst h1;simp [h.symm]
 ·simp [h1]
theorem Drop.over {σ1:ASt} {r:Option Role} (h:Drop σ1 σ) (hc:σ c=none):Drop (σ1.set c r) σ:=by
 intro b
 by_cases hb:b=c
 ·subst hb;exact .inr hc
 ·rw [ASt.set_ne hb];exact h b
theorem Grown.upon (hg:Grown σ0 σ k n s) (hc:σ c=none):Grown (σ0.set c (some q)) (σ.set c (some q)) k n s/\σ0 c=none:=by
 rcases hg with ⟨h1,h2,rfl⟩|⟨t,T,h1,h2,rfl⟩
 ·exact ⟨.inl ⟨h1,h2,rfl⟩,hc⟩
 ·obtain ⟨h3,h4,h5⟩:=set_none hc
  exact ⟨.inr ⟨t,T,h1,by rw [ASt.set_ne h4];exact h2,set_swap2 h4⟩,h5⟩
theorem Grown.off (h:Grown (σ0.set c (some q)) σ k n s) (hc:σ0 c=none):∃ σ',Drop σ σ'/\Grown σ0 σ' k n s:=by
 rcases h with ⟨h1,h2,rfl⟩|⟨t,T,h1,h2,rfl⟩
 ·exact ⟨σ0,Drop.set hc,.inl ⟨h1,h2,rfl⟩⟩
 ·obtain ⟨h3,h4,h5⟩:=set_none h2
  refine ⟨σ0.set t (some (.tok (n*s))),?_,.inr ⟨t,T,h1,h5,rfl⟩⟩
  rw [set_swap2 h4]
  exact Drop.set (by rw [ASt.set_ne h4];exact hc)
end
inductive PV where
 | blank
 | num (n:Int)
 | text (s:List UInt8)
 | bool (b:Bool)
 | fail (n:Int)
 deriving DecidableEq
def PV.av:PV->AV
 | .blank => .iface 109 (.agg [])
 | .num n => .iface 49 (.int .i64 n)
 | .text s => .iface 88 (.str s)
 | .bool b => .iface 89 (.bool b)
 | .fail n => .iface 45 (.int .i64 n)
theorem PV.av_cells (v:PV):v.av.cells = [v.av]:=by cases v<;>rfl
theorem PV.av_any (v:PV):v.av.isAny=false:=by cases v<;>rfl
def PV.small:PV->Prop
 | .text s=>s.length<=100000
 | _=>True
def argAV (v:PV):AV := .agg [.int .i64 1,.int .i64 1,.bool false,.sl .full [v.av]]
theorem argAV_any (v:PV):(argAV v).isAny=false:=rfl
theorem argAV_len (v:PV):(argAV v).cells.length=4:=rfl
def asNum:PV->Int×Int
 | .blank=>(0,0)
 | .num n=>(n,0)
 | .text s=>match parseD (Lib.trimB s 32) with
   | some n=>(n,0)
   | none=>(0,3)
 | .bool b=>(if b=true then 10000 else 0,0)
 | .fail f=>(0,f)
theorem sTrim_ok (s:List UInt8) (hs:s.length<=9223372036854775807):Pure Tryz.prog 97 [.str s,.str [32]] (.str (Lib.trimB s 32)):=by
 intro σ
 refine ACalls.of_ext (u := .string ⟨(Lib.trimB s 32).toArray⟩) (fun w vs hs' ha=>?_) fun w => .str _
 cases ha with
 | cons h1 h2=>
 cases h2 with
 | cons h2 h3=>
 cases h1;cases h2;cases h3
 exact (Tryz.strings_Trim_one ⟨⟨s⟩⟩ 32 (by decide) w hs).mono fun e w' ⟨he,hw⟩=>⟨he,by rcases hw with rfl|rfl;exact Ext.refl _;exact .drew (.refl _)⟩
theorem trimB_len (s:List UInt8) (c:UInt8):(Lib.trimB s c).length<=s.length:=by
 unfold Lib.trimB
 have h1:∀ l:List UInt8,(Lib.trimRightB l c).length<=l.length:=by
  intro l
  unfold Lib.trimRightB
  rw [List.length_reverse]
  exact Nat.le_trans (List.dropWhile_sublist _).length_le (by simp)
 have h2:∀ l:List UInt8,(Lib.trimLeftB l c).length<=l.length:=by
  intro l
  unfold Lib.trimLeftB
  exact (List.dropWhile_sublist _).length_le
 exact Nat.le_trans (h2 _) (h1 _)
theorem trim_ok (s:List UInt8) (hs:s.length<=9223372036854775807):Pure Tryz.prog 89 [.str s] (.str (Lib.trimB s 32)):=by
 intro σ
 have hT:=sTrim_ok s hs
 refine a89 (by simp) ?_
 simp (disch:=first|assumption|omega|(simp only [List.length_append,List.length_cons,List.length_nil];omega)) only [go_sem,reduceCtorEq,Nat.reduceEqDiff,Nat.reduceAdd,Nat.reduceSub,Nat.reduceMul,Nat.reduceLeDiff,Int.reduceLT,Int.reduceLE,Int.reduceEq,↓reduceIte,Int.reduceNeg,Int.reduceAdd,Int.reduceSub,Int.reduceMul,true_imp_iff,forall_const,Nat.mul_one,Int.reduceToNat,Nat.reducePow,Int.reducePow,Bool.true_and,Bool.false_and,Bool.and_false]
 refine hT.use ?_
 simp (disch:=first|assumption|omega|(simp only [List.length_append,List.length_cons,List.length_nil];omega)) only [go_sem,reduceCtorEq,Nat.reduceEqDiff,Nat.reduceAdd,Nat.reduceSub,Nat.reduceMul,Nat.reduceLeDiff,Int.reduceLT,Int.reduceLE,Int.reduceEq,↓reduceIte,Int.reduceNeg,Int.reduceAdd,Int.reduceSub,Int.reduceMul,true_imp_iff,forall_const,Nat.mul_one,Int.reduceToNat,Nat.reducePow,Int.reducePow,Bool.true_and,Bool.false_and,Bool.and_false]
 exact retC_by (by repeat' (first|exact Drop.refl _|with_reducible refine Drop.off ?_ (by assumption))) (.refl _) ⟨rfl,rfl⟩
theorem asNumber_ok (v:PV) (hv:v.small):Pure Tryz.prog 57 [v.av] (.tuple [.int .i64 (asNum v).1,.int .i64 (asNum v).2]):=by
 intro σ
 refine a57 (by simp) ?_
 cases v with
 | blank=>
   simp only [PV.av,asNum]
   simp (disch:=first|assumption|omega|(simp only [List.length_append,List.length_cons,List.length_nil];omega)) only [go_sem,reduceCtorEq,Nat.reduceEqDiff,Nat.reduceAdd,Nat.reduceSub,Nat.reduceMul,Nat.reduceLeDiff,Int.reduceLT,Int.reduceLE,Int.reduceEq,↓reduceIte,Int.reduceNeg,Int.reduceAdd,Int.reduceSub,Int.reduceMul,true_imp_iff,forall_const,Nat.mul_one,Int.reduceToNat,Nat.reducePow,Int.reducePow,Bool.true_and,Bool.false_and,Bool.and_false]
   exact retC_by (by repeat' (first|exact Drop.refl _|with_reducible refine Drop.off ?_ (by assumption))) (.refl _) ⟨rfl,rfl⟩
 | num n=>
   simp only [PV.av,asNum]
   simp (disch:=first|assumption|omega|(simp only [List.length_append,List.length_cons,List.length_nil];omega)) only [go_sem,reduceCtorEq,Nat.reduceEqDiff,Nat.reduceAdd,Nat.reduceSub,Nat.reduceMul,Nat.reduceLeDiff,Int.reduceLT,Int.reduceLE,Int.reduceEq,↓reduceIte,Int.reduceNeg,Int.reduceAdd,Int.reduceSub,Int.reduceMul,true_imp_iff,forall_const,Nat.mul_one,Int.reduceToNat,Nat.reducePow,Int.reducePow,Bool.true_and,Bool.false_and,Bool.and_false]
   exact retC_by (by repeat' (first|exact Drop.refl _|with_reducible refine Drop.off ?_ (by assumption))) (.refl _) ⟨rfl,rfl⟩
 | text s=>
   have hs:s.length<=100000:=hv
   have hT:=trim_ok s (by omega)
   have hP:=dparse_ok (Lib.trimB s 32) (by have:=trimB_len s 32;omega)
   simp only [PV.av,asNum]
   generalize Lib.trimB s 32=t at *
   cases ho:parseD t with
   | none=>
     rw [ho] at hP
     simp only [resAV,Option.getD_none,Option.isSome_none] at hP
     simp (disch:=first|assumption|omega|(simp only [List.length_append,List.length_cons,List.length_nil];omega)) only [go_sem,reduceCtorEq,Nat.reduceEqDiff,Nat.reduceAdd,Nat.reduceSub,Nat.reduceMul,Nat.reduceLeDiff,Int.reduceLT,Int.reduceLE,Int.reduceEq,↓reduceIte,Int.reduceNeg,Int.reduceAdd,Int.reduceSub,Int.reduceMul,true_imp_iff,forall_const,Nat.mul_one,Int.reduceToNat,Nat.reducePow,Int.reducePow,Bool.true_and,Bool.false_and,Bool.and_false]
     refine hT.use ?_
     simp (disch:=first|assumption|omega|(simp only [List.length_append,List.length_cons,List.length_nil];omega)) only [go_sem,reduceCtorEq,Nat.reduceEqDiff,Nat.reduceAdd,Nat.reduceSub,Nat.reduceMul,Nat.reduceLeDiff,Int.reduceLT,Int.reduceLE,Int.reduceEq,↓reduceIte,Int.reduceNeg,Int.reduceAdd,Int.reduceSub,Int.reduceMul,true_imp_iff,forall_const,Nat.mul_one,Int.reduceToNat,Nat.reducePow,Int.reducePow,Bool.true_and,Bool.false_and,Bool.and_false]
     refine hP.use ?_
     simp (disch:=first|assumption|omega|(simp only [List.length_append,List.length_cons,List.length_nil];omega)) only [go_sem,reduceCtorEq,Nat.reduceEqDiff,Nat.reduceAdd,Nat.reduceSub,Nat.reduceMul,Nat.reduceLeDiff,Int.reduceLT,Int.reduceLE,Int.reduceEq,↓reduceIte,Int.reduceNeg,Int.reduceAdd,Int.reduceSub,Int.reduceMul,true_imp_iff,forall_const,Nat.mul_one,Int.reduceToNat,Nat.reducePow,Int.reducePow,Bool.true_and,Bool.false_and,Bool.and_false]
     exact retC_by (by repeat' (first|exact Drop.refl _|with_reducible refine Drop.off ?_ (by assumption))) (.refl _) ⟨rfl,rfl⟩
   | some n=>
     rw [ho] at hP
     simp only [resAV,Option.getD_some,Option.isSome_some] at hP
     simp (disch:=first|assumption|omega|(simp only [List.length_append,List.length_cons,List.length_nil];omega)) only [go_sem,reduceCtorEq,Nat.reduceEqDiff,Nat.reduceAdd,Nat.reduceSub,Nat.reduceMul,Nat.reduceLeDiff,Int.reduceLT,Int.reduceLE,Int.reduceEq,↓reduceIte,Int.reduceNeg,Int.reduceAdd,Int.reduceSub,Int.reduceMul,true_imp_iff,forall_const,Nat.mul_one,Int.reduceToNat,Nat.reducePow,Int.reducePow,Bool.true_and,Bool.false_and,Bool.and_false]
     refine hT.use ?_
     simp (disch:=first|assumption|omega|(simp only [List.length_append,List.length_cons,List.length_nil];omega)) only [go_sem,reduceCtorEq,Nat.reduceEqDiff,Nat.reduceAdd,Nat.reduceSub,Nat.reduceMul,Nat.reduceLeDiff,Int.reduceLT,Int.reduceLE,Int.reduceEq,↓reduceIte,Int.reduceNeg,Int.reduceAdd,Int.reduceSub,Int.reduceMul,true_imp_iff,forall_const,Nat.mul_one,Int.reduceToNat,Nat.reducePow,Int.reducePow,Bool.true_and,Bool.false_and,Bool.and_false]
     refine hP.use ?_
     simp (disch:=first|assumption|omega|(simp only [List.length_append,List.length_cons,List.length_nil];omega)) only [go_sem,reduceCtorEq,Nat.reduceEqDiff,Nat.reduceAdd,Nat.reduceSub,Nat.reduceMul,Nat.reduceLeDiff,Int.reduceLT,Int.reduceLE,Int.reduceEq,↓reduceIte,Int.reduceNeg,Int.reduceAdd,Int.reduceSub,Int.reduceMul,true_imp_iff,forall_const,Nat.mul_one,Int.reduceToNat,Nat.reducePow,Int.reducePow,Bool.true_and,Bool.false_and,Bool.and_false]
     exact retC_by (by repeat' (first|exact Drop.refl _|with_reducible refine Drop.off ?_ (by assumption))) (.refl _) ⟨rfl,rfl⟩
 | bool b=>
   simp only [PV.av,asNum]
   cases b
   ·simp (disch:=first|assumption|omega|(simp only [List.length_append,List.length_cons,List.length_nil];omega)) only [go_sem,reduceCtorEq,Nat.reduceEqDiff,Nat.reduceAdd,Nat.reduceSub,Nat.reduceMul,Nat.reduceLeDiff,Int.reduceLT,Int.reduceLE,Int.reduceEq,↓reduceIte,Int.reduceNeg,Int.reduceAdd,Int.reduceSub,Int.reduceMul,true_imp_iff,forall_const,Nat.mul_one,Int.reduceToNat,Nat.reducePow,Int.reducePow,Bool.true_and,Bool.false_and,Bool.and_false]
    exact retC_by (by repeat' (first|exact Drop.refl _|with_reducible refine Drop.off ?_ (by assumption))) (.refl _) ⟨rfl,rfl⟩
   ·simp (disch:=first|assumption|omega|(simp only [List.length_append,List.length_cons,List.length_nil];omega)) only [go_sem,reduceCtorEq,Nat.reduceEqDiff,Nat.reduceAdd,Nat.reduceSub,Nat.reduceMul,Nat.reduceLeDiff,Int.reduceLT,Int.reduceLE,Int.reduceEq,↓reduceIte,Int.reduceNeg,Int.reduceAdd,Int.reduceSub,Int.reduceMul,true_imp_iff,forall_const,Nat.mul_one,Int.reduceToNat,Nat.reducePow,Int.reducePow,Bool.true_and,Bool.false_and,Bool.and_false]
    exact retC_by (by repeat' (first|exact Drop.refl _|with_reducible refine Drop.off ?_ (by assumption))) (.refl _) ⟨rfl,rfl⟩
 | fail f=>
   simp only [PV.av,asNum]
   simp (disch:=first|assumption|omega|(simp only [List.length_append,List.length_cons,List.length_nil];omega)) only [go_sem,reduceCtorEq,Nat.reduceEqDiff,Nat.reduceAdd,Nat.reduceSub,Nat.reduceMul,Nat.reduceLeDiff,Int.reduceLT,Int.reduceLE,Int.reduceEq,↓reduceIte,Int.reduceNeg,Int.reduceAdd,Int.reduceSub,Int.reduceMul,true_imp_iff,forall_const,Nat.mul_one,Int.reduceToNat,Nat.reducePow,Int.reducePow,Bool.true_and,Bool.false_and,Bool.and_false]
   exact retC_by (by repeat' (first|exact Drop.refl _|with_reducible refine Drop.off ?_ (by assumption))) (.refl _) ⟨rfl,rfl⟩
theorem argval_ok (v:PV):Pure Tryz.prog 56 [argAV v] v.av:=by
 intro σ
 unfold argAV
 have h1:=PV.av_cells v
 have h2:=PV.av_any v
 obtain ⟨x,hx⟩:∃ x,v.av=x:=⟨_,rfl⟩
 rw [hx] at h1 h2 ⊢
 refine a56 (by simp) ?_
 simp (disch:=first|assumption|omega|(simp only [List.length_append,List.length_cons,List.length_nil];omega)) only [go_sem,reduceCtorEq,Nat.reduceEqDiff,Nat.reduceAdd,Nat.reduceSub,Nat.reduceMul,Nat.reduceLeDiff,Int.reduceLT,Int.reduceLE,Int.reduceEq,↓reduceIte,Int.reduceNeg,Int.reduceAdd,Int.reduceSub,Int.reduceMul,true_imp_iff,forall_const,Nat.mul_one,Int.reduceToNat,Nat.reducePow,Int.reducePow,Bool.true_and,Bool.false_and,Bool.and_false]
 refine boxC_by rfl fun b hb=>?_
 simp (disch:=first|assumption|omega|(simp only [List.length_append,List.length_cons,List.length_nil];omega)) only [go_sem,reduceCtorEq,Nat.reduceEqDiff,Nat.reduceAdd,Nat.reduceSub,Nat.reduceMul,Nat.reduceLeDiff,Int.reduceLT,Int.reduceLE,Int.reduceEq,↓reduceIte,Int.reduceNeg,Int.reduceAdd,Int.reduceSub,Int.reduceMul,true_imp_iff,forall_const,Nat.mul_one,Int.reduceToNat,Nat.reducePow,Int.reducePow,Bool.true_and,Bool.false_and,Bool.and_false,h1,h2]
 exact retC_by (by repeat' (first|exact Drop.refl _|with_reducible refine Drop.off ?_ (by assumption))) (.refl _) ⟨by cases v<;>subst hx<;>rfl,rfl⟩
theorem vone_ok (v:PV):Pure Tryz.prog 36 [v.av] (argAV v):=by
 intro σ
 unfold argAV
 have h1:=PV.av_cells v
 have h2:=PV.av_any v
 generalize v.av=x at *
 refine a36 (by simp) ?_
 simp (disch:=first|assumption|omega|(simp only [List.length_append,List.length_cons,List.length_nil];omega)) only [go_sem,reduceCtorEq,Nat.reduceEqDiff,Nat.reduceAdd,Nat.reduceSub,Nat.reduceMul,Nat.reduceLeDiff,Int.reduceLT,Int.reduceLE,Int.reduceEq,↓reduceIte,Int.reduceNeg,Int.reduceAdd,Int.reduceSub,Int.reduceMul,true_imp_iff,forall_const,Nat.mul_one,Int.reduceToNat,Nat.reducePow,Int.reducePow,Bool.true_and,Bool.false_and,Bool.and_false,h1,h2]
 refine allocC_by fun b hb=>?_
 simp (disch:=first|assumption|omega|(simp only [List.length_append,List.length_cons,List.length_nil];omega)) only [go_sem,reduceCtorEq,Nat.reduceEqDiff,Nat.reduceAdd,Nat.reduceSub,Nat.reduceMul,Nat.reduceLeDiff,Int.reduceLT,Int.reduceLE,Int.reduceEq,↓reduceIte,Int.reduceNeg,Int.reduceAdd,Int.reduceSub,Int.reduceMul,true_imp_iff,forall_const,Nat.mul_one,Int.reduceToNat,Nat.reducePow,Int.reducePow,Bool.true_and,Bool.false_and,Bool.and_false,h1,h2]
 exact retC_by (by repeat' (first|exact Drop.refl _|with_reducible refine Drop.off ?_ (by assumption))) (.refl _) ⟨rfl,rfl⟩
def cntP:Option Int->PV
 | some n => .num n
 | none => .fail 2
theorem counted_ok (o:Option Int):Pure Tryz.prog 20 [.int .i64 (o.getD 0),.bool o.isSome] (cntP o).av:=by
 intro σ
 refine a20 (by simp) ?_
 cases o with
 | none=>
   simp only [cntP,PV.av,Option.getD_none,Option.isSome_none]
   simp (disch:=first|assumption|omega|(simp only [List.length_append,List.length_cons,List.length_nil];omega)) only [go_sem,reduceCtorEq,Nat.reduceEqDiff,Nat.reduceAdd,Nat.reduceSub,Nat.reduceMul,Nat.reduceLeDiff,Int.reduceLT,Int.reduceLE,Int.reduceEq,↓reduceIte,Int.reduceNeg,Int.reduceAdd,Int.reduceSub,Int.reduceMul,true_imp_iff,forall_const,Nat.mul_one,Int.reduceToNat,Nat.reducePow,Int.reducePow,Bool.true_and,Bool.false_and,Bool.and_false]
   exact retC_by (by repeat' (first|exact Drop.refl _|with_reducible refine Drop.off ?_ (by assumption))) (.refl _) ⟨rfl,rfl⟩
 | some n=>
   simp only [cntP,PV.av,Option.getD_some,Option.isSome_some]
   simp (disch:=first|assumption|omega|(simp only [List.length_append,List.length_cons,List.length_nil];omega)) only [go_sem,reduceCtorEq,Nat.reduceEqDiff,Nat.reduceAdd,Nat.reduceSub,Nat.reduceMul,Nat.reduceLeDiff,Int.reduceLT,Int.reduceLE,Int.reduceEq,↓reduceIte,Int.reduceNeg,Int.reduceAdd,Int.reduceSub,Int.reduceMul,true_imp_iff,forall_const,Nat.mul_one,Int.reduceToNat,Nat.reducePow,Int.reducePow,Bool.true_and,Bool.false_and,Bool.and_false]
   exact retC_by (by repeat' (first|exact Drop.refl _|with_reducible refine Drop.off ?_ (by assumption))) (.refl _) ⟨rfl,rfl⟩
def tellAV:PV->AV
 | .blank => .agg [.int .i64 0,.int .i64 0,.str []]
 | .num n => .agg [.int .i64 1,.int .i64 n,.str []]
 | .text s => .agg [.int .i64 2,.int .i64 0,.str s]
 | .bool b => .agg [.int .i64 3,.int .i64 (if b=true then 1 else 0),.str []]
 | .fail n => .agg [.int .i64 4,.int .i64 n,.str []]
theorem tell_ok (v:PV):Pure Tryz.prog 14 [v.av] (tellAV v):=by
 intro σ
 refine a14 (by simp) ?_
 cases v with
 | bool b=>
   cases b<;>simp only [PV.av,tellAV]<;>simp (disch:=first|assumption|omega|(simp only [List.length_append,List.length_cons,List.length_nil];omega)) only [go_sem,reduceCtorEq,Nat.reduceEqDiff,Nat.reduceAdd,Nat.reduceSub,Nat.reduceMul,Nat.reduceLeDiff,Int.reduceLT,Int.reduceLE,Int.reduceEq,↓reduceIte,Int.reduceNeg,Int.reduceAdd,Int.reduceSub,Int.reduceMul,true_imp_iff,forall_const,Nat.mul_one,Int.reduceToNat,Nat.reducePow,Int.reducePow,Bool.true_and,Bool.false_and,Bool.and_false]
   all_goals
    refine allocC_by fun b hb=>?_
    simp (disch:=first|assumption|omega|(simp only [List.length_append,List.length_cons,List.length_nil];omega)) only [go_sem,reduceCtorEq,Nat.reduceEqDiff,Nat.reduceAdd,Nat.reduceSub,Nat.reduceMul,Nat.reduceLeDiff,Int.reduceLT,Int.reduceLE,Int.reduceEq,↓reduceIte,Int.reduceNeg,Int.reduceAdd,Int.reduceSub,Int.reduceMul,true_imp_iff,forall_const,Nat.mul_one,Int.reduceToNat,Nat.reducePow,Int.reducePow,Bool.true_and,Bool.false_and,Bool.and_false]
    exact retC_by (by repeat' (first|exact Drop.refl _|with_reducible refine Drop.off ?_ (by assumption))) (.refl _) ⟨rfl,rfl⟩
 | _=>
   simp only [PV.av,tellAV]
   simp (disch:=first|assumption|omega|(simp only [List.length_append,List.length_cons,List.length_nil];omega)) only [go_sem,reduceCtorEq,Nat.reduceEqDiff,Nat.reduceAdd,Nat.reduceSub,Nat.reduceMul,Nat.reduceLeDiff,Int.reduceLT,Int.reduceLE,Int.reduceEq,↓reduceIte,Int.reduceNeg,Int.reduceAdd,Int.reduceSub,Int.reduceMul,true_imp_iff,forall_const,Nat.mul_one,Int.reduceToNat,Nat.reducePow,Int.reducePow,Bool.true_and,Bool.false_and,Bool.and_false]
   refine allocC_by fun b hb=>?_
   simp (disch:=first|assumption|omega|(simp only [List.length_append,List.length_cons,List.length_nil];omega)) only [go_sem,reduceCtorEq,Nat.reduceEqDiff,Nat.reduceAdd,Nat.reduceSub,Nat.reduceMul,Nat.reduceLeDiff,Int.reduceLT,Int.reduceLE,Int.reduceEq,↓reduceIte,Int.reduceNeg,Int.reduceAdd,Int.reduceSub,Int.reduceMul,true_imp_iff,forall_const,Nat.mul_one,Int.reduceToNat,Nat.reducePow,Int.reducePow,Bool.true_and,Bool.false_and,Bool.and_false]
   exact retC_by (by repeat' (first|exact Drop.refl _|with_reducible refine Drop.off ?_ (by assumption))) (.refl _) ⟨rfl,rfl⟩
end Go.A
namespace Go.A
open Go.Proofs
def sABS:List UInt8 := [65,66,83]
def sSIGN:List UInt8 := [83,73,71,78]
def sINT:List UInt8 := [73,78,84]
def sSQRT:List UInt8 := [83,81,82,84]
def sFACT:List UInt8 := [70,65,67,84]
def sEVEN:List UInt8 := [69,86,69,78]
def sODD:List UInt8 := [79,68,68]
def sTRUNC:List UInt8 := [84,82,85,78,67]
def sFLOOR:List UInt8 := [70,76,79,79,82]
def sCEIL:List UInt8 := [67,69,73,76,73,78,71]
def sROUND:List UInt8 := [82,79,85,78,68]
def sUP:List UInt8 := [82,79,85,78,68,85,80]
def sDOWN:List UInt8 := [82,79,85,78,68,68,79,87,78]
def sMROUND:List UInt8 := [77,82,79,85,78,68]
def sMOD:List UInt8 := [77,79,68]
def sQUOT:List UInt8 := [81,85,79,84,73,69,78,84]
def sPOWER:List UInt8 := [80,79,87,69,82]
def sCLAMP:List UInt8 := [67,76,65,77,80]
def sGCD:List UInt8 := [71,67,68]
def sLCM:List UInt8 := [76,67,77]
def limP (s:List UInt8):Int×Int:=
 if s ∈ [sABS,sSIGN,sINT,sSQRT,sFACT,sEVEN,sODD] then (1,1)
 else if s ∈ [sTRUNC,sFLOOR,sCEIL,sROUND,sUP,sDOWN] then (1,2)
 else if s ∈ [sMROUND,sMOD,sQUOT,sPOWER] then (2,2)
 else if s=sCLAMP then (3,3)
 else if s ∈ [sGCD,sLCM] then (1,30)
 else (0,0)
set_option maxHeartbeats 1000000 in
theorem limits_ok (s:List UInt8):Pure Tryz.prog 15 [.str s] (.tuple [.int .i64 (limP s).1,.int .i64 (limP s).2]):=by
 intro σ
 refine a15 (by simp) ?_
 repeat' (first|(simp (disch:=first|assumption|omega|(simp only [List.length_append,List.length_cons,List.length_nil];omega)) only [go_sem,reduceCtorEq,Nat.reduceEqDiff,Nat.reduceAdd,Nat.reduceSub,Nat.reduceMul,Nat.reduceLeDiff,Int.reduceLT,Int.reduceLE,Int.reduceEq,↓reduceIte,Int.reduceNeg,Int.reduceAdd,Int.reduceSub,Int.reduceMul,true_imp_iff,forall_const,Nat.mul_one,Int.reduceToNat,Nat.reducePow,Int.reducePow,Bool.true_and,Bool.false_and,Bool.and_false])|with_reducible refine gC_d (fun h=>?_) (fun h=>?_)|with_reducible refine gC_dn (fun h=>?_) (fun h=>?_)|with_reducible refine condC_d (fun h=>?_) (fun h=>?_)|with_reducible refine condC_n (fun h=>?_) (fun h=>?_)|with_reducible refine condC_b (fun h=>?_) (fun h=>?_)|with_reducible refine boxC_by ?_ fun b hb=>?_)
 all_goals refine retC_by (by repeat' (first|exact Drop.refl _|with_reducible refine Drop.off ?_ (by assumption))) (.refl _) ⟨?_,rfl⟩
 all_goals simp [resV_one,limP,sABS,sSIGN,sINT,sSQRT,sFACT,sEVEN,sODD,sTRUNC,sFLOOR,sCEIL,sROUND,sUP,sDOWN,sMROUND,sMOD,sQUOT,sPOWER,sCLAMP,sGCD,sLCM, *]
 all_goals rfl
theorem mhas_ok (s:List UInt8):Pure Tryz.prog 7 [.str s] (.bool (decide (0<(limP s).2))):=by
 intro σ
 have hL:=limits_ok s
 generalize (limP s).1=x at *
 generalize (limP s).2=y at *
 refine a7 (by simp) ?_
 simp (disch:=first|assumption|omega|(simp only [List.length_append,List.length_cons,List.length_nil];omega)) only [go_sem,reduceCtorEq,Nat.reduceEqDiff,Nat.reduceAdd,Nat.reduceSub,Nat.reduceMul,Nat.reduceLeDiff,Int.reduceLT,Int.reduceLE,Int.reduceEq,↓reduceIte,Int.reduceNeg,Int.reduceAdd,Int.reduceSub,Int.reduceMul,true_imp_iff,forall_const,Nat.mul_one,Int.reduceToNat,Nat.reducePow,Int.reducePow,Bool.true_and,Bool.false_and,Bool.and_false]
 refine hL.use ?_
 simp (disch:=first|assumption|omega|(simp only [List.length_append,List.length_cons,List.length_nil];omega)) only [go_sem,reduceCtorEq,Nat.reduceEqDiff,Nat.reduceAdd,Nat.reduceSub,Nat.reduceMul,Nat.reduceLeDiff,Int.reduceLT,Int.reduceLE,Int.reduceEq,↓reduceIte,Int.reduceNeg,Int.reduceAdd,Int.reduceSub,Int.reduceMul,true_imp_iff,forall_const,Nat.mul_one,Int.reduceToNat,Nat.reducePow,Int.reducePow,Bool.true_and,Bool.false_and,Bool.and_false]
 exact retC_by (by repeat' (first|exact Drop.refl _|with_reducible refine Drop.off ?_ (by assumption))) (.refl _) ⟨rfl,rfl⟩
def numsA:List Int->List PV->List Int ⊕ Int
 | acc,[] => .inl acc
 | acc,v::r=>if (asNum v).2=0 then numsA (acc ++ [(asNum v).1]) r else .inr (asNum v).2
def numsAV:List Int ⊕ Int->AV
 | .inl L => .tuple [.sl .shr (L.map (AV.int .i64)),.int .i64 0]
 | .inr f => .tuple [.sl .shr [],.int .i64 f]
theorem arg_get {L:List PV} {i:Nat} {v:PV} (h:L[i]? = some v):(L.map argAV)[i]? = some (argAV v):=by rw [List.getElem?_map,h];rfl
set_option maxHeartbeats 1000000 in
theorem numbers_ok (L:List PV) (hn:L.length<=1000000) (hs:∀ v∈L,v.small):Pure Tryz.prog 17 [.sl .shr (L.map argAV)] (numsAV (numsA [] L)):=by
 intro σ
 obtain ⟨R,hR⟩:∃ R,numsA [] L=R:=⟨_,rfl⟩
 rw [hR]
 refine a17 (by simp) ?_
 obtain ⟨F,hF⟩:∃ F,F=ACode.wp Tryz.prog c17_25:=⟨_,rfl⟩
 simp (disch:=first|assumption|omega|(simp only [List.length_append,List.length_cons,List.length_nil];omega)) only [go_sem,reduceCtorEq,Nat.reduceEqDiff,Nat.reduceAdd,Nat.reduceSub,Nat.reduceMul,Nat.reduceLeDiff,Int.reduceLT,Int.reduceLE,Int.reduceEq,↓reduceIte,Int.reduceNeg,Int.reduceAdd,Int.reduceSub,Int.reduceMul,true_imp_iff,forall_const,Nat.mul_one,Int.reduceToNat,Nat.reducePow,Int.reducePow,Bool.true_and,Bool.false_and,Bool.and_false,←hF]
 refine wp_loop_by (fun (i:Nat) a σ'=>i<=L.length/\(a 9 = .sl .shr (L.map argAV)/\a 10 = .int .i64 L.length/\a 11 = .int .i64 i)/\∃ (acc:List Int) (k:SK),R=numsA acc (L.drop i)/\acc.length=i/\a 4 = .sl k (acc.map (AV.int .i64))/\Grown σ σ' k (acc.map (AV.int .i64)).length 1)
  (fun i=>L.length-i) 0 (Dr.now ⟨Nat.zero_le _,?_,[],.full,hR.symm,rfl,?_,.inl ⟨rfl,by simp,rfl⟩⟩) ?_
 ·simp (disch:=first|assumption|omega|(simp only [List.length_append,List.length_cons,List.length_nil];omega)) only [go_sem,reduceCtorEq,Nat.reduceEqDiff,Nat.reduceAdd,Nat.reduceSub,Nat.reduceMul,Nat.reduceLeDiff,Int.reduceLT,Int.reduceLE,Int.reduceEq,↓reduceIte,Int.reduceNeg,Int.reduceAdd,Int.reduceSub,Int.reduceMul,true_imp_iff,forall_const,Nat.mul_one,Int.reduceToNat,Nat.reducePow,Int.reducePow,Bool.true_and,Bool.false_and,Bool.and_false]
 ·simp (disch:=first|assumption|omega|(simp only [List.length_append,List.length_cons,List.length_nil];omega)) only [go_sem,reduceCtorEq,Nat.reduceEqDiff,Nat.reduceAdd,Nat.reduceSub,Nat.reduceMul,Nat.reduceLeDiff,Int.reduceLT,Int.reduceLE,Int.reduceEq,↓reduceIte,Int.reduceNeg,Int.reduceAdd,Int.reduceSub,Int.reduceMul,true_imp_iff,forall_const,Nat.mul_one,Int.reduceToNat,Nat.reducePow,Int.reducePow,Bool.true_and,Bool.false_and,Bool.and_false]
 rintro i a σ1 ⟨hi,hf,acc,k,hA,hl,h4,hg⟩
 by_cases hlt:i<L.length
 ·have hlt':(i:Int)<L.length:=by omega
  have hx : L[i]? = some (L[i]'hlt) := List.getElem?_eq_getElem hlt
  rw [List.drop_eq_getElem_cons hlt] at hA
  have hsm:=hs _ (List.getElem_mem hlt)
  obtain ⟨v, hv⟩ : ∃ v, L[i]'hlt = v := ⟨_, rfl⟩
  rw [hv] at hx hA hsm
  have hmx:=arg_get hx
  have hV:=argval_ok v
  have hN:=asNumber_ok v hsm
  unfold argAV at hmx hV
  unfold argAV at hf
  rw [numsA] at hA
  obtain ⟨x,hxe⟩:∃ x,v.av=x:=⟨_,rfl⟩
  rw [hxe] at hmx hV hN
  obtain ⟨n,hne⟩:∃ n,(asNum v).1=n:=⟨_,rfl⟩
  obtain ⟨f,hfe⟩:∃ f,(asNum v).2=f:=⟨_,rfl⟩
  rw [hne,hfe] at hA hN
  simp (disch:=first|assumption|omega|(simp only [List.length_append,List.length_cons,List.length_nil];omega)) only [go_sem,reduceCtorEq,Nat.reduceEqDiff,Nat.reduceAdd,Nat.reduceSub,Nat.reduceMul,Nat.reduceLeDiff,Int.reduceLT,Int.reduceLE,Int.reduceEq,↓reduceIte,Int.reduceNeg,Int.reduceAdd,Int.reduceSub,Int.reduceMul,true_imp_iff,forall_const,Nat.mul_one,Int.reduceToNat,Nat.reducePow,Int.reducePow,Bool.true_and,Bool.false_and,Bool.and_false,hf,h4,hlt',hmx,←hF]
  refine allocC_by fun c hc=>?_
  obtain ⟨hga,hc0⟩:=hg.upon hc (q := .obj [.int .i64 1,.int .i64 1,.bool false,.sl .full [x]])
  simp (disch:=first|assumption|omega|(simp only [List.length_append,List.length_cons,List.length_nil];omega)) only [go_sem,reduceCtorEq,Nat.reduceEqDiff,Nat.reduceAdd,Nat.reduceSub,Nat.reduceMul,Nat.reduceLeDiff,Int.reduceLT,Int.reduceLE,Int.reduceEq,↓reduceIte,Int.reduceNeg,Int.reduceAdd,Int.reduceSub,Int.reduceMul,true_imp_iff,forall_const,Nat.mul_one,Int.reduceToNat,Nat.reducePow,Int.reducePow,Bool.true_and,Bool.false_and,Bool.and_false,hf,h4,←hF]
  refine hV.use ?_
  simp (disch:=first|assumption|omega|(simp only [List.length_append,List.length_cons,List.length_nil];omega)) only [go_sem,reduceCtorEq,Nat.reduceEqDiff,Nat.reduceAdd,Nat.reduceSub,Nat.reduceMul,Nat.reduceLeDiff,Int.reduceLT,Int.reduceLE,Int.reduceEq,↓reduceIte,Int.reduceNeg,Int.reduceAdd,Int.reduceSub,Int.reduceMul,true_imp_iff,forall_const,Nat.mul_one,Int.reduceToNat,Nat.reducePow,Int.reducePow,Bool.true_and,Bool.false_and,Bool.and_false,hf,h4,←hF]
  refine hN.use ?_
  by_cases hf0:f=0
  ·subst hf0
   rw [if_pos rfl] at hA
   simp (disch:=first|assumption|omega|(simp only [List.length_append,List.length_cons,List.length_nil];omega)) only [go_sem,reduceCtorEq,Nat.reduceEqDiff,Nat.reduceAdd,Nat.reduceSub,Nat.reduceMul,Nat.reduceLeDiff,Int.reduceLT,Int.reduceLE,Int.reduceEq,↓reduceIte,Int.reduceNeg,Int.reduceAdd,Int.reduceSub,Int.reduceMul,true_imp_iff,forall_const,Nat.mul_one,Int.reduceToNat,Nat.reducePow,Int.reducePow,Bool.true_and,Bool.false_and,Bool.and_false,hf,h4,←hF]
   refine appC_by hga rfl rfl (by simp;omega) (by simp;omega) fun k' σ' hg'=>?_
   have hap:acc.map (AV.int .i64) ++ [AV.int .i64 n]=(acc ++ [n]).map (AV.int .i64):=by simp
   rw [hap] at hg' ⊢
   obtain ⟨σ2,hd,hg2⟩:=hg'.off hc0
   simp (disch:=first|assumption|omega|(simp only [List.length_append,List.length_cons,List.length_nil];omega)) only [go_sem,reduceCtorEq,Nat.reduceEqDiff,Nat.reduceAdd,Nat.reduceSub,Nat.reduceMul,Nat.reduceLeDiff,Int.reduceLT,Int.reduceLE,Int.reduceEq,↓reduceIte,Int.reduceNeg,Int.reduceAdd,Int.reduceSub,Int.reduceMul,true_imp_iff,forall_const,Nat.mul_one,Int.reduceToNat,Nat.reducePow,Int.reducePow,Bool.true_and,Bool.false_and,Bool.and_false,hf,←hF]
   refine ⟨i+1,by dsimp only;omega,Dr.drop hd ⟨by omega,?_,acc ++ [n],k',hA,by simp;omega,?_,by simpa using hg2⟩⟩
   ·unfold argAV
    simp (disch:=first|assumption|omega|(simp only [List.length_append,List.length_cons,List.length_nil];omega)) only [go_sem,reduceCtorEq,Nat.reduceEqDiff,Nat.reduceAdd,Nat.reduceSub,Nat.reduceMul,Nat.reduceLeDiff,Int.reduceLT,Int.reduceLE,Int.reduceEq,↓reduceIte,Int.reduceNeg,Int.reduceAdd,Int.reduceSub,Int.reduceMul,true_imp_iff,forall_const,Nat.mul_one,Int.reduceToNat,Nat.reducePow,Int.reducePow,Bool.true_and,Bool.false_and,Bool.and_false,hf]
   ·rfl
  ·rw [if_neg hf0] at hA
   subst hA
   simp (disch:=first|assumption|omega|(simp only [List.length_append,List.length_cons,List.length_nil];omega)) only [go_sem,reduceCtorEq,Nat.reduceEqDiff,Nat.reduceAdd,Nat.reduceSub,Nat.reduceMul,Nat.reduceLeDiff,Int.reduceLT,Int.reduceLE,Int.reduceEq,↓reduceIte,Int.reduceNeg,Int.reduceAdd,Int.reduceSub,Int.reduceMul,true_imp_iff,forall_const,Nat.mul_one,Int.reduceToNat,Nat.reducePow,Int.reducePow,Bool.true_and,Bool.false_and,Bool.and_false,hf,hf0,←hF]
   exact retC_by (hg.drop.over hc0) (.tuple (.cons (.sl _ _) (.cons (.refl _) .nil))) ⟨rfl,rfl⟩
 ·have hlt':¬ (i:Int)<L.length:=by omega
  rw [List.drop_eq_nil_of_le (by omega),numsA] at hA
  subst hA
  simp only [numsAV]
  simp (disch:=first|assumption|omega|(simp only [List.length_append,List.length_cons,List.length_nil];omega)) only [go_sem,reduceCtorEq,Nat.reduceEqDiff,Nat.reduceAdd,Nat.reduceSub,Nat.reduceMul,Nat.reduceLeDiff,Int.reduceLT,Int.reduceLE,Int.reduceEq,↓reduceIte,Int.reduceNeg,Int.reduceAdd,Int.reduceSub,Int.reduceMul,true_imp_iff,forall_const,Nat.mul_one,Int.reduceToNat,Nat.reducePow,Int.reducePow,Bool.true_and,Bool.false_and,Bool.and_false,hf,h4,hlt',←hF]
  rw [hF]
  simp (disch:=first|assumption|omega|(simp only [List.length_append,List.length_cons,List.length_nil];omega)) only [go_sem,reduceCtorEq,Nat.reduceEqDiff,Nat.reduceAdd,Nat.reduceSub,Nat.reduceMul,Nat.reduceLeDiff,Int.reduceLT,Int.reduceLE,Int.reduceEq,↓reduceIte,Int.reduceNeg,Int.reduceAdd,Int.reduceSub,Int.reduceMul,true_imp_iff,forall_const,Nat.mul_one,Int.reduceToNat,Nat.reducePow,Int.reducePow,Bool.true_and,Bool.false_and,Bool.and_false,h4]
  exact retC_by hg.drop (.tuple (.cons (.sl _ _) (.cons (.refl _) .nil))) ⟨rfl,rfl⟩
end Go.A
namespace Go.A
open Go.Proofs
theorem call_ofS {σ:ASt} (s:List UInt8) (L:List PV) (R:PV) (hn:L.length<=1000) (hs:∀ v∈L,v.small) (h0:(limP s).2=0->R = .fail 6)
  (h1:(limP s).2≠0->((L.length:Int)<(limP s).1\/(limP s).2<L.length)->R = .fail 3)
  (h2:∀ f,(limP s).2≠0->(limP s).1<=L.length->(L.length:Int)<=(limP s).2->numsA [] L = .inr f->f≠0/\R = .fail f)
  (h3:∀ N,(limP s).2≠0->(limP s).1<=L.length->(L.length:Int)<=(limP s).2->numsA [] L = .inl N->∀ (a:AFr),(a 0 = .str s/\a 7 = .sl .shr (N.map (AV.int .i64)))->ACode.wp Tryz.prog c10_123 (RetQ [.t 4] fun v σ'=>v=R.av/\σ'=σ) a σ) :
  ACalls Tryz.prog 10 [.str s,.sl .shr (L.map argAV)] σ (fun v σ'=>v=R.av/\σ'=σ):=by
 have hL:=limits_ok s
 have hN:=numbers_ok L (by omega) hs
 generalize (limP s).1=least at *
 generalize (limP s).2=most at *
 obtain ⟨F,hF⟩:∃ F,F=ACode.wp Tryz.prog c10_123:=⟨_,rfl⟩
 rw [<-hF] at h3
 refine a10 (by simp) ?_
 simp (disch:=first|assumption|omega|(simp only [List.length_append,List.length_cons,List.length_nil];omega)) only [go_sem,reduceCtorEq,Nat.reduceEqDiff,Nat.reduceAdd,Nat.reduceSub,Nat.reduceMul,Nat.reduceLeDiff,Int.reduceLT,Int.reduceLE,Int.reduceEq,↓reduceIte,Int.reduceNeg,Int.reduceAdd,Int.reduceSub,Int.reduceMul,true_imp_iff,forall_const,Nat.mul_one,Int.reduceToNat,Nat.reducePow,Int.reducePow,Bool.true_and,Bool.false_and,Bool.and_false,←hF]
 refine hL.use ?_
 by_cases g0:most=0
 ·obtain rfl:=h0 g0
  simp only [PV.av]
  simp (disch:=first|assumption|omega|(simp only [List.length_append,List.length_cons,List.length_nil];omega)) only [go_sem,reduceCtorEq,Nat.reduceEqDiff,Nat.reduceAdd,Nat.reduceSub,Nat.reduceMul,Nat.reduceLeDiff,Int.reduceLT,Int.reduceLE,Int.reduceEq,↓reduceIte,Int.reduceNeg,Int.reduceAdd,Int.reduceSub,Int.reduceMul,true_imp_iff,forall_const,Nat.mul_one,Int.reduceToNat,Nat.reducePow,Int.reducePow,Bool.true_and,Bool.false_and,Bool.and_false,g0,←hF]
  exact retC_by (by repeat' (first|exact Drop.refl _|with_reducible refine Drop.off ?_ (by assumption))) (.refl _) ⟨rfl,rfl⟩
 by_cases g1:(L.length:Int)<least
 ·obtain rfl:=h1 g0 (.inl g1)
  simp only [PV.av]
  simp (disch:=first|assumption|omega|(simp only [List.length_append,List.length_cons,List.length_nil];omega)) only [go_sem,reduceCtorEq,Nat.reduceEqDiff,Nat.reduceAdd,Nat.reduceSub,Nat.reduceMul,Nat.reduceLeDiff,Int.reduceLT,Int.reduceLE,Int.reduceEq,↓reduceIte,Int.reduceNeg,Int.reduceAdd,Int.reduceSub,Int.reduceMul,true_imp_iff,forall_const,Nat.mul_one,Int.reduceToNat,Nat.reducePow,Int.reducePow,Bool.true_and,Bool.false_and,Bool.and_false,g0,g1,←hF]
  exact retC_by (by repeat' (first|exact Drop.refl _|with_reducible refine Drop.off ?_ (by assumption))) (.refl _) ⟨rfl,rfl⟩
 by_cases g2:most<L.length
 ·obtain rfl:=h1 g0 (.inr g2)
  simp only [PV.av]
  simp (disch:=first|assumption|omega|(simp only [List.length_append,List.length_cons,List.length_nil];omega)) only [go_sem,reduceCtorEq,Nat.reduceEqDiff,Nat.reduceAdd,Nat.reduceSub,Nat.reduceMul,Nat.reduceLeDiff,Int.reduceLT,Int.reduceLE,Int.reduceEq,↓reduceIte,Int.reduceNeg,Int.reduceAdd,Int.reduceSub,Int.reduceMul,true_imp_iff,forall_const,Nat.mul_one,Int.reduceToNat,Nat.reducePow,Int.reducePow,Bool.true_and,Bool.false_and,Bool.and_false,g0,g1,g2,←hF]
  exact retC_by (by repeat' (first|exact Drop.refl _|with_reducible refine Drop.off ?_ (by assumption))) (.refl _) ⟨rfl,rfl⟩
 simp (disch:=first|assumption|omega|(simp only [List.length_append,List.length_cons,List.length_nil];omega)) only [go_sem,reduceCtorEq,Nat.reduceEqDiff,Nat.reduceAdd,Nat.reduceSub,Nat.reduceMul,Nat.reduceLeDiff,Int.reduceLT,Int.reduceLE,Int.reduceEq,↓reduceIte,Int.reduceNeg,Int.reduceAdd,Int.reduceSub,Int.reduceMul,true_imp_iff,forall_const,Nat.mul_one,Int.reduceToNat,Nat.reducePow,Int.reducePow,Bool.true_and,Bool.false_and,Bool.and_false,g0,g1,g2,←hF]
 refine hN.use ?_
 cases hA:numsA [] L with
 | inr f=>
   obtain ⟨hf,rfl⟩:=h2 f g0 (by omega) (by omega) hA
   simp only [numsAV,PV.av]
   simp (disch:=first|assumption|omega|(simp only [List.length_append,List.length_cons,List.length_nil];omega)) only [go_sem,reduceCtorEq,Nat.reduceEqDiff,Nat.reduceAdd,Nat.reduceSub,Nat.reduceMul,Nat.reduceLeDiff,Int.reduceLT,Int.reduceLE,Int.reduceEq,↓reduceIte,Int.reduceNeg,Int.reduceAdd,Int.reduceSub,Int.reduceMul,true_imp_iff,forall_const,Nat.mul_one,Int.reduceToNat,Nat.reducePow,Int.reducePow,Bool.true_and,Bool.false_and,Bool.and_false,hf,←hF]
   exact retC_by (by repeat' (first|exact Drop.refl _|with_reducible refine Drop.off ?_ (by assumption))) (.refl _) ⟨rfl,rfl⟩
 | inl N=>
   have:=h3 N g0 (by omega) (by omega) hA
   simp only [numsAV]
   simp (disch:=first|assumption|omega|(simp only [List.length_append,List.length_cons,List.length_nil];omega)) only [go_sem,reduceCtorEq,Nat.reduceEqDiff,Nat.reduceAdd,Nat.reduceSub,Nat.reduceMul,Nat.reduceLeDiff,Int.reduceLT,Int.reduceLE,Int.reduceEq,↓reduceIte,Int.reduceNeg,Int.reduceAdd,Int.reduceSub,Int.reduceMul,true_imp_iff,forall_const,Nat.mul_one,Int.reduceToNat,Nat.reducePow,Int.reducePow,Bool.true_and,Bool.false_and,Bool.and_false,←hF]
   refine this _ ?_
   simp (disch:=first|assumption|omega|(simp only [List.length_append,List.length_cons,List.length_nil];omega)) only [go_sem,reduceCtorEq,Nat.reduceEqDiff,Nat.reduceAdd,Nat.reduceSub,Nat.reduceMul,Nat.reduceLeDiff,Int.reduceLT,Int.reduceLE,Int.reduceEq,↓reduceIte,Int.reduceNeg,Int.reduceAdd,Int.reduceSub,Int.reduceMul,true_imp_iff,forall_const,Nat.mul_one,Int.reduceToNat,Nat.reducePow,Int.reducePow,Bool.true_and,Bool.false_and,Bool.and_false]
theorem call_of (s:List UInt8) (L:List PV) (R:PV) (hn:L.length<=1000) (hs:∀ v∈L,v.small) (h0:(limP s).2=0->R = .fail 6)
  (h1:(limP s).2≠0->((L.length:Int)<(limP s).1\/(limP s).2<L.length)->R = .fail 3)
  (h2:∀ f,(limP s).2≠0->(limP s).1<=L.length->(L.length:Int)<=(limP s).2->numsA [] L = .inr f->f≠0/\R = .fail f)
  (h3:∀ N,(limP s).2≠0->(limP s).1<=L.length->(L.length:Int)<=(limP s).2->numsA [] L = .inl N->∀ σ (a:AFr),(a 0 = .str s/\a 7 = .sl .shr (N.map (AV.int .i64)))->ACode.wp Tryz.prog c10_123 (RetQ [.t 4] fun v σ'=>v=R.av/\σ'=σ) a σ) :
  Pure Tryz.prog 10 [.str s,.sl .shr (L.map argAV)] R.av:=
 fun σ=>call_ofS s L R hn hs h0 h1 h2 fun N g0 g1 g2 hA a ha=>h3 N g0 g1 g2 hA σ a ha
theorem quotient_ok {a b:Int} (ha:a.natAbs<=999999999999999999) (hb:b.natAbs<=999999999999999999):Pure Tryz.prog 30 [.int .i64 a,.int .i64 b] (if b=0 then PV.fail 1 else cntP (intP (a.tdiv b))).av:=by
 intro σ
 refine a30 (by simp) ?_
 by_cases h0:b=0
 ·rw [if_pos h0]
  simp only [PV.av]
  simp (disch:=first|assumption|omega|(simp only [List.length_append,List.length_cons,List.length_nil];omega)) only [go_sem,reduceCtorEq,Nat.reduceEqDiff,Nat.reduceAdd,Nat.reduceSub,Nat.reduceMul,Nat.reduceLeDiff,Int.reduceLT,Int.reduceLE,Int.reduceEq,↓reduceIte,Int.reduceNeg,Int.reduceAdd,Int.reduceSub,Int.reduceMul,true_imp_iff,forall_const,Nat.mul_one,Int.reduceToNat,Nat.reducePow,Int.reducePow,Bool.true_and,Bool.false_and,Bool.and_false,h0]
  exact retC_by (by repeat' (first|exact Drop.refl _|with_reducible refine Drop.off ?_ (by assumption))) (.refl _) ⟨rfl,rfl⟩
 ·rw [if_neg h0]
  have hqb:(a.tdiv b).natAbs<=a.natAbs:=by rw [Int.natAbs_tdiv];exact Nat.div_le_self _ _
  have hI:=int_ok (a.tdiv b) (by omega) (by omega)
  have e:IntKind.i64.wrap (a.tdiv b)=a.tdiv b:=by rw [IntKind.wrap_i64];omega
  have hC:=counted_ok (intP (a.tdiv b))
  generalize intP (a.tdiv b)=o at *
  generalize hq:a.tdiv b=q at *
  simp only [resAV] at hI
  simp (disch:=first|assumption|omega|(simp only [List.length_append,List.length_cons,List.length_nil];omega)) only [go_sem,reduceCtorEq,Nat.reduceEqDiff,Nat.reduceAdd,Nat.reduceSub,Nat.reduceMul,Nat.reduceLeDiff,Int.reduceLT,Int.reduceLE,Int.reduceEq,↓reduceIte,Int.reduceNeg,Int.reduceAdd,Int.reduceSub,Int.reduceMul,true_imp_iff,forall_const,Nat.mul_one,Int.reduceToNat,Nat.reducePow,Int.reducePow,Bool.true_and,Bool.false_and,Bool.and_false,h0,hq,e]
  refine hI.use ?_
  simp (disch:=first|assumption|omega|(simp only [List.length_append,List.length_cons,List.length_nil];omega)) only [go_sem,reduceCtorEq,Nat.reduceEqDiff,Nat.reduceAdd,Nat.reduceSub,Nat.reduceMul,Nat.reduceLeDiff,Int.reduceLT,Int.reduceLE,Int.reduceEq,↓reduceIte,Int.reduceNeg,Int.reduceAdd,Int.reduceSub,Int.reduceMul,true_imp_iff,forall_const,Nat.mul_one,Int.reduceToNat,Nat.reducePow,Int.reducePow,Bool.true_and,Bool.false_and,Bool.and_false]
  refine hC.use ?_
  simp (disch:=first|assumption|omega|(simp only [List.length_append,List.length_cons,List.length_nil];omega)) only [go_sem,reduceCtorEq,Nat.reduceEqDiff,Nat.reduceAdd,Nat.reduceSub,Nat.reduceMul,Nat.reduceLeDiff,Int.reduceLT,Int.reduceLE,Int.reduceEq,↓reduceIte,Int.reduceNeg,Int.reduceAdd,Int.reduceSub,Int.reduceMul,true_imp_iff,forall_const,Nat.mul_one,Int.reduceToNat,Nat.reducePow,Int.reducePow,Bool.true_and,Bool.false_and,Bool.and_false]
  exact retC_by (by repeat' (first|exact Drop.refl _|with_reducible refine Drop.off ?_ (by assumption))) (.refl _) ⟨rfl,rfl⟩
def secP (N:List Int) (o:Int):Int:=match N with
 | _::b::_=>b
 | _=>o
theorem second_ok (N:List Int) (o:Int) (hn:N.length<=1000):Pure Tryz.prog 27 [.sl .shr (N.map (AV.int .i64)),.int .i64 o] (.int .i64 (secP N o)):=by
 intro σ
 refine a27 (by simp) ?_
 match N,hn with
 | [],_=>
   simp only [secP]
   simp (disch:=first|assumption|omega|(simp only [List.length_append,List.length_cons,List.length_nil];omega)) only [go_sem,reduceCtorEq,Nat.reduceEqDiff,Nat.reduceAdd,Nat.reduceSub,Nat.reduceMul,Nat.reduceLeDiff,Int.reduceLT,Int.reduceLE,Int.reduceEq,↓reduceIte,Int.reduceNeg,Int.reduceAdd,Int.reduceSub,Int.reduceMul,true_imp_iff,forall_const,Nat.mul_one,Int.reduceToNat,Nat.reducePow,Int.reducePow,Bool.true_and,Bool.false_and,Bool.and_false]
   exact retC_by (by repeat' (first|exact Drop.refl _|with_reducible refine Drop.off ?_ (by assumption))) (.refl _) ⟨rfl,rfl⟩
 | [x],_=>
   simp only [secP]
   simp (disch:=first|assumption|omega|(simp only [List.length_append,List.length_cons,List.length_nil];omega)) only [go_sem,reduceCtorEq,Nat.reduceEqDiff,Nat.reduceAdd,Nat.reduceSub,Nat.reduceMul,Nat.reduceLeDiff,Int.reduceLT,Int.reduceLE,Int.reduceEq,↓reduceIte,Int.reduceNeg,Int.reduceAdd,Int.reduceSub,Int.reduceMul,true_imp_iff,forall_const,Nat.mul_one,Int.reduceToNat,Nat.reducePow,Int.reducePow,Bool.true_and,Bool.false_and,Bool.and_false]
   exact retC_by (by repeat' (first|exact Drop.refl _|with_reducible refine Drop.off ?_ (by assumption))) (.refl _) ⟨rfl,rfl⟩
 | x::y::l,hn=>
   simp only [List.length_cons] at hn
   simp only [secP]
   have g:(1:Int)<(((l.map (AV.int .i64)).length+1+1:Nat):Int):=by simp;omega
   have g2:(1:Int)<(l.length:Int)+1+1:=by omega
   simp (disch:=first|assumption|omega|(simp only [List.length_append,List.length_cons,List.length_nil];omega)) only [go_sem,reduceCtorEq,Nat.reduceEqDiff,Nat.reduceAdd,Nat.reduceSub,Nat.reduceMul,Nat.reduceLeDiff,Int.reduceLT,Int.reduceLE,Int.reduceEq,↓reduceIte,Int.reduceNeg,Int.reduceAdd,Int.reduceSub,Int.reduceMul,true_imp_iff,forall_const,Nat.mul_one,Int.reduceToNat,Nat.reducePow,Int.reducePow,Bool.true_and,Bool.false_and,Bool.and_false,g,g2]
   exact retC_by (by repeat' (first|exact Drop.refl _|with_reducible refine Drop.off ?_ (by assumption))) (.refl _) ⟨rfl,rfl⟩
def placesM (N:List Int):Int:=max (min ((secP N 0).tdiv 10000) 20) (-20)
theorem places_ok (N:List Int) (hn:N.length<=1000) (hb:(secP N 0).natAbs<=999999999999999999):Pure Tryz.prog 23 [.sl .shr (N.map (AV.int .i64))] (.int .i64 (placesM N)):=by
 intro σ
 have hS:=second_ok N 0 hn
 have hW:=whole_ok (a:=secP N 0) hb
 unfold placesM
 generalize secP N 0=x at *
 generalize x.tdiv 10000=q at *
 refine a23 (by simp) ?_
 simp (disch:=first|assumption|omega|(simp only [List.length_append,List.length_cons,List.length_nil];omega)) only [go_sem,reduceCtorEq,Nat.reduceEqDiff,Nat.reduceAdd,Nat.reduceSub,Nat.reduceMul,Nat.reduceLeDiff,Int.reduceLT,Int.reduceLE,Int.reduceEq,↓reduceIte,Int.reduceNeg,Int.reduceAdd,Int.reduceSub,Int.reduceMul,true_imp_iff,forall_const,Nat.mul_one,Int.reduceToNat,Nat.reducePow,Int.reducePow,Bool.true_and,Bool.false_and,Bool.and_false]
 refine hS.use ?_
 simp (disch:=first|assumption|omega|(simp only [List.length_append,List.length_cons,List.length_nil];omega)) only [go_sem,reduceCtorEq,Nat.reduceEqDiff,Nat.reduceAdd,Nat.reduceSub,Nat.reduceMul,Nat.reduceLeDiff,Int.reduceLT,Int.reduceLE,Int.reduceEq,↓reduceIte,Int.reduceNeg,Int.reduceAdd,Int.reduceSub,Int.reduceMul,true_imp_iff,forall_const,Nat.mul_one,Int.reduceToNat,Nat.reducePow,Int.reducePow,Bool.true_and,Bool.false_and,Bool.and_false]
 refine hW.use ?_
 simp (disch:=first|assumption|omega|(simp only [List.length_append,List.length_cons,List.length_nil];omega)) only [go_sem,reduceCtorEq,Nat.reduceEqDiff,Nat.reduceAdd,Nat.reduceSub,Nat.reduceMul,Nat.reduceLeDiff,Int.reduceLT,Int.reduceLE,Int.reduceEq,↓reduceIte,Int.reduceNeg,Int.reduceAdd,Int.reduceSub,Int.reduceMul,true_imp_iff,forall_const,Nat.mul_one,Int.reduceToNat,Nat.reducePow,Int.reducePow,Bool.true_and,Bool.false_and,Bool.and_false]
 exact retC_by (by repeat' (first|exact Drop.refl _|with_reducible refine Drop.off ?_ (by assumption))) (.refl _) ⟨rfl,rfl⟩
end Go.A
namespace Go.A
open Go.Proofs
theorem munit_ok (n:Nat) (hn:n<=20):Pure Tryz.prog 64 [.int .i64 n] (.int .i64 ((10000 / 10 ^ n:Nat):Int)):=by
 intro σ
 refine a64 (by simp) ?_
 simp (disch:=first|assumption|omega|(simp only [List.length_append,List.length_cons,List.length_nil];omega)) only [go_sem,reduceCtorEq,Nat.reduceEqDiff,Nat.reduceAdd,Nat.reduceSub,Nat.reduceMul,Nat.reduceLeDiff,Int.reduceLT,Int.reduceLE,Int.reduceEq,↓reduceIte,Int.reduceNeg,Int.reduceAdd,Int.reduceSub,Int.reduceMul,true_imp_iff,forall_const,Nat.mul_one,Int.reduceToNat,Nat.reducePow,Int.reducePow,Bool.true_and,Bool.false_and,Bool.and_false]
 refine wp_loop_on (fun (i:Nat) a1 s2=>i<=n/\(∃ u:Nat,10000 / 10 ^ i=u/\a1 3 = .int .i64 u)/\(a1 4 = .int .i64 n/\a1 5 = .int .i64 i)/\s2=σ) (fun i=>n-i) 0 ⟨Nat.zero_le _,⟨10000,by decide,?_⟩,?_,rfl⟩ ?_
 ·simp (disch:=first|assumption|omega|(simp only [List.length_append,List.length_cons,List.length_nil];omega)) only [go_sem,reduceCtorEq,Nat.reduceEqDiff,Nat.reduceAdd,Nat.reduceSub,Nat.reduceMul,Nat.reduceLeDiff,Int.reduceLT,Int.reduceLE,Int.reduceEq,↓reduceIte,Int.reduceNeg,Int.reduceAdd,Int.reduceSub,Int.reduceMul,true_imp_iff,forall_const,Nat.mul_one,Int.reduceToNat,Nat.reducePow,Int.reducePow,Bool.true_and,Bool.false_and,Bool.and_false]
 ·simp (disch:=first|assumption|omega|(simp only [List.length_append,List.length_cons,List.length_nil];omega)) only [go_sem,reduceCtorEq,Nat.reduceEqDiff,Nat.reduceAdd,Nat.reduceSub,Nat.reduceMul,Nat.reduceLeDiff,Int.reduceLT,Int.reduceLE,Int.reduceEq,↓reduceIte,Int.reduceNeg,Int.reduceAdd,Int.reduceSub,Int.reduceMul,true_imp_iff,forall_const,Nat.mul_one,Int.reduceToNat,Nat.reducePow,Int.reducePow,Bool.true_and,Bool.false_and,Bool.and_false]
 rintro i a1 s2 ⟨hi,⟨u,hu,h3⟩,hf,rfl⟩
 by_cases hlt:i<n
 ·have hlt':(i:Int)<n:=by omega
  have e:(u:Int).tdiv 10=((u / 10:Nat):Int):=rfl
  have hul:u<=10000:=by rw [<-hu];exact Nat.div_le_self _ _
  have hs:10000 / 10 ^ (i+1)=u / 10:=by rw [Nat.pow_succ,← Nat.div_div_eq_div_mul,hu]
  obtain ⟨w,hw⟩:∃ w,u / 10=w:=⟨_,rfl⟩
  rw [hw] at e hs
  have hwl:w<=10000:=by omega
  have e2:IntKind.i64.wrap (w:Int)=w:=by rw [IntKind.wrap_i64];omega
  simp (disch:=first|assumption|omega|(simp only [List.length_append,List.length_cons,List.length_nil];omega)) only [go_sem,reduceCtorEq,Nat.reduceEqDiff,Nat.reduceAdd,Nat.reduceSub,Nat.reduceMul,Nat.reduceLeDiff,Int.reduceLT,Int.reduceLE,Int.reduceEq,↓reduceIte,Int.reduceNeg,Int.reduceAdd,Int.reduceSub,Int.reduceMul,true_imp_iff,forall_const,Nat.mul_one,Int.reduceToNat,Nat.reducePow,Int.reducePow,Bool.true_and,Bool.false_and,Bool.and_false,hf,h3,hlt',e,e2]
  exact ⟨i+1,by omega,by omega,⟨w,hs,rfl⟩,rfl⟩
 ·have hlt':¬ (i:Int)<n:=by omega
  obtain rfl:i=n:=by omega
  rw [hu]
  simp (disch:=first|assumption|omega|(simp only [List.length_append,List.length_cons,List.length_nil];omega)) only [go_sem,reduceCtorEq,Nat.reduceEqDiff,Nat.reduceAdd,Nat.reduceSub,Nat.reduceMul,Nat.reduceLeDiff,Int.reduceLT,Int.reduceLE,Int.reduceEq,↓reduceIte,Int.reduceNeg,Int.reduceAdd,Int.reduceSub,Int.reduceMul,true_imp_iff,forall_const,Nat.mul_one,Int.reduceToNat,Nat.reducePow,Int.reducePow,Bool.true_and,Bool.false_and,Bool.and_false,hf,h3,hlt']
  exact retC_by (by repeat' (first|exact Drop.refl _|with_reducible refine Drop.off ?_ (by assumption))) (.refl _) ⟨rfl,rfl⟩
def truncG (a p:Int):Int:=if p < -14 then 0 else if 4<=p then a else truncP a (10 ^ (4-p).toNat)
theorem trunc_g {σ:ASt} (hT:Tens σ) {a:Int} (p:Int) (ha:a.natAbs<=999999999999999999):ACalls Tryz.prog 22 [.int .i64 a,.int .i64 p] σ (fun v σ'=>v = .int .i64 (truncG a p)/\σ'=σ):=by
 unfold truncG
 by_cases h1:p < -14
 ·rw [if_pos h1]
  exact trunc_lo h1 σ
 ·rw [if_neg h1]
  by_cases h2:4<=p
  ·rw [if_pos h2]
   exact trunc_hi h2 σ
  ·rw [if_neg h2]
   exact trunc_ok hT ha (by omega) (by omega)
theorem truncP_le (a:Int) (u:Nat):(truncP a u).natAbs<=a.natAbs:=by
 unfold truncP
 have hm:=Int.natAbs_tmod a u
 have hle:a.natAbs % u<=a.natAbs:=Nat.mod_le _ _
 rw [Int.natAbs_natCast] at hm
 have hs:(a.tmod u<0->a<0)/\(0<a.tmod u->0<a):=by
  refine ⟨fun h=>?_,fun h=>?_⟩
  ·refine Int.not_le.1 fun h2=>?_
   have:=Int.tmod_nonneg (a:=a) (u:Int) h2
   omega
  ·refine Int.not_le.1 fun h2=>?_
   have h3:=Int.tmod_nonneg (a := -a) (u:Int) (by omega)
   rw [Int.neg_tmod] at h3
   omega
 omega
theorem truncG_le (a p:Int):(truncG a p).natAbs<=a.natAbs:=by
 unfold truncG
 split
 ·simp
 ·split
  ·exact Nat.le_refl _
  ·exact truncP_le _ _
def awStep (n:Int):Option Int:=if 0<n then some ((10000 / 10 ^ n.toNat:Nat):Int) else powD 100000 (0-n)
def awayP (a n:Int):PV:=
 if truncG a n=a then .num a else match awStep n with
 | none => .fail 2
 | some s=>cntP (fitP (if a<0 then truncG a n-s else truncG a n+s))
theorem powD_le {a n p:Int} (h:powD a n=some p):p.natAbs<=999999999999999999:=by
 unfold powD at h
 split at h
 ·cases h
 ·obtain ⟨q,hq,hp⟩:=Option.bind_eq_some_iff.1 h
  split at hp
  ·unfold divD at hp
   split at hp
   ·cases hp
   ·exact quoD_le hp
  ·injection hp with hp
   subst hp
   exact powN_le hq
theorem away_ok {σ:ASt} (hT:Tens σ) {a n:Int} (ha:a.natAbs<=999999999999999999) (h0 : -20<=n) (h1:n<=20):ACalls Tryz.prog 25 [.int .i64 a,.int .i64 n] σ (fun v σ'=>v=(awayP a n).av/\σ'=σ):=by
 have hTr:=trunc_g hT n ha
 have hTl:=truncG_le a n
 have hP:=pow_ok 100000 (0-n) (by decide)
 unfold awayP
 generalize truncG a n=t at *
 refine a25 (by simp) ?_
 simp (disch:=first|assumption|omega|(simp only [List.length_append,List.length_cons,List.length_nil];omega)) only [go_sem,reduceCtorEq,Nat.reduceEqDiff,Nat.reduceAdd,Nat.reduceSub,Nat.reduceMul,Nat.reduceLeDiff,Int.reduceLT,Int.reduceLE,Int.reduceEq,↓reduceIte,Int.reduceNeg,Int.reduceAdd,Int.reduceSub,Int.reduceMul,true_imp_iff,forall_const,Nat.mul_one,Int.reduceToNat,Nat.reducePow,Int.reducePow,Bool.true_and,Bool.false_and,Bool.and_false]
 refine hTr.mono ?_
 rintro v σ' ⟨rfl,rfl⟩
 by_cases hta:t=a
 ·subst hta
  rw [if_pos rfl]
  simp only [PV.av]
  simp (disch:=first|assumption|omega|(simp only [List.length_append,List.length_cons,List.length_nil];omega)) only [go_sem,reduceCtorEq,Nat.reduceEqDiff,Nat.reduceAdd,Nat.reduceSub,Nat.reduceMul,Nat.reduceLeDiff,Int.reduceLT,Int.reduceLE,Int.reduceEq,↓reduceIte,Int.reduceNeg,Int.reduceAdd,Int.reduceSub,Int.reduceMul,true_imp_iff,forall_const,Nat.mul_one,Int.reduceToNat,Nat.reducePow,Int.reducePow,Bool.true_and,Bool.false_and,Bool.and_false]
  exact retC_by (by repeat' (first|exact Drop.refl _|with_reducible refine Drop.off ?_ (by assumption))) (.refl _) ⟨rfl,rfl⟩
 rw [if_neg hta]
 obtain ⟨F,hF⟩:∃ F,F=ACode.wp Tryz.prog c25_25:=⟨_,rfl⟩
 have fin:∀ (a1:AFr) (o:Option Int),(∀ s,o=some s->s.natAbs<=999999999999999999)->(a1 0 = .int .i64 a/\a1 5 = .int .i64 t/\a1 6 = .int .i64 (o.getD 0)/\a1 7 = .bool o.isSome) →
   F (RetQ [.t 4] fun v σ''=>v=(match o with|none=>PV.fail 2|some s=>cntP (fitP (if a<0 then t-s else t+s))).av/\σ''=σ') a1 σ':=by
  intro a1 o ho hf
  rw [hF]
  cases o with
  | none=>
    simp only [Option.getD_none,Option.isSome_none,PV.av] at hf ⊢
    simp (disch:=first|assumption|omega|(simp only [List.length_append,List.length_cons,List.length_nil];omega)) only [go_sem,reduceCtorEq,Nat.reduceEqDiff,Nat.reduceAdd,Nat.reduceSub,Nat.reduceMul,Nat.reduceLeDiff,Int.reduceLT,Int.reduceLE,Int.reduceEq,↓reduceIte,Int.reduceNeg,Int.reduceAdd,Int.reduceSub,Int.reduceMul,true_imp_iff,forall_const,Nat.mul_one,Int.reduceToNat,Nat.reducePow,Int.reducePow,Bool.true_and,Bool.false_and,Bool.and_false,hf]
    exact retC_by (by repeat' (first|exact Drop.refl _|with_reducible refine Drop.off ?_ (by assumption))) (.refl _) ⟨rfl,rfl⟩
  | some s=>
    have hs:=ho s rfl
    simp only [Option.getD_some,Option.isSome_some] at hf ⊢
    by_cases hn:a<0
    ·rw [if_pos hn]
     have hS:=sub_ok (a:=t) (b:=s) (by omega)
     have hC:=counted_ok (fitP (t-s))
     generalize fitP (t-s)=o at *
     simp only [resAV] at hS
     simp (disch:=first|assumption|omega|(simp only [List.length_append,List.length_cons,List.length_nil];omega)) only [go_sem,reduceCtorEq,Nat.reduceEqDiff,Nat.reduceAdd,Nat.reduceSub,Nat.reduceMul,Nat.reduceLeDiff,Int.reduceLT,Int.reduceLE,Int.reduceEq,↓reduceIte,Int.reduceNeg,Int.reduceAdd,Int.reduceSub,Int.reduceMul,true_imp_iff,forall_const,Nat.mul_one,Int.reduceToNat,Nat.reducePow,Int.reducePow,Bool.true_and,Bool.false_and,Bool.and_false,hf,hn]
     refine hS.use ?_
     simp (disch:=first|assumption|omega|(simp only [List.length_append,List.length_cons,List.length_nil];omega)) only [go_sem,reduceCtorEq,Nat.reduceEqDiff,Nat.reduceAdd,Nat.reduceSub,Nat.reduceMul,Nat.reduceLeDiff,Int.reduceLT,Int.reduceLE,Int.reduceEq,↓reduceIte,Int.reduceNeg,Int.reduceAdd,Int.reduceSub,Int.reduceMul,true_imp_iff,forall_const,Nat.mul_one,Int.reduceToNat,Nat.reducePow,Int.reducePow,Bool.true_and,Bool.false_and,Bool.and_false]
     refine hC.use ?_
     simp (disch:=first|assumption|omega|(simp only [List.length_append,List.length_cons,List.length_nil];omega)) only [go_sem,reduceCtorEq,Nat.reduceEqDiff,Nat.reduceAdd,Nat.reduceSub,Nat.reduceMul,Nat.reduceLeDiff,Int.reduceLT,Int.reduceLE,Int.reduceEq,↓reduceIte,Int.reduceNeg,Int.reduceAdd,Int.reduceSub,Int.reduceMul,true_imp_iff,forall_const,Nat.mul_one,Int.reduceToNat,Nat.reducePow,Int.reducePow,Bool.true_and,Bool.false_and,Bool.and_false]
     exact retC_by (by repeat' (first|exact Drop.refl _|with_reducible refine Drop.off ?_ (by assumption))) (.refl _) ⟨rfl,rfl⟩
    ·rw [if_neg hn]
     have hS:=add_ok (a:=t) (b:=s) (by omega)
     have hC:=counted_ok (fitP (t+s))
     generalize fitP (t+s)=o at *
     simp only [resAV] at hS
     simp (disch:=first|assumption|omega|(simp only [List.length_append,List.length_cons,List.length_nil];omega)) only [go_sem,reduceCtorEq,Nat.reduceEqDiff,Nat.reduceAdd,Nat.reduceSub,Nat.reduceMul,Nat.reduceLeDiff,Int.reduceLT,Int.reduceLE,Int.reduceEq,↓reduceIte,Int.reduceNeg,Int.reduceAdd,Int.reduceSub,Int.reduceMul,true_imp_iff,forall_const,Nat.mul_one,Int.reduceToNat,Nat.reducePow,Int.reducePow,Bool.true_and,Bool.false_and,Bool.and_false,hf,hn]
     refine hS.use ?_
     simp (disch:=first|assumption|omega|(simp only [List.length_append,List.length_cons,List.length_nil];omega)) only [go_sem,reduceCtorEq,Nat.reduceEqDiff,Nat.reduceAdd,Nat.reduceSub,Nat.reduceMul,Nat.reduceLeDiff,Int.reduceLT,Int.reduceLE,Int.reduceEq,↓reduceIte,Int.reduceNeg,Int.reduceAdd,Int.reduceSub,Int.reduceMul,true_imp_iff,forall_const,Nat.mul_one,Int.reduceToNat,Nat.reducePow,Int.reducePow,Bool.true_and,Bool.false_and,Bool.and_false]
     refine hC.use ?_
     simp (disch:=first|assumption|omega|(simp only [List.length_append,List.length_cons,List.length_nil];omega)) only [go_sem,reduceCtorEq,Nat.reduceEqDiff,Nat.reduceAdd,Nat.reduceSub,Nat.reduceMul,Nat.reduceLeDiff,Int.reduceLT,Int.reduceLE,Int.reduceEq,↓reduceIte,Int.reduceNeg,Int.reduceAdd,Int.reduceSub,Int.reduceMul,true_imp_iff,forall_const,Nat.mul_one,Int.reduceToNat,Nat.reducePow,Int.reducePow,Bool.true_and,Bool.false_and,Bool.and_false]
     exact retC_by (by repeat' (first|exact Drop.refl _|with_reducible refine Drop.off ?_ (by assumption))) (.refl _) ⟨rfl,rfl⟩
 have hple := @powD_le 100000 (0-n)
 unfold awStep
 simp only [resAV] at hP
 by_cases hn:0<n
 ·rw [if_pos hn]
  have hU:=munit_ok n.toNat (by omega)
  rw [show ((n.toNat:Nat):Int)=n by omega] at hU
  have hul:10000 / 10 ^ n.toNat<=10000:=Nat.div_le_self _ _
  generalize powD 100000 (0-n)=o at *
  generalize 10000 / 10 ^ n.toNat=u at *
  simp (disch:=first|assumption|omega|(simp only [List.length_append,List.length_cons,List.length_nil];omega)) only [go_sem,reduceCtorEq,Nat.reduceEqDiff,Nat.reduceAdd,Nat.reduceSub,Nat.reduceMul,Nat.reduceLeDiff,Int.reduceLT,Int.reduceLE,Int.reduceEq,↓reduceIte,Int.reduceNeg,Int.reduceAdd,Int.reduceSub,Int.reduceMul,true_imp_iff,forall_const,Nat.mul_one,Int.reduceToNat,Nat.reducePow,Int.reducePow,Bool.true_and,Bool.false_and,Bool.and_false,hta,←hF]
  refine hP.use ?_
  simp (disch:=first|assumption|omega|(simp only [List.length_append,List.length_cons,List.length_nil];omega)) only [go_sem,reduceCtorEq,Nat.reduceEqDiff,Nat.reduceAdd,Nat.reduceSub,Nat.reduceMul,Nat.reduceLeDiff,Int.reduceLT,Int.reduceLE,Int.reduceEq,↓reduceIte,Int.reduceNeg,Int.reduceAdd,Int.reduceSub,Int.reduceMul,true_imp_iff,forall_const,Nat.mul_one,Int.reduceToNat,Nat.reducePow,Int.reducePow,Bool.true_and,Bool.false_and,Bool.and_false,hn,←hF]
  refine hU.use ?_
  simp (disch:=first|assumption|omega|(simp only [List.length_append,List.length_cons,List.length_nil];omega)) only [go_sem,reduceCtorEq,Nat.reduceEqDiff,Nat.reduceAdd,Nat.reduceSub,Nat.reduceMul,Nat.reduceLeDiff,Int.reduceLT,Int.reduceLE,Int.reduceEq,↓reduceIte,Int.reduceNeg,Int.reduceAdd,Int.reduceSub,Int.reduceMul,true_imp_iff,forall_const,Nat.mul_one,Int.reduceToNat,Nat.reducePow,Int.reducePow,Bool.true_and,Bool.false_and,Bool.and_false,←hF]
  refine fin _ (some (u:Int)) (fun s hs=>by injection hs with hs;omega) ?_
  simp only [Option.getD_some,Option.isSome_some]
  simp (disch:=first|assumption|omega|(simp only [List.length_append,List.length_cons,List.length_nil];omega)) only [go_sem,reduceCtorEq,Nat.reduceEqDiff,Nat.reduceAdd,Nat.reduceSub,Nat.reduceMul,Nat.reduceLeDiff,Int.reduceLT,Int.reduceLE,Int.reduceEq,↓reduceIte,Int.reduceNeg,Int.reduceAdd,Int.reduceSub,Int.reduceMul,true_imp_iff,forall_const,Nat.mul_one,Int.reduceToNat,Nat.reducePow,Int.reducePow,Bool.true_and,Bool.false_and,Bool.and_false]
 ·rw [if_neg hn]
  generalize powD 100000 (0-n)=o at *
  simp (disch:=first|assumption|omega|(simp only [List.length_append,List.length_cons,List.length_nil];omega)) only [go_sem,reduceCtorEq,Nat.reduceEqDiff,Nat.reduceAdd,Nat.reduceSub,Nat.reduceMul,Nat.reduceLeDiff,Int.reduceLT,Int.reduceLE,Int.reduceEq,↓reduceIte,Int.reduceNeg,Int.reduceAdd,Int.reduceSub,Int.reduceMul,true_imp_iff,forall_const,Nat.mul_one,Int.reduceToNat,Nat.reducePow,Int.reducePow,Bool.true_and,Bool.false_and,Bool.and_false,hta,←hF]
  refine hP.use ?_
  simp (disch:=first|assumption|omega|(simp only [List.length_append,List.length_cons,List.length_nil];omega)) only [go_sem,reduceCtorEq,Nat.reduceEqDiff,Nat.reduceAdd,Nat.reduceSub,Nat.reduceMul,Nat.reduceLeDiff,Int.reduceLT,Int.reduceLE,Int.reduceEq,↓reduceIte,Int.reduceNeg,Int.reduceAdd,Int.reduceSub,Int.reduceMul,true_imp_iff,forall_const,Nat.mul_one,Int.reduceToNat,Nat.reducePow,Int.reducePow,Bool.true_and,Bool.false_and,Bool.and_false,hn,←hF]
  refine fin _ o (fun s hs=>hple hs) ?_
  simp (disch:=first|assumption|omega|(simp only [List.length_append,List.length_cons,List.length_nil];omega)) only [go_sem,reduceCtorEq,Nat.reduceEqDiff,Nat.reduceAdd,Nat.reduceSub,Nat.reduceMul,Nat.reduceLeDiff,Int.reduceLT,Int.reduceLE,Int.reduceEq,↓reduceIte,Int.reduceNeg,Int.reduceAdd,Int.reduceSub,Int.reduceMul,true_imp_iff,forall_const,Nat.mul_one,Int.reduceToNat,Nat.reducePow,Int.reducePow,Bool.true_and,Bool.false_and,Bool.and_false]
theorem divisor_ok (x y:Nat) (hx:x<=999999999999999999) (hy:y<=999999999999999999):Pure Tryz.prog 71 [.int .i64 x,.int .i64 y] (.int .i64 (Nat.gcd x y:Nat)):=by
 intro σ
 obtain ⟨G,hG⟩:∃ G,Nat.gcd x y=G:=⟨_,rfl⟩
 rw [hG]
 refine a71 (by simp) ?_
 simp (disch:=first|assumption|omega|(simp only [List.length_append,List.length_cons,List.length_nil];omega)) only [go_sem,reduceCtorEq,Nat.reduceEqDiff,Nat.reduceAdd,Nat.reduceSub,Nat.reduceMul,Nat.reduceLeDiff,Int.reduceLT,Int.reduceLE,Int.reduceEq,↓reduceIte,Int.reduceNeg,Int.reduceAdd,Int.reduceSub,Int.reduceMul,true_imp_iff,forall_const,Nat.mul_one,Int.reduceToNat,Nat.reducePow,Int.reducePow,Bool.true_and,Bool.false_and,Bool.and_false]
 refine wp_loop_on (fun (i:Nat×Nat) a1 s2=>(Nat.gcd i.1 i.2=G/\i.1<=999999999999999999/\i.2<=999999999999999999)/\(a1 0 = .int .i64 i.1/\a1 1 = .int .i64 i.2)/\s2=σ) (fun i=>i.2) (x,y) ⟨⟨hG,hx,hy⟩,?_,rfl⟩ ?_
 ·simp (disch:=first|assumption|omega|(simp only [List.length_append,List.length_cons,List.length_nil];omega)) only [go_sem,reduceCtorEq,Nat.reduceEqDiff,Nat.reduceAdd,Nat.reduceSub,Nat.reduceMul,Nat.reduceLeDiff,Int.reduceLT,Int.reduceLE,Int.reduceEq,↓reduceIte,Int.reduceNeg,Int.reduceAdd,Int.reduceSub,Int.reduceMul,true_imp_iff,forall_const,Nat.mul_one,Int.reduceToNat,Nat.reducePow,Int.reducePow,Bool.true_and,Bool.false_and,Bool.and_false]
 rintro ⟨u,v⟩ a1 s2 ⟨⟨hg,hu,hv⟩,hf,rfl⟩
 dsimp only at hg hu hv hf
 by_cases h0:0<v
 ·have h0':(0:Int)<v:=by omega
  have hne:(v:Int)≠0:=by omega
  have e:(u:Int).tmod v=((u % v:Nat):Int):=rfl
  have hm:=Nat.mod_lt u h0
  have hgs:Nat.gcd v (u % v)=G:=by rw [<-hg,Nat.gcd_comm v,← Nat.gcd_rec,Nat.gcd_comm]
  obtain ⟨w,hw⟩:∃ w,u % v=w:=⟨_,rfl⟩
  rw [hw] at e hm hgs
  simp (disch:=first|assumption|omega|(simp only [List.length_append,List.length_cons,List.length_nil];omega)) only [go_sem,reduceCtorEq,Nat.reduceEqDiff,Nat.reduceAdd,Nat.reduceSub,Nat.reduceMul,Nat.reduceLeDiff,Int.reduceLT,Int.reduceLE,Int.reduceEq,↓reduceIte,Int.reduceNeg,Int.reduceAdd,Int.reduceSub,Int.reduceMul,true_imp_iff,forall_const,Nat.mul_one,Int.reduceToNat,Nat.reducePow,Int.reducePow,Bool.true_and,Bool.false_and,Bool.and_false,hf,h0',hne,e]
  exact ⟨(v,w),by dsimp only;omega,⟨hgs,by dsimp only;omega,by dsimp only;omega⟩,rfl,rfl⟩
 ·have h0':¬ (0:Int)<v:=by omega
  obtain rfl:v=0:=by omega
  rw [Nat.gcd_zero_right] at hg
  subst hg
  simp (disch:=first|assumption|omega|(simp only [List.length_append,List.length_cons,List.length_nil];omega)) only [go_sem,reduceCtorEq,Nat.reduceEqDiff,Nat.reduceAdd,Nat.reduceSub,Nat.reduceMul,Nat.reduceLeDiff,Int.reduceLT,Int.reduceLE,Int.reduceEq,↓reduceIte,Int.reduceNeg,Int.reduceAdd,Int.reduceSub,Int.reduceMul,true_imp_iff,forall_const,Nat.mul_one,Int.reduceToNat,Nat.reducePow,Int.reducePow,Bool.true_and,Bool.false_and,Bool.and_false,hf,h0']
  exact retC_by (by repeat' (first|exact Drop.refl _|with_reducible refine Drop.off ?_ (by assumption))) (.refl _) ⟨rfl,rfl⟩
end Go.A
namespace Go.A
open Go.Proofs
def manyS (g:Bool):Int->List Int->Option Int
 | n,[]=>some n
 | n,a::l=>
   if a<0 then none
   else if n<0 then manyS g (a.tdiv 10000) l
   else if g=true then manyS g (Nat.gcd n.toNat (a.tdiv 10000).toNat:Nat) l
   else if n=0\/a.tdiv 10000=0 then manyS g 0 l
   else (mulD (n / (Nat.gcd n.toNat (a.tdiv 10000).toNat:Nat)*10000) (a.tdiv 10000*10000)).bind fun p=>manyS g (p.tdiv 10000) l
def manyP (g:Bool) (l:List Int):PV:=
 match manyS g (-1) l with
 | some n=>cntP (intP n)
 | none => .fail 2
set_option maxHeartbeats 2000000 in
theorem many_ok (s:List UInt8) (N:List Int) (hn:N.length<=1000) (hN:∀ a∈N,a.natAbs<=999999999999999999):Pure Tryz.prog 35 [.str s,.sl .shr (N.map (AV.int .i64))] (manyP (decide (s = [71,67,68])) N).av:=by
 intro σ
 obtain ⟨g,hg⟩:∃ g,decide (s = [71,67,68])=g:=⟨_,rfl⟩
 rw [hg]
 obtain ⟨R,hR⟩:∃ R,manyS g (-1) N=R:=⟨_,rfl⟩
 unfold manyP
 rw [hR]
 refine a35 (by simp) ?_
 simp (disch:=first|assumption|omega|(simp only [List.length_append,List.length_cons,List.length_nil];omega)) only [go_sem,reduceCtorEq,Nat.reduceEqDiff,Nat.reduceAdd,Nat.reduceSub,Nat.reduceMul,Nat.reduceLeDiff,Int.reduceLT,Int.reduceLE,Int.reduceEq,↓reduceIte,Int.reduceNeg,Int.reduceAdd,Int.reduceSub,Int.reduceMul,true_imp_iff,forall_const,Nat.mul_one,Int.reduceToNat,Nat.reducePow,Int.reducePow,Bool.true_and,Bool.false_and,Bool.and_false]
 refine wp_loop_on (fun (i:Nat) a1 s2=>i<=N.length/\(∃ n:Int,R=manyS g n (N.drop i) ∧ -1<=n/\n<=99999999999999/\a1 5 = .int .i64 n)/\(a1 0 = .str s/\a1 15 = .sl .shr (N.map (AV.int .i64))/\a1 16 = .int .i64 N.length/\a1 17 = .int .i64 i)/\s2=σ) (fun i=>N.length-i) 0 ⟨Nat.zero_le _,⟨-1,hR.symm,by omega,by omega,?_⟩,?_,rfl⟩ ?_
 ·simp (disch:=first|assumption|omega|(simp only [List.length_append,List.length_cons,List.length_nil];omega)) only [go_sem,reduceCtorEq,Nat.reduceEqDiff,Nat.reduceAdd,Nat.reduceSub,Nat.reduceMul,Nat.reduceLeDiff,Int.reduceLT,Int.reduceLE,Int.reduceEq,↓reduceIte,Int.reduceNeg,Int.reduceAdd,Int.reduceSub,Int.reduceMul,true_imp_iff,forall_const,Nat.mul_one,Int.reduceToNat,Nat.reducePow,Int.reducePow,Bool.true_and,Bool.false_and,Bool.and_false]
 ·simp (disch:=first|assumption|omega|(simp only [List.length_append,List.length_cons,List.length_nil];omega)) only [go_sem,reduceCtorEq,Nat.reduceEqDiff,Nat.reduceAdd,Nat.reduceSub,Nat.reduceMul,Nat.reduceLeDiff,Int.reduceLT,Int.reduceLE,Int.reduceEq,↓reduceIte,Int.reduceNeg,Int.reduceAdd,Int.reduceSub,Int.reduceMul,true_imp_iff,forall_const,Nat.mul_one,Int.reduceToNat,Nat.reducePow,Int.reducePow,Bool.true_and,Bool.false_and,Bool.and_false]
 rintro i a1 s2 ⟨hi,⟨n,hm,hn1,hn2,h5⟩,hf,rfl⟩
 by_cases hlt:i<N.length
 ·have hlt':(i:Int)<N.length:=by omega
  have hx : N[i]? = some (N[i]'hlt) := List.getElem?_eq_getElem hlt
  rw [List.drop_eq_getElem_cons hlt] at hm
  have hb:=hN _ (List.getElem_mem hlt)
  obtain ⟨x, hxe⟩ : ∃ x, N[i]'hlt = x := ⟨_, rfl⟩
  rw [hxe] at hx hm hb
  have hidx:(N.map (AV.int .i64))[i]? = some (.int .i64 x):=by rw [List.getElem?_map,hx];rfl
  have hW:=whole_ok hb
  rw [manyS] at hm
  have hkb:(x.tdiv 10000).natAbs<=99999999999999:=by
   rw [Int.natAbs_tdiv]
   show x.natAbs / 10000<=_
   omega
  have hk0:0<=x->0<=x.tdiv 10000:=fun h=>Int.tdiv_nonneg h (by omega)
  generalize x.tdiv 10000=k at *
  by_cases c1:x<0
  ·rw [if_pos c1] at hm
   subst hm
   simp only [PV.av]
   simp (disch:=first|assumption|omega|(simp only [List.length_append,List.length_cons,List.length_nil];omega)) only [go_sem,reduceCtorEq,Nat.reduceEqDiff,Nat.reduceAdd,Nat.reduceSub,Nat.reduceMul,Nat.reduceLeDiff,Int.reduceLT,Int.reduceLE,Int.reduceEq,↓reduceIte,Int.reduceNeg,Int.reduceAdd,Int.reduceSub,Int.reduceMul,true_imp_iff,forall_const,Nat.mul_one,Int.reduceToNat,Nat.reducePow,Int.reducePow,Bool.true_and,Bool.false_and,Bool.and_false,hf,h5,hlt',hidx]
   refine hW.use ?_
   simp (disch:=first|assumption|omega|(simp only [List.length_append,List.length_cons,List.length_nil];omega)) only [go_sem,reduceCtorEq,Nat.reduceEqDiff,Nat.reduceAdd,Nat.reduceSub,Nat.reduceMul,Nat.reduceLeDiff,Int.reduceLT,Int.reduceLE,Int.reduceEq,↓reduceIte,Int.reduceNeg,Int.reduceAdd,Int.reduceSub,Int.reduceMul,true_imp_iff,forall_const,Nat.mul_one,Int.reduceToNat,Nat.reducePow,Int.reducePow,Bool.true_and,Bool.false_and,Bool.and_false,c1]
   exact retC_by (by repeat' (first|exact Drop.refl _|with_reducible refine Drop.off ?_ (by assumption))) (.refl _) ⟨rfl,rfl⟩
  rw [if_neg c1] at hm
  have hk:=hk0 (by omega)
  by_cases c2:n<0
  ·rw [if_pos c2] at hm
   simp (disch:=first|assumption|omega|(simp only [List.length_append,List.length_cons,List.length_nil];omega)) only [go_sem,reduceCtorEq,Nat.reduceEqDiff,Nat.reduceAdd,Nat.reduceSub,Nat.reduceMul,Nat.reduceLeDiff,Int.reduceLT,Int.reduceLE,Int.reduceEq,↓reduceIte,Int.reduceNeg,Int.reduceAdd,Int.reduceSub,Int.reduceMul,true_imp_iff,forall_const,Nat.mul_one,Int.reduceToNat,Nat.reducePow,Int.reducePow,Bool.true_and,Bool.false_and,Bool.and_false,hf,h5,hlt',hidx]
   refine hW.use ?_
   simp (disch:=first|assumption|omega|(simp only [List.length_append,List.length_cons,List.length_nil];omega)) only [go_sem,reduceCtorEq,Nat.reduceEqDiff,Nat.reduceAdd,Nat.reduceSub,Nat.reduceMul,Nat.reduceLeDiff,Int.reduceLT,Int.reduceLE,Int.reduceEq,↓reduceIte,Int.reduceNeg,Int.reduceAdd,Int.reduceSub,Int.reduceMul,true_imp_iff,forall_const,Nat.mul_one,Int.reduceToNat,Nat.reducePow,Int.reducePow,Bool.true_and,Bool.false_and,Bool.and_false,hf,h5,c1,c2]
   exact ⟨i+1,by omega,by omega,⟨k,hm,by omega,by omega,rfl⟩,rfl⟩
  rw [if_neg c2] at hm
  obtain ⟨u,hu⟩:∃ u,n.toNat=u:=⟨_,rfl⟩
  obtain ⟨v,hv⟩:∃ v,k.toNat=v:=⟨_,rfl⟩
  have eu:n=u:=by omega
  have ev:k=v:=by omega
  have hD:=divisor_ok u v (by omega) (by omega)
  rw [hu,hv] at hm
  rw [<-eu,← ev] at hD
  have hgl:0<u->Nat.gcd u v<=u:=fun h=>Nat.gcd_le_left _ h
  have hgr:0<v->Nat.gcd u v<=v:=fun h=>Nat.gcd_le_right _ h
  have hgp:0<u->0<Nat.gcd u v:=fun h=>Nat.gcd_pos_of_pos_left _ h
  have hg00:u=0->v=0->Nat.gcd u v=0:=by rintro rfl rfl;rfl
  generalize hG:Nat.gcd u v=G at *
  cases g with
  | true=>
    have hsn:s = [71,67,68]:=of_decide_eq_true hg
    have hst:(s = [71,67,68])=True:=eq_true hsn
    rw [if_pos rfl] at hm
    simp (disch:=first|assumption|omega|(simp only [List.length_append,List.length_cons,List.length_nil];omega)) only [go_sem,reduceCtorEq,Nat.reduceEqDiff,Nat.reduceAdd,Nat.reduceSub,Nat.reduceMul,Nat.reduceLeDiff,Int.reduceLT,Int.reduceLE,Int.reduceEq,↓reduceIte,Int.reduceNeg,Int.reduceAdd,Int.reduceSub,Int.reduceMul,true_imp_iff,forall_const,Nat.mul_one,Int.reduceToNat,Nat.reducePow,Int.reducePow,Bool.true_and,Bool.false_and,Bool.and_false,hf,h5,hlt',hidx]
    refine hW.use ?_
    simp (disch:=first|assumption|omega|(simp only [List.length_append,List.length_cons,List.length_nil];omega)) only [go_sem,reduceCtorEq,Nat.reduceEqDiff,Nat.reduceAdd,Nat.reduceSub,Nat.reduceMul,Nat.reduceLeDiff,Int.reduceLT,Int.reduceLE,Int.reduceEq,↓reduceIte,Int.reduceNeg,Int.reduceAdd,Int.reduceSub,Int.reduceMul,true_imp_iff,forall_const,Nat.mul_one,Int.reduceToNat,Nat.reducePow,Int.reducePow,Bool.true_and,Bool.false_and,Bool.and_false,hf,h5,c1,c2,hst]
    refine hD.use ?_
    simp (disch:=first|assumption|omega|(simp only [List.length_append,List.length_cons,List.length_nil];omega)) only [go_sem,reduceCtorEq,Nat.reduceEqDiff,Nat.reduceAdd,Nat.reduceSub,Nat.reduceMul,Nat.reduceLeDiff,Int.reduceLT,Int.reduceLE,Int.reduceEq,↓reduceIte,Int.reduceNeg,Int.reduceAdd,Int.reduceSub,Int.reduceMul,true_imp_iff,forall_const,Nat.mul_one,Int.reduceToNat,Nat.reducePow,Int.reducePow,Bool.true_and,Bool.false_and,Bool.and_false,hf,h5]
    exact ⟨i+1,by omega,by omega,⟨(G:Int),hm,by omega,by omega,rfl⟩,rfl⟩
  | false=>
    have hsn:¬ s = [71,67,68]:=of_decide_eq_false hg
    rw [if_neg (by simp)] at hm
    by_cases c3:n=0
    ·rw [if_pos (.inl c3)] at hm
     simp (disch:=first|assumption|omega|(simp only [List.length_append,List.length_cons,List.length_nil];omega)) only [go_sem,reduceCtorEq,Nat.reduceEqDiff,Nat.reduceAdd,Nat.reduceSub,Nat.reduceMul,Nat.reduceLeDiff,Int.reduceLT,Int.reduceLE,Int.reduceEq,↓reduceIte,Int.reduceNeg,Int.reduceAdd,Int.reduceSub,Int.reduceMul,true_imp_iff,forall_const,Nat.mul_one,Int.reduceToNat,Nat.reducePow,Int.reducePow,Bool.true_and,Bool.false_and,Bool.and_false,hf,h5,hlt',hidx]
     refine hW.use ?_
     simp (disch:=first|assumption|omega|(simp only [List.length_append,List.length_cons,List.length_nil];omega)) only [go_sem,reduceCtorEq,Nat.reduceEqDiff,Nat.reduceAdd,Nat.reduceSub,Nat.reduceMul,Nat.reduceLeDiff,Int.reduceLT,Int.reduceLE,Int.reduceEq,↓reduceIte,Int.reduceNeg,Int.reduceAdd,Int.reduceSub,Int.reduceMul,true_imp_iff,forall_const,Nat.mul_one,Int.reduceToNat,Nat.reducePow,Int.reducePow,Bool.true_and,Bool.false_and,Bool.and_false,hf,h5,c1,c2,hsn,c3]
     exact ⟨i+1,by omega,by omega,⟨0,hm,by omega,by omega,rfl⟩,rfl⟩
    by_cases c4:k=0
    ·rw [if_pos (.inr c4)] at hm
     simp (disch:=first|assumption|omega|(simp only [List.length_append,List.length_cons,List.length_nil];omega)) only [go_sem,reduceCtorEq,Nat.reduceEqDiff,Nat.reduceAdd,Nat.reduceSub,Nat.reduceMul,Nat.reduceLeDiff,Int.reduceLT,Int.reduceLE,Int.reduceEq,↓reduceIte,Int.reduceNeg,Int.reduceAdd,Int.reduceSub,Int.reduceMul,true_imp_iff,forall_const,Nat.mul_one,Int.reduceToNat,Nat.reducePow,Int.reducePow,Bool.true_and,Bool.false_and,Bool.and_false,hf,h5,hlt',hidx]
     refine hW.use ?_
     simp (disch:=first|assumption|omega|(simp only [List.length_append,List.length_cons,List.length_nil];omega)) only [go_sem,reduceCtorEq,Nat.reduceEqDiff,Nat.reduceAdd,Nat.reduceSub,Nat.reduceMul,Nat.reduceLeDiff,Int.reduceLT,Int.reduceLE,Int.reduceEq,↓reduceIte,Int.reduceNeg,Int.reduceAdd,Int.reduceSub,Int.reduceMul,true_imp_iff,forall_const,Nat.mul_one,Int.reduceToNat,Nat.reducePow,Int.reducePow,Bool.true_and,Bool.false_and,Bool.and_false,hf,h5,c1,c2,hsn,c3,c4]
     exact ⟨i+1,by omega,by omega,⟨0,hm,by omega,by omega,rfl⟩,rfl⟩
    rw [if_neg (by rintro (h|h)<;>contradiction)] at hm
    have hGp:=hgp (by omega)
    have hGne:(G:Int)≠0:=by omega
    have eq1:n.tdiv (G:Int)=n / (G:Int):=Int.tdiv_eq_ediv_of_nonneg (by omega)
    have hqb:0<=n / (G:Int)/\n / (G:Int)<=n:=⟨Int.ediv_nonneg (by omega) (by omega),Int.ediv_le_self _ (by omega)⟩
    generalize n / (G:Int)=q at *
    have eq2:IntKind.i64.wrap q=q:=by rw [IntKind.wrap_i64];omega
    have hI1:=int_ok q (by omega) (by omega)
    have hI2:=int_ok k (by omega) (by omega)
    unfold intP at hI1 hI2
    rw [if_pos (by omega)] at hI1 hI2
    simp only [resAV,Option.getD_some,Option.isSome_some] at hI1 hI2
    have hM:=mul_ok (q*10000) (k*10000) (by omega) (by omega)
    cases ho:mulD (q*10000) (k*10000) with
    | none=>
      rw [ho] at hM hm
      rw [Option.bind_none] at hm
      subst hm
      simp only [resAV,Option.getD_none,Option.isSome_none] at hM
      simp only [PV.av]
      simp (disch:=first|assumption|omega|(simp only [List.length_append,List.length_cons,List.length_nil];omega)) only [go_sem,reduceCtorEq,Nat.reduceEqDiff,Nat.reduceAdd,Nat.reduceSub,Nat.reduceMul,Nat.reduceLeDiff,Int.reduceLT,Int.reduceLE,Int.reduceEq,↓reduceIte,Int.reduceNeg,Int.reduceAdd,Int.reduceSub,Int.reduceMul,true_imp_iff,forall_const,Nat.mul_one,Int.reduceToNat,Nat.reducePow,Int.reducePow,Bool.true_and,Bool.false_and,Bool.and_false,hf,h5,hlt',hidx]
      refine hW.use ?_
      simp (disch:=first|assumption|omega|(simp only [List.length_append,List.length_cons,List.length_nil];omega)) only [go_sem,reduceCtorEq,Nat.reduceEqDiff,Nat.reduceAdd,Nat.reduceSub,Nat.reduceMul,Nat.reduceLeDiff,Int.reduceLT,Int.reduceLE,Int.reduceEq,↓reduceIte,Int.reduceNeg,Int.reduceAdd,Int.reduceSub,Int.reduceMul,true_imp_iff,forall_const,Nat.mul_one,Int.reduceToNat,Nat.reducePow,Int.reducePow,Bool.true_and,Bool.false_and,Bool.and_false,hf,h5,c1,c2,hsn,c3,c4]
      refine hD.use ?_
      simp (disch:=first|assumption|omega|(simp only [List.length_append,List.length_cons,List.length_nil];omega)) only [go_sem,reduceCtorEq,Nat.reduceEqDiff,Nat.reduceAdd,Nat.reduceSub,Nat.reduceMul,Nat.reduceLeDiff,Int.reduceLT,Int.reduceLE,Int.reduceEq,↓reduceIte,Int.reduceNeg,Int.reduceAdd,Int.reduceSub,Int.reduceMul,true_imp_iff,forall_const,Nat.mul_one,Int.reduceToNat,Nat.reducePow,Int.reducePow,Bool.true_and,Bool.false_and,Bool.and_false,hGne,eq1,eq2]
      refine hI1.use ?_
      simp (disch:=first|assumption|omega|(simp only [List.length_append,List.length_cons,List.length_nil];omega)) only [go_sem,reduceCtorEq,Nat.reduceEqDiff,Nat.reduceAdd,Nat.reduceSub,Nat.reduceMul,Nat.reduceLeDiff,Int.reduceLT,Int.reduceLE,Int.reduceEq,↓reduceIte,Int.reduceNeg,Int.reduceAdd,Int.reduceSub,Int.reduceMul,true_imp_iff,forall_const,Nat.mul_one,Int.reduceToNat,Nat.reducePow,Int.reducePow,Bool.true_and,Bool.false_and,Bool.and_false]
      refine hI2.use ?_
      simp (disch:=first|assumption|omega|(simp only [List.length_append,List.length_cons,List.length_nil];omega)) only [go_sem,reduceCtorEq,Nat.reduceEqDiff,Nat.reduceAdd,Nat.reduceSub,Nat.reduceMul,Nat.reduceLeDiff,Int.reduceLT,Int.reduceLE,Int.reduceEq,↓reduceIte,Int.reduceNeg,Int.reduceAdd,Int.reduceSub,Int.reduceMul,true_imp_iff,forall_const,Nat.mul_one,Int.reduceToNat,Nat.reducePow,Int.reducePow,Bool.true_and,Bool.false_and,Bool.and_false]
      refine hM.use ?_
      simp (disch:=first|assumption|omega|(simp only [List.length_append,List.length_cons,List.length_nil];omega)) only [go_sem,reduceCtorEq,Nat.reduceEqDiff,Nat.reduceAdd,Nat.reduceSub,Nat.reduceMul,Nat.reduceLeDiff,Int.reduceLT,Int.reduceLE,Int.reduceEq,↓reduceIte,Int.reduceNeg,Int.reduceAdd,Int.reduceSub,Int.reduceMul,true_imp_iff,forall_const,Nat.mul_one,Int.reduceToNat,Nat.reducePow,Int.reducePow,Bool.true_and,Bool.false_and,Bool.and_false]
      exact retC_by (by repeat' (first|exact Drop.refl _|with_reducible refine Drop.off ?_ (by assumption))) (.refl _) ⟨rfl,rfl⟩
    | some p=>
      have hpb:=quoD_le ho
      have hWp:=whole_ok hpb
      have hpw:(p.tdiv 10000).natAbs<=99999999999999:=by
       rw [Int.natAbs_tdiv]
       show p.natAbs / 10000<=_
       omega
      have hp0:0<=p:=by
       unfold mulD quoD at ho
       split at ho
       ·injection ho with ho
        rw [<-ho,if_neg]
        ·omega
        ·simp only [Bool.not_eq_true',beq_eq_false_iff_ne,ne_eq,Bool.not_eq_true]
         rw [decide_eq_false (by omega),decide_eq_false (by omega)]
         simp
       ·cases ho
      have hpw0:=Int.tdiv_nonneg hp0 (show (0:Int)<=10000 by omega)
      rw [ho] at hM hm
      rw [Option.bind_some] at hm
      simp only [resAV,Option.getD_some,Option.isSome_some] at hM
      generalize p.tdiv 10000=w at *
      simp (disch:=first|assumption|omega|(simp only [List.length_append,List.length_cons,List.length_nil];omega)) only [go_sem,reduceCtorEq,Nat.reduceEqDiff,Nat.reduceAdd,Nat.reduceSub,Nat.reduceMul,Nat.reduceLeDiff,Int.reduceLT,Int.reduceLE,Int.reduceEq,↓reduceIte,Int.reduceNeg,Int.reduceAdd,Int.reduceSub,Int.reduceMul,true_imp_iff,forall_const,Nat.mul_one,Int.reduceToNat,Nat.reducePow,Int.reducePow,Bool.true_and,Bool.false_and,Bool.and_false,hf,h5,hlt',hidx]
      refine hW.use ?_
      simp (disch:=first|assumption|omega|(simp only [List.length_append,List.length_cons,List.length_nil];omega)) only [go_sem,reduceCtorEq,Nat.reduceEqDiff,Nat.reduceAdd,Nat.reduceSub,Nat.reduceMul,Nat.reduceLeDiff,Int.reduceLT,Int.reduceLE,Int.reduceEq,↓reduceIte,Int.reduceNeg,Int.reduceAdd,Int.reduceSub,Int.reduceMul,true_imp_iff,forall_const,Nat.mul_one,Int.reduceToNat,Nat.reducePow,Int.reducePow,Bool.true_and,Bool.false_and,Bool.and_false,hf,h5,c1,c2,hsn,c3,c4]
      refine hD.use ?_
      simp (disch:=first|assumption|omega|(simp only [List.length_append,List.length_cons,List.length_nil];omega)) only [go_sem,reduceCtorEq,Nat.reduceEqDiff,Nat.reduceAdd,Nat.reduceSub,Nat.reduceMul,Nat.reduceLeDiff,Int.reduceLT,Int.reduceLE,Int.reduceEq,↓reduceIte,Int.reduceNeg,Int.reduceAdd,Int.reduceSub,Int.reduceMul,true_imp_iff,forall_const,Nat.mul_one,Int.reduceToNat,Nat.reducePow,Int.reducePow,Bool.true_and,Bool.false_and,Bool.and_false,hGne,eq1,eq2]
      refine hI1.use ?_
      simp (disch:=first|assumption|omega|(simp only [List.length_append,List.length_cons,List.length_nil];omega)) only [go_sem,reduceCtorEq,Nat.reduceEqDiff,Nat.reduceAdd,Nat.reduceSub,Nat.reduceMul,Nat.reduceLeDiff,Int.reduceLT,Int.reduceLE,Int.reduceEq,↓reduceIte,Int.reduceNeg,Int.reduceAdd,Int.reduceSub,Int.reduceMul,true_imp_iff,forall_const,Nat.mul_one,Int.reduceToNat,Nat.reducePow,Int.reducePow,Bool.true_and,Bool.false_and,Bool.and_false]
      refine hI2.use ?_
      simp (disch:=first|assumption|omega|(simp only [List.length_append,List.length_cons,List.length_nil];omega)) only [go_sem,reduceCtorEq,Nat.reduceEqDiff,Nat.reduceAdd,Nat.reduceSub,Nat.reduceMul,Nat.reduceLeDiff,Int.reduceLT,Int.reduceLE,Int.reduceEq,↓reduceIte,Int.reduceNeg,Int.reduceAdd,Int.reduceSub,Int.reduceMul,true_imp_iff,forall_const,Nat.mul_one,Int.reduceToNat,Nat.reducePow,Int.reducePow,Bool.true_and,Bool.false_and,Bool.and_false]
      refine hM.use ?_
      simp (disch:=first|assumption|omega|(simp only [List.length_append,List.length_cons,List.length_nil];omega)) only [go_sem,reduceCtorEq,Nat.reduceEqDiff,Nat.reduceAdd,Nat.reduceSub,Nat.reduceMul,Nat.reduceLeDiff,Int.reduceLT,Int.reduceLE,Int.reduceEq,↓reduceIte,Int.reduceNeg,Int.reduceAdd,Int.reduceSub,Int.reduceMul,true_imp_iff,forall_const,Nat.mul_one,Int.reduceToNat,Nat.reducePow,Int.reducePow,Bool.true_and,Bool.false_and,Bool.and_false]
      refine hWp.use ?_
      simp (disch:=first|assumption|omega|(simp only [List.length_append,List.length_cons,List.length_nil];omega)) only [go_sem,reduceCtorEq,Nat.reduceEqDiff,Nat.reduceAdd,Nat.reduceSub,Nat.reduceMul,Nat.reduceLeDiff,Int.reduceLT,Int.reduceLE,Int.reduceEq,↓reduceIte,Int.reduceNeg,Int.reduceAdd,Int.reduceSub,Int.reduceMul,true_imp_iff,forall_const,Nat.mul_one,Int.reduceToNat,Nat.reducePow,Int.reducePow,Bool.true_and,Bool.false_and,Bool.and_false,hf]
      exact ⟨i+1,by omega,by omega,⟨w,hm,by omega,by omega,rfl⟩,rfl⟩
 ·have hlt':¬ (i:Int)<N.length:=by omega
  rw [List.drop_eq_nil_of_le (by omega),manyS] at hm
  subst hm
  dsimp only
  have hI:=int_ok n (by omega) (by omega)
  have hC:=counted_ok (intP n)
  generalize intP n=o at *
  simp only [resAV] at hI
  simp (disch:=first|assumption|omega|(simp only [List.length_append,List.length_cons,List.length_nil];omega)) only [go_sem,reduceCtorEq,Nat.reduceEqDiff,Nat.reduceAdd,Nat.reduceSub,Nat.reduceMul,Nat.reduceLeDiff,Int.reduceLT,Int.reduceLE,Int.reduceEq,↓reduceIte,Int.reduceNeg,Int.reduceAdd,Int.reduceSub,Int.reduceMul,true_imp_iff,forall_const,Nat.mul_one,Int.reduceToNat,Nat.reducePow,Int.reducePow,Bool.true_and,Bool.false_and,Bool.and_false,hf,h5,hlt']
  refine hI.use ?_
  simp (disch:=first|assumption|omega|(simp only [List.length_append,List.length_cons,List.length_nil];omega)) only [go_sem,reduceCtorEq,Nat.reduceEqDiff,Nat.reduceAdd,Nat.reduceSub,Nat.reduceMul,Nat.reduceLeDiff,Int.reduceLT,Int.reduceLE,Int.reduceEq,↓reduceIte,Int.reduceNeg,Int.reduceAdd,Int.reduceSub,Int.reduceMul,true_imp_iff,forall_const,Nat.mul_one,Int.reduceToNat,Nat.reducePow,Int.reducePow,Bool.true_and,Bool.false_and,Bool.and_false]
  refine hC.use ?_
  simp (disch:=first|assumption|omega|(simp only [List.length_append,List.length_cons,List.length_nil];omega)) only [go_sem,reduceCtorEq,Nat.reduceEqDiff,Nat.reduceAdd,Nat.reduceSub,Nat.reduceMul,Nat.reduceLeDiff,Int.reduceLT,Int.reduceLE,Int.reduceEq,↓reduceIte,Int.reduceNeg,Int.reduceAdd,Int.reduceSub,Int.reduceMul,true_imp_iff,forall_const,Nat.mul_one,Int.reduceToNat,Nat.reducePow,Int.reducePow,Bool.true_and,Bool.false_and,Bool.and_false]
  exact retC_by (by repeat' (first|exact Drop.refl _|with_reducible refine Drop.off ?_ (by assumption))) (.refl _) ⟨rfl,rfl⟩
theorem small_nums (N:List Int):∀ v∈N.map PV.num,v.small:=by
 intro v hv
 obtain ⟨n,_,rfl⟩:=List.mem_map.1 hv
 trivial
theorem call_gcd (M:List PV) (L:List Int) (hs0:∀ v∈M,v.small) (hA:numsA [] M = .inl L) (h1:1<=M.length) (h2:M.length<=30) (hne:1<=L.length) (hll:L.length<=30) (hL:∀ a∈L,a.natAbs<=999999999999999999):Pure Tryz.prog 10 [.str sGCD,.sl .shr (M.map argAV)] (manyP (decide (sGCD = [71,67,68])) L).av:=by
 refine call_of _ _ _ (by omega) hs0 (fun h=>by cases h) (fun _ h=>?_) (fun f _ _ _ h=>?_) (fun N _ _ _ h=>?_)
 ·exfalso
  have e:limP sGCD=(1,30):=by decide
  rw [e] at h
  simp only at h
  omega
 ·rw [hA] at h;cases h
 rw [hA] at h
 injection h with h
 subst h
 intro σ a1 hf
 have hM:=many_ok sGCD L (by omega) hL
 obtain ⟨s,hs⟩:∃ s,sGCD=s:=⟨_,rfl⟩
 have n0:(s = [65,66,83])=False:=eq_false (by rw [<-hs];decide)
 have n1:(s = [83,73,71,78])=False:=eq_false (by rw [<-hs];decide)
 have n2:(s = [73,78,84])=False:=eq_false (by rw [<-hs];decide)
 have n3:(s = [84,82,85,78,67])=False:=eq_false (by rw [<-hs];decide)
 have n4:(s = [82,79,85,78,68,68,79,87,78])=False:=eq_false (by rw [<-hs];decide)
 have n5:(s = [82,79,85,78,68])=False:=eq_false (by rw [<-hs];decide)
 have n6:(s = [82,79,85,78,68,85,80])=False:=eq_false (by rw [<-hs];decide)
 have n7:(s = [70,76,79,79,82])=False:=eq_false (by rw [<-hs];decide)
 have n8:(s = [67,69,73,76,73,78,71])=False:=eq_false (by rw [<-hs];decide)
 have n9:(s = [77,82,79,85,78,68])=False:=eq_false (by rw [<-hs];decide)
 have n10:(s = [77,79,68])=False:=eq_false (by rw [<-hs];decide)
 have n11:(s = [81,85,79,84,73,69,78,84])=False:=eq_false (by rw [<-hs];decide)
 have n12:(s = [80,79,87,69,82])=False:=eq_false (by rw [<-hs];decide)
 have n13:(s = [83,81,82,84])=False:=eq_false (by rw [<-hs];decide)
 have n14:(s = [70,65,67,84])=False:=eq_false (by rw [<-hs];decide)
 have n15:(s = [69,86,69,78])=False:=eq_false (by rw [<-hs];decide)
 have n16:(s = [79,68,68])=False:=eq_false (by rw [<-hs];decide)
 have n17:(s = [67,76,65,77,80])=False:=eq_false (by rw [<-hs];decide)
 rw [hs] at hf hM
 obtain ⟨x,l,rfl⟩:∃ x l,L=x::l:=by
  cases L with
  | nil=>simp at hne
  | cons x l=>exact ⟨x,l,rfl⟩
 rw [List.map_cons] at hf hM
 rw [hs]
 simp (disch:=first|assumption|omega|(simp only [List.length_append,List.length_cons,List.length_nil];omega)) only [go_sem,reduceCtorEq,Nat.reduceEqDiff,Nat.reduceAdd,Nat.reduceSub,Nat.reduceMul,Nat.reduceLeDiff,Int.reduceLT,Int.reduceLE,Int.reduceEq,↓reduceIte,Int.reduceNeg,Int.reduceAdd,Int.reduceSub,Int.reduceMul,true_imp_iff,forall_const,Nat.mul_one,Int.reduceToNat,Nat.reducePow,Int.reducePow,Bool.true_and,Bool.false_and,Bool.and_false,hf,n0,n1,n2,n3,n4,n5,n6,n7,n8,n9,n10,n11,n12,n13,n14,n15,n16,n17]
 refine hM.use ?_
 simp (disch:=first|assumption|omega|(simp only [List.length_append,List.length_cons,List.length_nil];omega)) only [go_sem,reduceCtorEq,Nat.reduceEqDiff,Nat.reduceAdd,Nat.reduceSub,Nat.reduceMul,Nat.reduceLeDiff,Int.reduceLT,Int.reduceLE,Int.reduceEq,↓reduceIte,Int.reduceNeg,Int.reduceAdd,Int.reduceSub,Int.reduceMul,true_imp_iff,forall_const,Nat.mul_one,Int.reduceToNat,Nat.reducePow,Int.reducePow,Bool.true_and,Bool.false_and,Bool.and_false]
 exact retC_by (by repeat' (first|exact Drop.refl _|with_reducible refine Drop.off ?_ (by assumption))) (.refl _) ⟨rfl,rfl⟩
theorem call_lcm (M:List PV) (L:List Int) (hs0:∀ v∈M,v.small) (hA:numsA [] M = .inl L) (h1:1<=M.length) (h2:M.length<=30) (hne:1<=L.length) (hll:L.length<=30) (hL:∀ a∈L,a.natAbs<=999999999999999999):Pure Tryz.prog 10 [.str sLCM,.sl .shr (M.map argAV)] (manyP (decide (sLCM = [71,67,68])) L).av:=by
 refine call_of _ _ _ (by omega) hs0 (fun h=>by cases h) (fun _ h=>?_) (fun f _ _ _ h=>?_) (fun N _ _ _ h=>?_)
 ·exfalso
  have e:limP sLCM=(1,30):=by decide
  rw [e] at h
  simp only at h
  omega
 ·rw [hA] at h;cases h
 rw [hA] at h
 injection h with h
 subst h
 intro σ a1 hf
 have hM:=many_ok sLCM L (by omega) hL
 obtain ⟨s,hs⟩:∃ s,sLCM=s:=⟨_,rfl⟩
 have n0:(s = [65,66,83])=False:=eq_false (by rw [<-hs];decide)
 have n1:(s = [83,73,71,78])=False:=eq_false (by rw [<-hs];decide)
 have n2:(s = [73,78,84])=False:=eq_false (by rw [<-hs];decide)
 have n3:(s = [84,82,85,78,67])=False:=eq_false (by rw [<-hs];decide)
 have n4:(s = [82,79,85,78,68,68,79,87,78])=False:=eq_false (by rw [<-hs];decide)
 have n5:(s = [82,79,85,78,68])=False:=eq_false (by rw [<-hs];decide)
 have n6:(s = [82,79,85,78,68,85,80])=False:=eq_false (by rw [<-hs];decide)
 have n7:(s = [70,76,79,79,82])=False:=eq_false (by rw [<-hs];decide)
 have n8:(s = [67,69,73,76,73,78,71])=False:=eq_false (by rw [<-hs];decide)
 have n9:(s = [77,82,79,85,78,68])=False:=eq_false (by rw [<-hs];decide)
 have n10:(s = [77,79,68])=False:=eq_false (by rw [<-hs];decide)
 have n11:(s = [81,85,79,84,73,69,78,84])=False:=eq_false (by rw [<-hs];decide)
 have n12:(s = [80,79,87,69,82])=False:=eq_false (by rw [<-hs];decide)
 have n13:(s = [83,81,82,84])=False:=eq_false (by rw [<-hs];decide)
 have n14:(s = [70,65,67,84])=False:=eq_false (by rw [<-hs];decide)
 have n15:(s = [69,86,69,78])=False:=eq_false (by rw [<-hs];decide)
 have n16:(s = [79,68,68])=False:=eq_false (by rw [<-hs];decide)
 have n17:(s = [67,76,65,77,80])=False:=eq_false (by rw [<-hs];decide)
 rw [hs] at hf hM
 obtain ⟨x,l,rfl⟩:∃ x l,L=x::l:=by
  cases L with
  | nil=>simp at hne
  | cons x l=>exact ⟨x,l,rfl⟩
 rw [List.map_cons] at hf hM
 rw [hs]
 simp (disch:=first|assumption|omega|(simp only [List.length_append,List.length_cons,List.length_nil];omega)) only [go_sem,reduceCtorEq,Nat.reduceEqDiff,Nat.reduceAdd,Nat.reduceSub,Nat.reduceMul,Nat.reduceLeDiff,Int.reduceLT,Int.reduceLE,Int.reduceEq,↓reduceIte,Int.reduceNeg,Int.reduceAdd,Int.reduceSub,Int.reduceMul,true_imp_iff,forall_const,Nat.mul_one,Int.reduceToNat,Nat.reducePow,Int.reducePow,Bool.true_and,Bool.false_and,Bool.and_false,hf,n0,n1,n2,n3,n4,n5,n6,n7,n8,n9,n10,n11,n12,n13,n14,n15,n16,n17]
 refine hM.use ?_
 simp (disch:=first|assumption|omega|(simp only [List.length_append,List.length_cons,List.length_nil];omega)) only [go_sem,reduceCtorEq,Nat.reduceEqDiff,Nat.reduceAdd,Nat.reduceSub,Nat.reduceMul,Nat.reduceLeDiff,Int.reduceLT,Int.reduceLE,Int.reduceEq,↓reduceIte,Int.reduceNeg,Int.reduceAdd,Int.reduceSub,Int.reduceMul,true_imp_iff,forall_const,Nat.mul_one,Int.reduceToNat,Nat.reducePow,Int.reducePow,Bool.true_and,Bool.false_and,Bool.and_false]
 exact retC_by (by repeat' (first|exact Drop.refl _|with_reducible refine Drop.off ?_ (by assumption))) (.refl _) ⟨rfl,rfl⟩
theorem call_down {σ:ASt} (hT:Tens σ) {a b:Int} (ha:a.natAbs<=999999999999999999) (hb:b.natAbs<=999999999999999999) :
  ACalls Tryz.prog 10 [.str sDOWN,.sl .shr ([PV.num a,PV.num b].map argAV)] σ (fun v σ'=>v=(PV.num (truncG a (placesM [a,b]))).av/\σ'=σ):=by
 refine call_ofS _ _ _ (by simp) (small_nums [a,b]) (fun h=>by cases h) (fun _ h=>by (have e:limP sDOWN=(1,2):=by decide);rw [e] at h;simp only [List.length_cons,List.length_nil] at h;omega) (fun f _ _ _ h=>by cases h) (fun N _ _ _ h=>?_)
 injection h with h
 subst h
 intro a1 hf
 have hP:=places_ok [a,b] (by simp) hb
 have hpl : -20<=placesM [a,b]/\placesM [a,b]<=20:=by unfold placesM;omega
 have hX:=trunc_g hT (placesM [a,b]) ha
 obtain ⟨s,hs⟩:∃ s,sDOWN=s:=⟨_,rfl⟩
 have n0:(s = [65,66,83])=False:=eq_false (by rw [<-hs];decide)
 have n1:(s = [83,73,71,78])=False:=eq_false (by rw [<-hs];decide)
 have n2:(s = [73,78,84])=False:=eq_false (by rw [<-hs];decide)
 have n3:(s = [84,82,85,78,67])=False:=eq_false (by rw [<-hs];decide)
 have n4:(s = [82,79,85,78,68,68,79,87,78])=True:=eq_true (by rw [<-hs];decide)
 have n5:(s = [82,79,85,78,68])=False:=eq_false (by rw [<-hs];decide)
 have n6:(s = [82,79,85,78,68,85,80])=False:=eq_false (by rw [<-hs];decide)
 have n7:(s = [70,76,79,79,82])=False:=eq_false (by rw [<-hs];decide)
 have n8:(s = [67,69,73,76,73,78,71])=False:=eq_false (by rw [<-hs];decide)
 have n9:(s = [77,82,79,85,78,68])=False:=eq_false (by rw [<-hs];decide)
 have n10:(s = [77,79,68])=False:=eq_false (by rw [<-hs];decide)
 have n11:(s = [81,85,79,84,73,69,78,84])=False:=eq_false (by rw [<-hs];decide)
 have n12:(s = [80,79,87,69,82])=False:=eq_false (by rw [<-hs];decide)
 have n13:(s = [83,81,82,84])=False:=eq_false (by rw [<-hs];decide)
 have n14:(s = [70,65,67,84])=False:=eq_false (by rw [<-hs];decide)
 have n15:(s = [69,86,69,78])=False:=eq_false (by rw [<-hs];decide)
 have n16:(s = [79,68,68])=False:=eq_false (by rw [<-hs];decide)
 have n17:(s = [67,76,65,77,80])=False:=eq_false (by rw [<-hs];decide)
 rw [hs] at hf
 simp only [asNum,List.nil_append,List.cons_append] at hf
 simp only [List.map_cons,List.map_nil] at hP hf
 generalize placesM [a,b]=p at *
 simp only [PV.av]
 generalize truncG a p=t at *
 simp (disch:=first|assumption|omega|(simp only [List.length_append,List.length_cons,List.length_nil];omega)) only [go_sem,reduceCtorEq,Nat.reduceEqDiff,Nat.reduceAdd,Nat.reduceSub,Nat.reduceMul,Nat.reduceLeDiff,Int.reduceLT,Int.reduceLE,Int.reduceEq,↓reduceIte,Int.reduceNeg,Int.reduceAdd,Int.reduceSub,Int.reduceMul,true_imp_iff,forall_const,Nat.mul_one,Int.reduceToNat,Nat.reducePow,Int.reducePow,Bool.true_and,Bool.false_and,Bool.and_false,hf,n0,n1,n2,n3,n4,n5,n6,n7,n8,n9,n10,n11,n12,n13,n14,n15,n16,n17]
 refine hP.use ?_
 simp (disch:=first|assumption|omega|(simp only [List.length_append,List.length_cons,List.length_nil];omega)) only [go_sem,reduceCtorEq,Nat.reduceEqDiff,Nat.reduceAdd,Nat.reduceSub,Nat.reduceMul,Nat.reduceLeDiff,Int.reduceLT,Int.reduceLE,Int.reduceEq,↓reduceIte,Int.reduceNeg,Int.reduceAdd,Int.reduceSub,Int.reduceMul,true_imp_iff,forall_const,Nat.mul_one,Int.reduceToNat,Nat.reducePow,Int.reducePow,Bool.true_and,Bool.false_and,Bool.and_false]
 refine hX.mono ?_
 rintro v σ' ⟨rfl,rfl⟩
 simp (disch:=first|assumption|omega|(simp only [List.length_append,List.length_cons,List.length_nil];omega)) only [go_sem,reduceCtorEq,Nat.reduceEqDiff,Nat.reduceAdd,Nat.reduceSub,Nat.reduceMul,Nat.reduceLeDiff,Int.reduceLT,Int.reduceLE,Int.reduceEq,↓reduceIte,Int.reduceNeg,Int.reduceAdd,Int.reduceSub,Int.reduceMul,true_imp_iff,forall_const,Nat.mul_one,Int.reduceToNat,Nat.reducePow,Int.reducePow,Bool.true_and,Bool.false_and,Bool.and_false]
 exact retC_by (by repeat' (first|exact Drop.refl _|with_reducible refine Drop.off ?_ (by assumption))) (.refl _) ⟨rfl,rfl⟩
theorem call_up {σ:ASt} (hT:Tens σ) {a b:Int} (ha:a.natAbs<=999999999999999999) (hb:b.natAbs<=999999999999999999) :
  ACalls Tryz.prog 10 [.str sUP,.sl .shr ([PV.num a,PV.num b].map argAV)] σ (fun v σ'=>v=(awayP a (placesM [a,b])).av/\σ'=σ):=by
 refine call_ofS _ _ _ (by simp) (small_nums [a,b]) (fun h=>by cases h) (fun _ h=>by (have e:limP sUP=(1,2):=by decide);rw [e] at h;simp only [List.length_cons,List.length_nil] at h;omega) (fun f _ _ _ h=>by cases h) (fun N _ _ _ h=>?_)
 injection h with h
 subst h
 intro a1 hf
 have hP:=places_ok [a,b] (by simp) hb
 have hpl : -20<=placesM [a,b]/\placesM [a,b]<=20:=by unfold placesM;omega
 have hX:=away_ok hT ha hpl.1 hpl.2
 obtain ⟨s,hs⟩:∃ s,sUP=s:=⟨_,rfl⟩
 have n0:(s = [65,66,83])=False:=eq_false (by rw [<-hs];decide)
 have n1:(s = [83,73,71,78])=False:=eq_false (by rw [<-hs];decide)
 have n2:(s = [73,78,84])=False:=eq_false (by rw [<-hs];decide)
 have n3:(s = [84,82,85,78,67])=False:=eq_false (by rw [<-hs];decide)
 have n4:(s = [82,79,85,78,68,68,79,87,78])=False:=eq_false (by rw [<-hs];decide)
 have n5:(s = [82,79,85,78,68])=False:=eq_false (by rw [<-hs];decide)
 have n6:(s = [82,79,85,78,68,85,80])=True:=eq_true (by rw [<-hs];decide)
 have n7:(s = [70,76,79,79,82])=False:=eq_false (by rw [<-hs];decide)
 have n8:(s = [67,69,73,76,73,78,71])=False:=eq_false (by rw [<-hs];decide)
 have n9:(s = [77,82,79,85,78,68])=False:=eq_false (by rw [<-hs];decide)
 have n10:(s = [77,79,68])=False:=eq_false (by rw [<-hs];decide)
 have n11:(s = [81,85,79,84,73,69,78,84])=False:=eq_false (by rw [<-hs];decide)
 have n12:(s = [80,79,87,69,82])=False:=eq_false (by rw [<-hs];decide)
 have n13:(s = [83,81,82,84])=False:=eq_false (by rw [<-hs];decide)
 have n14:(s = [70,65,67,84])=False:=eq_false (by rw [<-hs];decide)
 have n15:(s = [69,86,69,78])=False:=eq_false (by rw [<-hs];decide)
 have n16:(s = [79,68,68])=False:=eq_false (by rw [<-hs];decide)
 have n17:(s = [67,76,65,77,80])=False:=eq_false (by rw [<-hs];decide)
 rw [hs] at hf
 simp only [asNum,List.nil_append,List.cons_append] at hf
 simp only [List.map_cons,List.map_nil] at hP hf
 generalize placesM [a,b]=p at *
 generalize awayP a p=v at *
 simp (disch:=first|assumption|omega|(simp only [List.length_append,List.length_cons,List.length_nil];omega)) only [go_sem,reduceCtorEq,Nat.reduceEqDiff,Nat.reduceAdd,Nat.reduceSub,Nat.reduceMul,Nat.reduceLeDiff,Int.reduceLT,Int.reduceLE,Int.reduceEq,↓reduceIte,Int.reduceNeg,Int.reduceAdd,Int.reduceSub,Int.reduceMul,true_imp_iff,forall_const,Nat.mul_one,Int.reduceToNat,Nat.reducePow,Int.reducePow,Bool.true_and,Bool.false_and,Bool.and_false,hf,n0,n1,n2,n3,n4,n5,n6,n7,n8,n9,n10,n11,n12,n13,n14,n15,n16,n17]
 refine hP.use ?_
 simp (disch:=first|assumption|omega|(simp only [List.length_append,List.length_cons,List.length_nil];omega)) only [go_sem,reduceCtorEq,Nat.reduceEqDiff,Nat.reduceAdd,Nat.reduceSub,Nat.reduceMul,Nat.reduceLeDiff,Int.reduceLT,Int.reduceLE,Int.reduceEq,↓reduceIte,Int.reduceNeg,Int.reduceAdd,Int.reduceSub,Int.reduceMul,true_imp_iff,forall_const,Nat.mul_one,Int.reduceToNat,Nat.reducePow,Int.reducePow,Bool.true_and,Bool.false_and,Bool.and_false]
 refine hX.mono ?_
 rintro v σ' ⟨rfl,rfl⟩
 simp (disch:=first|assumption|omega|(simp only [List.length_append,List.length_cons,List.length_nil];omega)) only [go_sem,reduceCtorEq,Nat.reduceEqDiff,Nat.reduceAdd,Nat.reduceSub,Nat.reduceMul,Nat.reduceLeDiff,Int.reduceLT,Int.reduceLE,Int.reduceEq,↓reduceIte,Int.reduceNeg,Int.reduceAdd,Int.reduceSub,Int.reduceMul,true_imp_iff,forall_const,Nat.mul_one,Int.reduceToNat,Nat.reducePow,Int.reducePow,Bool.true_and,Bool.false_and,Bool.and_false]
 exact retC_by (by repeat' (first|exact Drop.refl _|with_reducible refine Drop.off ?_ (by assumption))) (.refl _) ⟨rfl,rfl⟩
end Go.A
namespace Go.A
open Go.Proofs
/-! 26: tabular/maths.stepped -/
def c26_20:ACode := .seq (.ops [ oq 6 (.mv (.v .nili))]) (.seq (.block 0 (.seq (.ops [ oq 8 (.mv (.t 1)),oq 9 (.bin .eql (.t 8) (.v (.int .i64 0))),oq 7 (.mv (.t 9))]) (.cond (.t 7) (.seq (.ops [ oq 10 (.mki 49 (.v (.int .i64 0))),oq 6 (.mv (.t 10))]) .ret) (.seq (.ops [ oq 12 (.mv (.t 1)),oq 13 (.bin .lss (.t 12) (.v (.int .i64 0))),oq 11 (.mv (.t 13))]) (.cond (.t 11) (.seq (.ops [ oq 14 (.mki 45 (.v (.int .i64 2))),oq 6 (.mv (.t 14))]) .ret) (.seq (.ops [ oq 16 (.mv (.t 2)),oq 15 (.mv (.t 16))]) (.cond (.t 15) (.seq (.ops [ oq 17 (.mv (.t 0)),oq 18 (.mv (.t 1)),oe 19 (.call 66 [(.t 17),(.t 18)]),oq 20 (.ext 0 (.t 19)),oq 21 (.ext 1 (.t 19)),oe 22 (.call 20 [(.t 20),(.t 21)]),oq 6 (.mv (.t 22))]) .ret) .skip))))))) (.seq (.ops [ oq 23 (.mv (.t 0)),oq 24 (.mv (.t 1)),oe 25 (.call 21 [(.t 23),(.t 24)]),oq 26 (.ext 0 (.t 25)),oq 27 (.ext 1 (.t 25)),oe 28 (.call 20 [(.t 26),(.t 27)]),oq 6 (.mv (.t 28))]) .ret))
@[go_sem] def c26_20_wp:=wp_of c26_20.eq_1
def c26:AFn:=⟨29,[.t 6],c26_20⟩
theorem c26_ok:compF Tryz.prog Tryz.f26=some c26:=by kernel_rfl
theorem a26 {args:List AV} {σ:ASt} {R:AV->ASt->Prop} (hl:args.length<=29) (h:c26_20.wp Tryz.prog (RetQ [.t 6] R) (init args) σ):ACalls Tryz.prog 26 args σ R:=acalls_of Tryz.func26 c26_ok hl h
/-! 28: tabular/maths.nearest -/
def c28_35:ACode := .seq (.ops [ oq 27 (.mv (.t 0)),oe 28 (.call 18 [(.t 27)]),oq 29 (.mv (.t 5)),oe 30 (.call 21 [(.t 28),(.t 29)]),oq 26 (.mv (.t 30)),oq 31 (.ext 0 (.t 26)),oq 32 (.ext 1 (.t 26)),oq 6 (.mv (.t 31)),oq 7 (.mv (.t 32))]) (.seq (.seq (.ops [ oq 33 (.mv (.t 0)),oe 34 (.call 18 [(.t 33)]),oq 35 (.mv (.t 6)),oq 36 (.bin .sub (.t 34) (.t 35)),oq 8 (.mv (.t 36))]) (.seq (.ops [ oq 37 (.mv (.t 8)),oq 38 (.mv (.t 5)),oq 39 (.mv (.t 8)),oq 40 (.bin .sub (.t 38) (.t 39)),oq 41 (.bin .geq (.t 37) (.t 40))]) (.cond (.t 41) (.seq (.ops [ oq 43 (.mv (.t 6)),oq 44 (.mv (.t 5)),oe 45 (.call 65 [(.t 43),(.t 44)]),oq 42 (.mv (.t 45)),oq 46 (.ext 0 (.t 42)),oq 47 (.ext 1 (.t 42)),oq 9 (.mv (.t 46)),oq 10 (.mv (.t 47))]) (.seq (.seq (.ops [ oq 48 (.mv (.t 10)),oq 49 (.un .not (.t 48))]) (.cond (.t 49) (.seq (.ops [ oq 50 (.mki 45 (.v (.int .i64 2))),oq 4 (.mv (.t 50))]) .ret) .skip)) (.ops [ oq 51 (.mv (.t 9)),oq 6 (.mv (.t 51))]))) .skip))) (.seq (.seq (.ops [ oq 52 (.mv (.t 0)),oq 53 (.bin .lss (.t 52) (.v (.int .i64 0)))]) (.cond (.t 53) (.ops [ oq 54 (.mv (.t 6)),oq 55 (.un .neg (.t 54)),oq 6 (.mv (.t 55))]) .skip)) (.seq (.ops [ oq 56 (.mv (.t 6)),oq 57 (.mki 49 (.t 56)),oq 4 (.mv (.t 57))]) .ret)))
def c28_39:ACode := .seq (.ops [ oq 4 (.mv (.v .nili))]) (.seq (.seq (.ops [ oq 11 (.mv (.t 1)),oq 12 (.bin .eql (.t 11) (.v (.int .i64 0)))]) (.cond (.t 12) (.seq (.ops [ oq 13 (.mki 49 (.v (.int .i64 0))),oq 4 (.mv (.t 13))]) .ret) .skip)) (.seq (.seq (.ops [ oq 14 (.mv (.t 0)),oq 15 (.bin .neq (.t 14) (.v (.int .i64 0))),oq 16 (.mv (.t 15)),⟨some 17,some (16,true),.q (.mv (.t 0)),[]⟩,⟨some 18,some (16,true),.q (.bin .lss (.t 17) (.v (.int .i64 0))),[]⟩,⟨some 19,some (16,true),.q (.mv (.t 1)),[]⟩,⟨some 20,some (16,true),.q (.bin .lss (.t 19) (.v (.int .i64 0))),[]⟩,⟨some 21,some (16,true),.q (.eq .b true (.t 18) (.t 20)),[]⟩,oq 22 (.pick (.t 16) (.t 21) (.v (.bool false)))]) (.cond (.t 22) (.seq (.ops [ oq 23 (.mki 45 (.v (.int .i64 2))),oq 4 (.mv (.t 23))]) .ret) .skip)) (.seq (.ops [ oq 24 (.mv (.t 1)),oe 25 (.call 18 [(.t 24)]),oq 5 (.mv (.t 25))]) c28_35)))
@[go_sem] def c28_35_wp:=wp_of c28_35.eq_1
@[go_sem] def c28_39_wp:=wp_of c28_39.eq_1
def c28:AFn:=⟨58,[.t 4],c28_39⟩
theorem c28_ok:compF Tryz.prog Tryz.f28=some c28:=by kernel_rfl
theorem a28 {args:List AV} {σ:ASt} {R:AV->ASt->Prop} (hl:args.length<=58) (h:c28_39.wp Tryz.prog (RetQ [.t 4] R) (init args) σ):ACalls Tryz.prog 28 args σ R:=acalls_of Tryz.func28 c28_ok hl h
/-! 31: tabular/value.Power -/
def c31_15:ACode := .seq (.ops [ oq 4 (.mv (.v .nili))]) (.seq (.seq (.ops [ oq 5 (.mv (.t 1)),oe 6 (.call 68 [(.t 5)]),oq 7 (.un .not (.t 6))]) (.cond (.t 7) (.seq (.ops [ oq 8 (.mki 45 (.v (.int .i64 2))),oq 4 (.mv (.t 8))]) .ret) .skip)) (.seq (.seq (.ops [ oq 9 (.mv (.t 0)),oq 10 (.bin .eql (.t 9) (.v (.int .i64 0))),oq 11 (.mv (.t 10)),⟨some 12,some (11,true),.q (.mv (.t 1)),[]⟩,⟨some 13,some (11,true),.q (.bin .lss (.t 12) (.v (.int .i64 0))),[]⟩,oq 14 (.pick (.t 11) (.t 13) (.v (.bool false)))]) (.cond (.t 14) (.seq (.ops [ oq 15 (.mki 45 (.v (.int .i64 1))),oq 4 (.mv (.t 15))]) .ret) .skip)) (.seq (.ops [ oq 16 (.mv (.t 0)),oq 17 (.mv (.t 1)),oe 18 (.call 60 [(.t 17)]),oe 19 (.call 63 [(.t 16),(.t 18)]),oq 20 (.ext 0 (.t 19)),oq 21 (.ext 1 (.t 19)),oe 22 (.call 20 [(.t 20),(.t 21)]),oq 4 (.mv (.t 22))]) .ret)))
@[go_sem] def c31_15_wp:=wp_of c31_15.eq_1
def c31:AFn:=⟨23,[.t 4],c31_15⟩
theorem c31_ok:compF Tryz.prog Tryz.f31=some c31:=by kernel_rfl
theorem a31 {args:List AV} {σ:ASt} {R:AV->ASt->Prop} (hl:args.length<=23) (h:c31_15.wp Tryz.prog (RetQ [.t 4] R) (init args) σ):ACalls Tryz.prog 31 args σ R:=acalls_of Tryz.func31 c31_ok hl h
/-! 33: tabular/maths.fact -/
def c33_16:ACode := .seq (.seq (.ops [ oq 16 (.mv (.t 6)),oq 17 (.mv (.t 3)),oq 18 (.bin .leq (.t 16) (.t 17)),oq 19 (.mv (.t 18)),⟨some 20,some (19,true),.q (.mv (.t 5)),[]⟩,oq 21 (.pick (.t 19) (.t 20) (.v (.bool false)))]) (.cond (.t 21) .skip (.exit 0))) (.seq (.block 1 (.ops [ oq 25 (.mv (.t 4)),oq 26 (.mv (.t 6)),oq 27 (.bin .mul (.t 26) (.v (.int .i64 10000))),oe 28 (.call 70 [(.t 25),(.t 27)]),oq 24 (.mv (.t 28)),oq 29 (.ext 0 (.t 24)),oq 30 (.ext 1 (.t 24)),oq 4 (.mv (.t 29)),oq 5 (.mv (.t 30))])) (.ops [ oq 22 (.mv (.t 6)),oq 23 (.bin .add (.t 22) (.v (.int .i64 1))),oq 6 (.mv (.t 23))]))
def c33_26:ACode := .seq (.ops [ oq 2 (.mv (.v .nili))]) (.seq (.ops [ oq 7 (.mv (.t 0)),oe 8 (.call 60 [(.t 7)]),oq 3 (.mv (.t 8))]) (.seq (.seq (.ops [ oq 9 (.mv (.t 0)),oq 10 (.bin .lss (.t 9) (.v (.int .i64 0))),oq 11 (.mv (.t 10)),⟨some 12,some (11,false),.q (.mv (.t 3)),[]⟩,⟨some 13,some (11,false),.q (.bin .gtr (.t 12) (.v (.int .i64 30))),[]⟩,oq 14 (.pick (.t 11) (.v (.bool true)) (.t 13))]) (.cond (.t 14) (.seq (.ops [ oq 15 (.mki 45 (.v (.int .i64 2))),oq 2 (.mv (.t 15))]) .ret) .skip)) (.seq (.ops [ oq 4 (.mv (.v (.int .i64 10000))),oq 5 (.mv (.v (.bool true)))]) (.seq (.seq (.ops [ oq 6 (.mv (.v (.int .i64 2)))]) (.block 0 (.loop c33_16))) (.seq (.ops [ oq 31 (.mv (.t 4)),oq 32 (.mv (.t 5)),oe 33 (.call 20 [(.t 31),(.t 32)]),oq 2 (.mv (.t 33))]) .ret)))))
@[go_sem] def c33_16_wp:=wp_of c33_16.eq_1
@[go_sem] def c33_26_wp:=wp_of c33_26.eq_1
def c33:AFn:=⟨34,[.t 2],c33_26⟩
theorem c33_ok:compF Tryz.prog Tryz.f33=some c33:=by kernel_rfl
theorem a33 {args:List AV} {σ:ASt} {R:AV->ASt->Prop} (hl:args.length<=34) (h:c33_26.wp Tryz.prog (RetQ [.t 2] R) (init args) σ):ACalls Tryz.prog 33 args σ R:=acalls_of Tryz.func33 c33_ok hl h
/-! 34: tabular/maths.pair -/
def c34_16:ACode := .seq (.seq (.ops [ oq 20 (.mv (.t 0)),oq 21 (.bin .lss (.t 20) (.v (.int .i64 0)))]) (.cond (.t 21) (.ops [ oq 22 (.mv (.t 5)),oq 23 (.un .neg (.t 22)),oq 5 (.mv (.t 23))]) .skip)) (.seq (.ops [ oq 24 (.mv (.t 5)),oe 25 (.call 67 [(.t 24)]),oq 26 (.ext 0 (.t 25)),oq 27 (.ext 1 (.t 25)),oe 28 (.call 20 [(.t 26),(.t 27)]),oq 4 (.mv (.t 28))]) .ret)
def c34_17:ACode := .seq (.seq (.ops [ oq 14 (.mv (.t 5)),oq 15 (.bin .rem (.t 14) (.v (.int .i64 2))),oq 16 (.mv (.t 1)),oq 17 (.bin .neq (.t 15) (.t 16))]) (.cond (.t 17) (.ops [ oq 18 (.mv (.t 5)),oq 19 (.bin .add (.t 18) (.v (.int .i64 1))),oq 5 (.mv (.t 19))]) .skip)) c34_16
def c34_20:ACode := .seq (.ops [ oq 4 (.mv (.v .nili))]) (.seq (.ops [ oq 6 (.mv (.t 0)),oe 7 (.call 18 [(.t 6)]),oe 8 (.call 60 [(.t 7)]),oq 5 (.mv (.t 8))]) (.seq (.seq (.ops [ oq 9 (.mv (.t 0)),oe 10 (.call 68 [(.t 9)]),oq 11 (.un .not (.t 10))]) (.cond (.t 11) (.ops [ oq 12 (.mv (.t 5)),oq 13 (.bin .add (.t 12) (.v (.int .i64 1))),oq 5 (.mv (.t 13))]) .skip)) c34_17))
@[go_sem] def c34_16_wp:=wp_of c34_16.eq_1
@[go_sem] def c34_17_wp:=wp_of c34_17.eq_1
@[go_sem] def c34_20_wp:=wp_of c34_20.eq_1
def c34:AFn:=⟨29,[.t 4],c34_20⟩
theorem c34_ok:compF Tryz.prog Tryz.f34=some c34:=by kernel_rfl
theorem a34 {args:List AV} {σ:ASt} {R:AV->ASt->Prop} (hl:args.length<=29) (h:c34_20.wp Tryz.prog (RetQ [.t 4] R) (init args) σ):ACalls Tryz.prog 34 args σ R:=acalls_of Tryz.func34 c34_ok hl h
end Go.A
