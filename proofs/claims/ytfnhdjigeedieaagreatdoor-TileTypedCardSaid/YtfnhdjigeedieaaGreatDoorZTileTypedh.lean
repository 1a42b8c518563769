/- Part 8 of what TileTyped leans on: CodeZk Zk CodeEm Em CodeOb Ob CodeEn En CodeEo CodeEr Er CodeOc Oc. -/
import Derived.Test.YtfnhdjigeedieaaGreatDoorProg
import Derived.KernelRfl
import Derived.Test.YtfnhdjigeedieaaGreatDoorZTileTypedg
set_option linter.defProp false
set_option linter.unusedSimpArgs false
set_option linter.unusedVariables false
set_option maxRecDepth 100000
namespace Go.A
open Go.Proofs
/-! 63: tabular/token.Lex -/
def c63_18:ACode := .seq (.seq (.ops [ oq 13 (.mv (.t 5)),oq 14 (.nc (.t 13)),oq 15 (.fa 1 (.t 14)),oq 16 (.ld none (.t 15)),oq 17 (.mv (.t 0)),oq 18 (.lenS (.t 17)),oq 19 (.bin .lss (.t 16) (.t 18))]) (.cond (.t 19) .skip (.exit 0))) (.block 1 (.seq (.ops [ oq 20 (.mv (.t 5)),oe 21 (.call 107 [(.t 20)]),oq 6 (.mv (.t 21))]) (.seq (.ops [ oq 22 (.mv (.t 6)),oq 23 (.bin .neq (.t 22) (.v (.int .i64 0)))]) (.cond (.t 23) (.seq (.ops [ oq 24 (.mv (.t 5)),oq 25 (.nc (.t 24)),oq 26 (.fa 1 (.t 25)),oq 27 (.ld none (.t 26)),oq 28 (.mv (.t 6)),oq 2 (.mv (.v (.sl .full []))),oq 3 (.mv (.t 27)),oq 4 (.mv (.t 28))]) .ret) .skip))))
def c63_24:ACode := .seq (.ops [ oq 29 (.mv (.t 5)),oe 30 (.call 108 [(.t 29),(.v (.int .i64 0)),(.v (.str [])),(.v (.int .i64 0))])]) (.seq (.ops [ oq 31 (.mv (.t 5)),oq 32 (.nc (.t 31)),oq 33 (.fa 3 (.t 32)),oq 34 (.ld none (.t 33)),oq 2 (.mv (.t 34)),oq 3 (.mv (.v (.int .i64 0))),oq 4 (.mv (.v (.int .i64 0)))]) .ret)
def c63_28:ACode := .seq (.ops [ oq 2 (.mv (.v (.sl .full []))),oq 3 (.mv (.v (.int .i64 0))),oq 4 (.mv (.v (.int .i64 0)))]) (.seq (.seq (.ops [ oq 7 (.mv (.t 0)),oq 8 (.lenS (.t 7)),oq 9 (.bin .gtr (.t 8) (.v (.int .i64 2000)))]) (.cond (.t 9) (.seq (.ops [ oq 2 (.mv (.v (.sl .full []))),oq 3 (.mv (.v (.int .i64 0))),oq 4 (.mv (.v (.int .i64 11)))]) .ret) .skip)) (.seq (.ops [ oq 10 (.mv (.t 0)),oq 11 (.build [(.str []),(.int .i64 0),(.int .i64 0),(.sl .full [])] [(0,1,(.t 10))]),oe 12 (.box (.t 11)),oq 5 (.mv (.t 12))]) (.seq (.block 0 (.loop c63_18)) c63_24)))
@[go_sem] def c63_18_wp:=wp_of c63_18.eq_1
@[go_sem] def c63_24_wp:=wp_of c63_24.eq_1
@[go_sem] def c63_28_wp:=wp_of c63_28.eq_1
def c63:AFn:=⟨35,[.t 2,.t 3,.t 4],c63_28⟩
theorem c63_ok:compF Tryz.prog Tryz.f63=some c63:=by kernel_rfl
theorem a63 {args:List AV} {σ:ASt} {R:AV->ASt->Prop} (hl:args.length<=35) (h:c63_28.wp Tryz.prog (RetQ [.t 2,.t 3,.t 4] R) (init args) σ):ACalls Tryz.prog 63 args σ R:=acalls_of Tryz.func63 c63_ok hl h
/-! 107: (*tabular/token.lexer).next -/
def c107_39:ACode := .seq (.ops [ oq 2 (.mv (.v (.int .i64 0)))]) (.seq (.ops [ oq 6 (.mv (.t 0)),oe 7 (.call 152 [(.t 6)]),oq 5 (.mv (.t 7)),oq 8 (.ext 0 (.t 5)),oq 9 (.ext 1 (.t 5)),oq 3 (.mv (.t 8)),oq 4 (.mv (.t 9))]) (.seq (.block 0 (.seq (.ops [ oq 15 (.mv (.t 4)),oq 16 (.bin .lss (.t 15) (.v (.int .i64 0))),oq 14 (.mv (.t 16))]) (.cond (.t 14) (.seq (.ops [ oq 2 (.mv (.v (.int .i64 10)))]) .ret) (.seq (.seq (.ops [ oq 18 (.mv (.t 3)),oq 19 (.bin .eql (.t 18) (.v (.int .i32 32))),oq 17 (.mv (.t 19))]) (.cond (.t 17) .skip (.seq (.ops [ oq 20 (.mv (.t 3)),oq 21 (.bin .eql (.t 20) (.v (.int .i32 9))),oq 17 (.mv (.t 21))]) (.cond (.t 17) .skip (.ops [ oq 22 (.mv (.t 3)),oq 23 (.bin .eql (.t 22) (.v (.int .i32 10))),oq 17 (.mv (.t 23))]))))) (.cond (.t 17) (.ops [ oq 24 (.mv (.t 0)),oq 25 (.mv (.t 0)),oq 26 (.nc (.t 25)),oq 27 (.fa 1 (.t 26)),oq 28 (.ld none (.t 27)),oq 29 (.mv (.t 4)),oq 30 (.bin .add (.t 28) (.t 29)),oe 31 (.call 153 [(.t 24),(.t 30)])]) (.seq (.ops [ oq 33 (.mv (.t 3)),oq 34 (.bin .lss (.t 33) (.v (.int .i32 128))),oq 35 (.mv (.t 34)),⟨some 36,some (35,true),.q (.mv (.t 3)),[]⟩,⟨some 37,some (35,true),.q (.conv .u8 (.t 36)),[]⟩,⟨some 38,some (35,true),.e (.call 154 [(.t 37)]),[]⟩,oq 39 (.pick (.t 35) (.t 38) (.v (.bool false))),oq 32 (.mv (.t 39))]) (.cond (.t 32) (.seq (.ops [ oq 40 (.mv (.t 0)),oe 41 (.call 155 [(.t 40)]),oq 2 (.mv (.t 41))]) .ret) (.seq (.ops [ oq 43 (.mv (.t 3)),oq 44 (.bin .eql (.t 43) (.v (.int .i32 34))),oq 42 (.mv (.t 44))]) (.cond (.t 42) (.seq (.ops [ oq 45 (.mv (.t 0)),oe 46 (.call 156 [(.t 45)]),oq 2 (.mv (.t 46))]) .ret) (.seq (.ops [ oq 48 (.mv (.t 3)),oq 49 (.bin .eql (.t 48) (.v (.int .i32 35))),oq 47 (.mv (.t 49))]) (.cond (.t 47) (.seq (.ops [ oq 50 (.mv (.t 0)),oe 51 (.call 157 [(.t 50)]),oq 2 (.mv (.t 51))]) .ret) (.seq (.ops [ oq 10 (.mv (.t 0)),oq 11 (.mv (.t 3)),oq 12 (.mv (.t 4)),oe 13 (.call 158 [(.t 10),(.t 11),(.t 12)]),oq 2 (.mv (.t 13))]) .ret)))))))))))) (.seq (.ops [ oq 2 (.mv (.v (.int .i64 0)))]) .ret)))
@[go_sem] def c107_39_wp:=wp_of c107_39.eq_1
def c107:AFn:=⟨52,[.t 2],c107_39⟩
theorem c107_ok:compF Tryz.prog Tryz.f107=some c107:=by kernel_rfl
theorem a107 {args:List AV} {σ:ASt} {R:AV->ASt->Prop} (hl:args.length<=52) (h:c107_39.wp Tryz.prog (RetQ [.t 2] R) (init args) σ):ACalls Tryz.prog 107 args σ R:=acalls_of Tryz.func107 c107_ok hl h
/-! 108: (*tabular/token.lexer).put -/
def c108_4:ACode := .seq (.ops [ oq 8 (.mv (.t 0)),oq 9 (.mv (.t 0)),oq 10 (.nc (.t 9)),oq 11 (.fa 3 (.t 10)),oq 12 (.ld none (.t 11)),oq 13 (.mv (.t 1)),oq 14 (.mv (.t 2)),oq 15 (.mv (.t 0)),oq 16 (.nc (.t 15)),oq 17 (.fa 1 (.t 16)),oq 18 (.ld none (.t 17)),oq 19 (.mv (.t 0)),oq 20 (.nc (.t 19)),oq 21 (.fa 2 (.t 20)),oq 22 (.ld none (.t 21)),oq 23 (.build [(.int .i64 0),(.str []),(.int .i64 0),(.int .i64 0)] [(0,1,(.t 13)),(1,1,(.t 14)),(2,1,(.t 18)),(3,1,(.t 22))]),oq 24 (.bsl 4 [(.t 23)]),oe 25 (.app 131 4 40 [(.int .i64 0),(.str []),(.int .i64 0),(.int .i64 0)] (.t 12) (.t 24)),oq 26 (.nc (.t 8)),oq 27 (.fa 3 (.t 26)),oz (.store 1 (.t 27) (.t 25))]) (.seq (.ops [ oq 28 (.mv (.t 0)),oq 29 (.nc (.t 28)),oq 30 (.fa 2 (.t 29)),oq 31 (.ld none (.t 30)),oq 32 (.mv (.t 0)),oq 33 (.nc (.t 32)),oq 34 (.fa 0 (.t 33)),oq 35 (.ld none (.t 34)),oq 36 (.mv (.t 0)),oq 37 (.nc (.t 36)),oq 38 (.fa 1 (.t 37)),oq 39 (.ld none (.t 38)),oq 40 (.mv (.t 0)),oq 41 (.nc (.t 40)),oq 42 (.fa 1 (.t 41)),oq 43 (.ld none (.t 42)),oq 44 (.mv (.t 3)),oq 45 (.bin .add (.t 43) (.t 44)),oq 46 (.sls (true,0) (.t 35) (.t 39) (.t 45)),⟨some 47,none,.e (.call 159 [(.t 46)]),[⟨none,.ld none (.t 30),31⟩]⟩,oq 48 (.bin .add (.t 31) (.t 47)),oq 49 (.nc (.t 28)),oq 50 (.fa 2 (.t 49)),oz (.store 1 (.t 50) (.t 48))]) (.ops [ oq 51 (.mv (.t 0)),oq 52 (.nc (.t 51)),oq 53 (.fa 1 (.t 52)),oq 54 (.ld none (.t 53)),oq 55 (.mv (.t 3)),oq 56 (.bin .add (.t 54) (.t 55)),oq 57 (.nc (.t 51)),oq 58 (.fa 1 (.t 57)),oz (.store 1 (.t 58) (.t 56))]))
@[go_sem] def c108_4_wp:=wp_of c108_4.eq_1
def c108:AFn:=⟨59,[],c108_4⟩
theorem c108_ok:compF Tryz.prog Tryz.f108=some c108:=by kernel_rfl
theorem a108 {args:List AV} {σ:ASt} {R:AV->ASt->Prop} (hl:args.length<=59) (h:c108_4.wp Tryz.prog (RetQ [] R) (init args) σ):ACalls Tryz.prog 108 args σ R:=acalls_of Tryz.func108 c108_ok hl h
/-! 152: (*tabular/token.lexer).sign -/
def c152_17:ACode := .seq (.ops [ oq 2 (.mv (.v (.int .i32 0))),oq 3 (.mv (.v (.int .i64 0)))]) (.seq (.seq (.ops [ oq 6 (.mv (.t 0)),oq 7 (.nc (.t 6)),oq 8 (.fa 1 (.t 7)),oq 9 (.ld none (.t 8)),oq 10 (.mv (.t 0)),oq 11 (.nc (.t 10)),oq 12 (.fa 0 (.t 11)),oq 13 (.ld none (.t 12)),oq 14 (.lenS (.t 13)),oq 15 (.bin .geq (.t 9) (.t 14))]) (.cond (.t 15) (.seq (.ops [ oq 2 (.mv (.v (.int .i32 0))),oq 3 (.mv (.v (.int .i64 0)))]) .ret) .skip)) (.seq (.ops [ oq 17 (.mv (.t 0)),oq 18 (.nc (.t 17)),oq 19 (.fa 0 (.t 18)),oq 20 (.ld none (.t 19)),oq 21 (.mv (.t 0)),oq 22 (.nc (.t 21)),oq 23 (.fa 1 (.t 22)),oq 24 (.ld none (.t 23)),oq 25 (.slfrom (true,0) (.t 20) (.t 24)),oe 26 (.call 119 [(.t 25)]),oq 16 (.mv (.t 26)),oq 27 (.ext 0 (.t 16)),oq 28 (.ext 1 (.t 16)),oq 4 (.mv (.t 27)),oq 5 (.mv (.t 28))]) (.seq (.seq (.ops [ oq 29 (.mv (.t 4)),oq 30 (.bin .eql (.t 29) (.v (.int .i32 65533))),oq 31 (.mv (.t 30)),⟨some 32,some (31,true),.q (.mv (.t 5)),[]⟩,⟨some 33,some (31,true),.q (.bin .eql (.t 32) (.v (.int .i64 1))),[]⟩,oq 34 (.pick (.t 31) (.t 33) (.v (.bool false)))]) (.cond (.t 34) (.seq (.ops [ oq 2 (.mv (.v (.int .i32 0))),oq 3 (.mv (.v (.int .i64 (-1))))]) .ret) .skip)) (.seq (.ops [ oq 35 (.mv (.t 4)),oq 36 (.mv (.t 5)),oq 2 (.mv (.t 35)),oq 3 (.mv (.t 36))]) .ret))))
@[go_sem] def c152_17_wp:=wp_of c152_17.eq_1
def c152:AFn:=⟨37,[.t 2,.t 3],c152_17⟩
theorem c152_ok:compF Tryz.prog Tryz.f152=some c152:=by kernel_rfl
theorem a152 {args:List AV} {σ:ASt} {R:AV->ASt->Prop} (hl:args.length<=37) (h:c152_17.wp Tryz.prog (RetQ [.t 2,.t 3] R) (init args) σ):ACalls Tryz.prog 152 args σ R:=acalls_of Tryz.func152 c152_ok hl h
/-! 153: (*tabular/token.lexer).pass -/
def c153_2:ACode := .seq (.ops [ oq 4 (.mv (.t 0)),oq 5 (.nc (.t 4)),oq 6 (.fa 2 (.t 5)),oq 7 (.ld none (.t 6)),oq 8 (.mv (.t 0)),oq 9 (.nc (.t 8)),oq 10 (.fa 0 (.t 9)),oq 11 (.ld none (.t 10)),oq 12 (.mv (.t 0)),oq 13 (.nc (.t 12)),oq 14 (.fa 1 (.t 13)),oq 15 (.ld none (.t 14)),oq 16 (.mv (.t 1)),oq 17 (.sls (true,0) (.t 11) (.t 15) (.t 16)),⟨some 18,none,.e (.call 159 [(.t 17)]),[⟨none,.ld none (.t 6),7⟩]⟩,oq 19 (.bin .add (.t 7) (.t 18)),oq 20 (.nc (.t 4)),oq 21 (.fa 2 (.t 20)),oz (.store 1 (.t 21) (.t 19))]) (.ops [ oq 22 (.mv (.t 0)),oq 23 (.mv (.t 1)),oq 24 (.nc (.t 22)),oq 25 (.fa 1 (.t 24)),oz (.store 1 (.t 25) (.t 23))])
@[go_sem] def c153_2_wp:=wp_of c153_2.eq_1
def c153:AFn:=⟨26,[],c153_2⟩
theorem c153_ok:compF Tryz.prog Tryz.f153=some c153:=by kernel_rfl
theorem a153 {args:List AV} {σ:ASt} {R:AV->ASt->Prop} (hl:args.length<=26) (h:c153_2.wp Tryz.prog (RetQ [] R) (init args) σ):ACalls Tryz.prog 153 args σ R:=acalls_of Tryz.func153 c153_ok hl h
/-! 155: (*tabular/token.lexer).words -/
def c155_7:ACode := .seq (.seq (.ops [ oq 5 (.mv (.t 0)),oq 6 (.nc (.t 5)),oq 7 (.fa 1 (.t 6)),oq 8 (.ld none (.t 7)),oq 9 (.mv (.t 3)),oq 10 (.bin .add (.t 8) (.t 9)),oq 11 (.mv (.t 0)),oq 12 (.nc (.t 11)),oq 13 (.fa 0 (.t 12)),oq 14 (.ld none (.t 13)),oq 15 (.lenS (.t 14)),oq 16 (.bin .lss (.t 10) (.t 15)),oq 17 (.mv (.t 16)),⟨some 18,some (17,true),.q (.mv (.t 0)),[]⟩,⟨some 19,some (17,true),.q (.nc (.t 18)),[]⟩,⟨some 20,some (17,true),.q (.fa 0 (.t 19)),[]⟩,⟨some 21,some (17,true),.q (.ld none (.t 20)),[]⟩,⟨some 22,some (17,true),.q (.mv (.t 0)),[]⟩,⟨some 23,some (17,true),.q (.nc (.t 22)),[]⟩,⟨some 24,some (17,true),.q (.fa 1 (.t 23)),[]⟩,⟨some 25,some (17,true),.q (.ld none (.t 24)),[]⟩,⟨some 26,some (17,true),.q (.mv (.t 3)),[]⟩,⟨some 27,some (17,true),.q (.bin .add (.t 25) (.t 26)),[]⟩,⟨some 28,some (17,true),.q (.idx (.t 21) (.t 27)),[]⟩,⟨some 29,some (17,true),.e (.call 154 [(.t 28)]),[]⟩,oq 30 (.pick (.t 17) (.t 29) (.v (.bool false)))]) (.cond (.t 30) .skip (.exit 0))) (.block 1 (.ops [ oq 31 (.mv (.t 3)),oq 32 (.bin .add (.t 31) (.v (.int .i64 1))),oq 3 (.mv (.t 32))]))
def c155_29:ACode := .seq (.ops [ oq 33 (.mv (.t 0)),oq 34 (.nc (.t 33)),oq 35 (.fa 0 (.t 34)),oq 36 (.ld none (.t 35)),oq 37 (.mv (.t 0)),oq 38 (.nc (.t 37)),oq 39 (.fa 1 (.t 38)),oq 40 (.ld none (.t 39)),oq 41 (.mv (.t 0)),oq 42 (.nc (.t 41)),oq 43 (.fa 1 (.t 42)),oq 44 (.ld none (.t 43)),oq 45 (.mv (.t 3)),oq 46 (.bin .add (.t 44) (.t 45)),oq 47 (.sls (true,0) (.t 36) (.t 40) (.t 46)),oq 4 (.mv (.t 47))]) (.seq (.block 2 (.seq (.ops [ oq 49 (.mv (.t 4)),oe 50 (.call 191 [(.t 49)]),oq 48 (.mv (.t 50))]) (.cond (.t 48) (.ops [ oq 51 (.mv (.t 0)),oq 52 (.mv (.t 4)),oq 53 (.mv (.t 3)),oe 54 (.call 108 [(.t 51),(.v (.int .i64 1)),(.t 52),(.t 53)])]) (.seq (.ops [ oq 56 (.mv (.t 4)),oe 57 (.call 192 [(.t 56)]),oq 55 (.mv (.t 57))]) (.cond (.t 55) (.ops [ oq 58 (.mv (.t 0)),oq 59 (.mv (.t 4)),oe 60 (.call 193 [(.t 59)]),oq 61 (.mv (.t 3)),oe 62 (.call 108 [(.t 58),(.v (.int .i64 4)),(.t 60),(.t 61)])]) (.seq (.ops [ oq 64 (.mv (.t 4)),oe 65 (.call 194 [(.t 64)]),oq 63 (.mv (.t 65))]) (.cond (.t 63) (.ops [ oq 66 (.mv (.t 0)),oq 67 (.mv (.t 4)),oe 68 (.call 193 [(.t 67)]),oq 69 (.mv (.t 3)),oe 70 (.call 108 [(.t 66),(.v (.int .i64 3)),(.t 68),(.t 69)])]) (.seq (.ops [ oq 2 (.mv (.v (.int .i64 10)))]) .ret)))))))) (.seq (.ops [ oq 2 (.mv (.v (.int .i64 0)))]) .ret))
def c155_32:ACode := .seq (.ops [ oq 2 (.mv (.v (.int .i64 0)))]) (.seq (.ops [ oq 3 (.mv (.v (.int .i64 0)))]) (.seq (.block 0 (.loop c155_7)) c155_29))
@[go_sem] def c155_7_wp:=wp_of c155_7.eq_1
@[go_sem] def c155_29_wp:=wp_of c155_29.eq_1
@[go_sem] def c155_32_wp:=wp_of c155_32.eq_1
def c155:AFn:=⟨71,[.t 2],c155_32⟩
theorem c155_ok:compF Tryz.prog Tryz.f155=some c155:=by kernel_rfl
theorem a155 {args:List AV} {σ:ASt} {R:AV->ASt->Prop} (hl:args.length<=71) (h:c155_32.wp Tryz.prog (RetQ [.t 2] R) (init args) σ):ACalls Tryz.prog 155 args σ R:=acalls_of Tryz.func155 c155_ok hl h
/-! 156: (*tabular/token.lexer).quoted -/
def c156_43:ACode := .seq (.seq (.ops [ oq 54 (.mv (.t 7)),oq 55 (.bin .neq (.t 54) (.v (.int .i32 34)))]) (.cond (.t 55) (.seq (.ops [ oq 56 (.mv (.t 7)),oe 57 (.call 195 [(.t 3),(.t 56)])]) (.seq (.ops [ oq 58 (.mv (.t 6)),oq 59 (.bin .add (.t 58) (.v (.int .i64 1))),oq 60 (.mv (.t 7)),oe 61 (.call 196 [(.t 60)]),oq 62 (.bin .add (.t 59) (.t 61)),oq 5 (.mv (.t 62))]) (.exit 1))) .skip)) (.seq (.seq (.ops [ oq 63 (.mv (.t 8)),oq 64 (.bin .add (.t 63) (.v (.int .i64 1))),oq 65 (.mv (.t 0)),oq 66 (.nc (.t 65)),oq 67 (.fa 0 (.t 66)),oq 68 (.ld none (.t 67)),oq 69 (.lenS (.t 68)),oq 70 (.bin .lss (.t 64) (.t 69)),oq 71 (.mv (.t 70)),⟨some 72,some (71,true),.q (.mv (.t 0)),[]⟩,⟨some 73,some (71,true),.q (.nc (.t 72)),[]⟩,⟨some 74,some (71,true),.q (.fa 0 (.t 73)),[]⟩,⟨some 75,some (71,true),.q (.ld none (.t 74)),[]⟩,⟨some 76,some (71,true),.q (.mv (.t 8)),[]⟩,⟨some 77,some (71,true),.q (.bin .add (.t 76) (.v (.int .i64 1))),[]⟩,⟨some 78,some (71,true),.q (.idx (.t 75) (.t 77)),[]⟩,⟨some 79,some (71,true),.q (.bin .eql (.t 78) (.v (.int .u8 34))),[]⟩,oq 80 (.pick (.t 71) (.t 79) (.v (.bool false)))]) (.cond (.t 80) (.seq (.ops [ oe 81 (.call 127 [(.t 3),(.v (.int .u8 34))])]) (.seq (.ops [ oq 82 (.mv (.t 6)),oq 83 (.bin .add (.t 82) (.v (.int .i64 3))),oq 5 (.mv (.t 83))]) (.exit 1))) .skip)) (.seq (.ops [ oq 84 (.mv (.t 6)),oq 85 (.bin .add (.t 84) (.v (.int .i64 2))),oq 5 (.mv (.t 85))]) (.seq (.ops [ oq 4 (.mv (.v (.bool false)))]) (.exit 0))))
def c156_50:ACode := .seq (.ops [ oe 22 (.nxt (.t 21)),oq 23 (.ext 0 (.t 22))]) (.seq (.cond (.t 23) .skip (.exit 0)) (.block 1 (.seq (.ops [ oq 24 (.ext 1 (.t 22)),oq 25 (.ext 2 (.t 22)),oq 6 (.mv (.t 24)),oq 7 (.mv (.t 25))]) (.seq (.seq (.ops [ oq 26 (.mv (.t 6)),oq 27 (.bin .add (.t 26) (.v (.int .i64 1))),oq 28 (.mv (.t 5)),oq 29 (.bin .lss (.t 27) (.t 28))]) (.cond (.t 29) (.exit 1) .skip)) (.seq (.ops [ oq 30 (.mv (.t 0)),oq 31 (.nc (.t 30)),oq 32 (.fa 1 (.t 31)),oq 33 (.ld none (.t 32)),oq 34 (.bin .add (.t 33) (.v (.int .i64 1))),oq 35 (.mv (.t 6)),oq 36 (.bin .add (.t 34) (.t 35)),oq 8 (.mv (.t 36))]) (.seq (.seq (.ops [ oq 37 (.mv (.t 7)),oq 38 (.bin .eql (.t 37) (.v (.int .i32 65533)))]) (.cond (.t 38) (.seq (.ops [ oq 40 (.mv (.t 0)),oq 41 (.nc (.t 40)),oq 42 (.fa 0 (.t 41)),oq 43 (.ld none (.t 42)),oq 44 (.mv (.t 8)),oq 45 (.slfrom (true,0) (.t 43) (.t 44)),oe 46 (.call 119 [(.t 45)]),oq 39 (.mv (.t 46)),oq 47 (.ext 0 (.t 39)),oq 48 (.ext 1 (.t 39)),oq 9 (.mv (.t 47)),oq 10 (.mv (.t 48))]) (.seq (.ops [ oq 49 (.mv (.t 10)),oq 50 (.bin .eql (.t 49) (.v (.int .i64 1)))]) (.cond (.t 50) (.seq (.ops [ oq 51 (.mv (.t 0)),oq 52 (.mv (.t 8)),oe 53 (.call 153 [(.t 51),(.t 52)])]) (.seq (.ops [ oq 2 (.mv (.v (.int .i64 10)))]) .ret)) .skip))) .skip)) c156_43))))))
def c156_63:ACode := .seq (.seq (.ops [ oq 86 (.mv (.t 4))]) (.cond (.t 86) (.seq (.ops [ oq 2 (.mv (.v (.int .i64 10)))]) .ret) .skip)) (.seq (.ops [ oq 87 (.mv (.t 0)),oe 88 (.call 76 [(.t 3)]),oq 89 (.mv (.t 5)),oe 90 (.call 108 [(.t 87),(.v (.int .i64 2)),(.t 88),(.t 89)])]) (.seq (.ops [ oq 2 (.mv (.v (.int .i64 0)))]) .ret))
def c156_68:ACode := .seq (.ops [ oq 2 (.mv (.v (.int .i64 0)))]) (.seq (.ops [ oe 3 (.allocT 149)]) (.seq (.ops [ oq 4 (.mv (.v (.bool true)))]) (.seq (.ops [ oq 5 (.mv (.v (.int .i64 1)))]) (.seq (.seq (.ops [ oq 11 (.mv (.t 0)),oq 12 (.nc (.t 11)),oq 13 (.fa 0 (.t 12)),oq 14 (.ld none (.t 13)),oq 15 (.mv (.t 0)),oq 16 (.nc (.t 15)),oq 17 (.fa 1 (.t 16)),oq 18 (.ld none (.t 17)),oq 19 (.bin .add (.t 18) (.v (.int .i64 1))),oq 20 (.slfrom (true,0) (.t 14) (.t 19)),oe 21 (.rng (.t 20))]) (.block 0 (.loop c156_50))) c156_63))))
@[go_sem] def c156_43_wp:=wp_of c156_43.eq_1
@[go_sem] def c156_50_wp:=wp_of c156_50.eq_1
@[go_sem] def c156_63_wp:=wp_of c156_63.eq_1
@[go_sem] def c156_68_wp:=wp_of c156_68.eq_1
def c156:AFn:=⟨91,[.t 2],c156_68⟩
theorem c156_ok:compF Tryz.prog Tryz.f156=some c156:=by kernel_rfl
theorem a156 {args:List AV} {σ:ASt} {R:AV->ASt->Prop} (hl:args.length<=91) (h:c156_68.wp Tryz.prog (RetQ [.t 2] R) (init args) σ):ACalls Tryz.prog 156 args σ R:=acalls_of Tryz.func156 c156_ok hl h
/-! 157: (*tabular/token.lexer).failure -/
def c157_19:ACode := .seq (.ops [ oq 9 (.bin .lss (.t 8) (.t 7))]) (.seq (.cond (.t 9) .skip (.exit 0)) (.seq (.block 1 (.seq (.ops [ oq 10 (.ia 1 (.t 6) (.t 8)),oq 11 (.ld none (.t 10)),oq 4 (.mv (.t 11))]) (.seq (.ops [ oq 12 (.mv (.t 4)),oq 13 (.lenS (.t 12)),oq 5 (.mv (.t 13))]) (.seq (.ops [ oq 14 (.mv (.t 0)),oq 15 (.nc (.t 14)),oq 16 (.fa 1 (.t 15)),oq 17 (.ld none (.t 16)),oq 18 (.mv (.t 5)),oq 19 (.bin .add (.t 17) (.t 18)),oq 20 (.mv (.t 0)),oq 21 (.nc (.t 20)),oq 22 (.fa 0 (.t 21)),oq 23 (.ld none (.t 22)),oq 24 (.lenS (.t 23)),oq 25 (.bin .leq (.t 19) (.t 24)),oq 26 (.mv (.t 25)),⟨some 27,some (26,true),.q (.mv (.t 0)),[]⟩,⟨some 28,some (26,true),.q (.nc (.t 27)),[]⟩,⟨some 29,some (26,true),.q (.fa 0 (.t 28)),[]⟩,⟨some 30,some (26,true),.q (.ld none (.t 29)),[]⟩,⟨some 31,some (26,true),.q (.mv (.t 0)),[]⟩,⟨some 32,some (26,true),.q (.nc (.t 31)),[]⟩,⟨some 33,some (26,true),.q (.fa 1 (.t 32)),[]⟩,⟨some 34,some (26,true),.q (.ld none (.t 33)),[]⟩,⟨some 35,some (26,true),.q (.mv (.t 0)),[]⟩,⟨some 36,some (26,true),.q (.nc (.t 35)),[]⟩,⟨some 37,some (26,true),.q (.fa 1 (.t 36)),[]⟩,⟨some 38,some (26,true),.q (.ld none (.t 37)),[]⟩,⟨some 39,some (26,true),.q (.mv (.t 5)),[]⟩,⟨some 40,some (26,true),.q (.bin .add (.t 38) (.t 39)),[]⟩,⟨some 41,some (26,true),.q (.sls (true,0) (.t 30) (.t 34) (.t 40)),[]⟩,⟨some 43,some (26,true),.q (.mv (.t 4)),[]⟩,⟨some 42,some (26,true),.e (.call 193 [(.t 41)]),[]⟩,⟨some 44,some (26,true),.q (.bin .eql (.t 42) (.t 43)),[]⟩,oq 45 (.pick (.t 26) (.t 44) (.v (.bool false)))]) (.cond (.t 45) (.seq (.ops [ oq 46 (.mv (.t 0)),oq 47 (.mv (.t 4)),oq 48 (.mv (.t 5)),oe 49 (.call 108 [(.t 46),(.v (.int .i64 5)),(.t 47),(.t 48)])]) (.seq (.ops [ oq 2 (.mv (.v (.int .i64 0)))]) .ret)) .skip))))) (.ops [ oq 50 (.bin .add (.t 8) (.v (.int .i64 1))),oq 8 (.mv (.t 50))])))
def c157_26:ACode := .seq (.ops [ oq 2 (.mv (.v (.int .i64 0)))]) (.seq (.seq (.ops [ oe 6 (.call 70 []),oq 7 (.len (.t 6)),oq 8 (.mv (.v (.int .i64 0)))]) (.block 0 (.loop c157_19))) (.seq (.ops [ oq 2 (.mv (.v (.int .i64 10)))]) .ret))
@[go_sem] def c157_19_wp:=wp_of c157_19.eq_1
@[go_sem] def c157_26_wp:=wp_of c157_26.eq_1
def c157:AFn:=⟨51,[.t 2],c157_26⟩
theorem c157_ok:compF Tryz.prog Tryz.f157=some c157:=by kernel_rfl
theorem a157 {args:List AV} {σ:ASt} {R:AV->ASt->Prop} (hl:args.length<=51) (h:c157_26.wp Tryz.prog (RetQ [.t 2] R) (init args) σ):ACalls Tryz.prog 157 args σ R:=acalls_of Tryz.func157 c157_ok hl h
/-! 158: (*tabular/token.lexer).op -/
def c158_26:ACode := .seq (.ops [ oq 21 (.bin .lss (.t 20) (.t 19))]) (.seq (.cond (.t 21) .skip (.exit 0)) (.seq (.block 1 (.seq (.ops [ oq 22 (.ia 1 (.t 18) (.t 20)),oq 23 (.ld none (.t 22)),oq 9 (.mv (.t 23))]) (.seq (.ops [ oq 24 (.mv (.t 0)),oq 25 (.nc (.t 24)),oq 26 (.fa 0 (.t 25)),oq 27 (.ld none (.t 26)),oq 28 (.mv (.t 0)),oq 29 (.nc (.t 28)),oq 30 (.fa 1 (.t 29)),oq 31 (.ld none (.t 30)),oq 32 (.slfrom (true,0) (.t 27) (.t 31)),oq 33 (.mv (.t 9)),oe 34 (.call 198 [(.t 32),(.t 33)])]) (.cond (.t 34) (.seq (.ops [ oq 35 (.mv (.t 0)),oq 36 (.mv (.t 9)),oe 37 (.call 108 [(.t 35),(.v (.int .i64 6)),(.t 36),(.v (.int .i64 2))])]) (.seq (.ops [ oq 6 (.mv (.v (.int .i64 0)))]) .ret)) .skip)))) (.ops [ oq 38 (.bin .add (.t 20) (.v (.int .i64 1))),oq 20 (.mv (.t 38))])))
def c158_39:ACode := .seq (.seq (.ops [ oq 39 (.mv (.t 0)),oq 40 (.nc (.t 39)),oq 41 (.fa 0 (.t 40)),oq 42 (.ld none (.t 41)),oq 43 (.mv (.t 0)),oq 44 (.nc (.t 43)),oq 45 (.fa 1 (.t 44)),oq 46 (.ld none (.t 45)),oq 47 (.idx (.t 42) (.t 46)),oq 48 (.bsl 1 [(.t 47)]),oq 49 (.b2s (.t 48)),oe 50 (.call 199 [(.v (.str [43,45,42,47,94,38,61,60,62,37,40,41,58,44])),(.t 49)]),oq 51 (.un .not (.t 50))]) (.cond (.t 51) (.seq (.ops [ oq 6 (.mv (.v (.int .i64 10)))]) .ret) .skip)) (.seq (.ops [ oq 52 (.mv (.t 0)),oq 53 (.mv (.t 0)),oq 54 (.nc (.t 53)),oq 55 (.fa 0 (.t 54)),oq 56 (.ld none (.t 55)),oq 57 (.mv (.t 0)),oq 58 (.nc (.t 57)),oq 59 (.fa 1 (.t 58)),oq 60 (.ld none (.t 59)),oq 61 (.mv (.t 0)),oq 62 (.nc (.t 61)),oq 63 (.fa 1 (.t 62)),oq 64 (.ld none (.t 63)),oq 65 (.bin .add (.t 64) (.v (.int .i64 1))),oq 66 (.sls (true,0) (.t 56) (.t 60) (.t 65)),oe 67 (.call 108 [(.t 52),(.v (.int .i64 6)),(.t 66),(.v (.int .i64 1))])]) (.seq (.ops [ oq 6 (.mv (.v (.int .i64 0)))]) .ret))
def c158_42:ACode := .seq (.ops [ oq 6 (.mv (.v (.int .i64 0)))]) (.seq (.seq (.ops [ oq 10 (.mv (.t 1)),oe 11 (.call 197 [(.t 10)]),oq 7 (.mv (.t 11))]) (.seq (.ops [ oq 12 (.mv (.t 7)),oq 13 (.bin .neq (.t 12) (.v (.str [])))]) (.cond (.t 13) (.seq (.ops [ oq 14 (.mv (.t 0)),oq 15 (.mv (.t 7)),oq 16 (.mv (.t 2)),oe 17 (.call 108 [(.t 14),(.v (.int .i64 6)),(.t 15),(.t 16)])]) (.seq (.ops [ oq 6 (.mv (.v (.int .i64 0)))]) .ret)) .skip))) (.seq (.seq (.ops [ oq 18 (.bsl 1 [(.v (.str [60,61])),(.v (.str [62,61])),(.v (.str [60,62]))]),oq 19 (.len (.t 18)),oq 20 (.mv (.v (.int .i64 0)))]) (.block 0 (.loop c158_26))) c158_39))
@[go_sem] def c158_26_wp:=wp_of c158_26.eq_1
@[go_sem] def c158_39_wp:=wp_of c158_39.eq_1
@[go_sem] def c158_42_wp:=wp_of c158_42.eq_1
def c158:AFn:=⟨68,[.t 6],c158_42⟩
theorem c158_ok:compF Tryz.prog Tryz.f158=some c158:=by kernel_rfl
theorem a158 {args:List AV} {σ:ASt} {R:AV->ASt->Prop} (hl:args.length<=68) (h:c158_42.wp Tryz.prog (RetQ [.t 6] R) (init args) σ):ACalls Tryz.prog 158 args σ R:=acalls_of Tryz.func158 c158_ok hl h
end Go.A
namespace Go.A
open Go.Proofs Go.Lib
def lexCells (s:List UInt8) (p c:Nat) (ts:List Tok) (k:SK):List AV := [.str s,.int .i64 p,.int .i64 c,.sl k (ts.map tokAV)]
def LX (σ0:ASt) (b:Nat) (s:List UInt8) (p c:Nat) (ts:List Tok) (σ:ASt):Prop:=GO σ0 b (lexCells s p c ts) (ts.map tokAV).length 4 σ
theorem LX.cell {σ0 σ:ASt} {b:Nat} {s:List UInt8} {p c:Nat} {ts:List Tok} (h:LX σ0 b s p c ts σ):∃ k,Grown (σ0.set b (some (.obj [.str s,.int .i64 p,.int .i64 c,.sl k (ts.map tokAV)]))) σ k (ts.map tokAV).length 4/\σ b=some (.obj [.str s,.int .i64 p,.int .i64 c,.sl k (ts.map tokAV)]):=by
 obtain ⟨k,hg⟩:=h
 exact ⟨k,hg,GO.cell (cs:=lexCells s p c ts) hg⟩
structure Bnd (s:List UInt8) (p c:Nat) (ts:List Tok):Prop where
 hs:s.length<=100000
 hp:p<=s.length
 hc:c<=p
 ht:ts.length<=200000
theorem take_len {s:List UInt8} {p n:Nat} (h:p+n<=s.length):((s.drop p).take n).length=n:=by simp;omega
theorem cut_eq {s:List UInt8} {p n:Nat}:(s.take (p+n)).drop p=(s.drop p).take n:=by rw [List.drop_take];congr 1;omega
set_option maxHeartbeats 1000000 in
theorem put_ok {σ0 σ:ASt} {b:Nat} {s:List UInt8} {p c:Nat} {ts:List Tok} (h:LX σ0 b s p c ts σ) (hB:Bnd s p c ts) (kind:Int) (text:List UInt8) (n:Nat) (hn:p+n<=s.length) :
  ACalls Tryz.prog 108 [.ptr b 0,.int .i64 kind,.str text,.int .i64 n] σ fun v σ'=>v = .tuple []/\LX σ0 b s (p+n) (c+signsN ((s.drop p).take n)) (ts ++ [Tok.mk kind text p c]) σ':=by
 obtain ⟨k,hg,hb⟩:=h.cell
 obtain ⟨hs,hp,hc,ht⟩:=hB
 have hm:ts.map tokAV ++ [tokAV (Tok.mk kind text p c)]=(ts ++ [Tok.mk kind text p c]).map tokAV:=by simp
 have hlen:(ts.map tokAV).length=ts.length:=by simp
 have e1:((p:Int)+n).toNat=p+n:=by omega
 have e2:=cut_eq (s:=s) (p:=p) (n:=n)
 have hsl:=signsN_le ((s.drop p).take n)
 rw [take_len hn] at hsl
 refine a108 (by simp) ?_
 simp (disch:=first|assumption|omega) only [go_sem,reduceCtorEq,Nat.reduceEqDiff,Nat.reduceAdd,Nat.reduceLeDiff,↓reduceIte,Bool.true_and,hb]
 refine appC_by (ys := [tokAV (Tok.mk kind text p c)]) hg rfl rfl (by simp only [hlen,List.length_cons,List.length_nil];omega) (by simp only [hlen,List.length_cons,List.length_nil];omega) fun k' σ' hg'=>?_
 rw [hm] at hg' ⊢
 have hb':=hg'.at (ASt.set_same _ _ _)
 have hg2:=hg'.obj (r' := .obj [.str s,.int .i64 p,.int .i64 c,.sl k' ((ts ++ [Tok.mk kind text p c]).map tokAV)])
 simp (disch:=first|assumption|omega) only [go_sem,reduceCtorEq,Nat.reduceEqDiff,Nat.reduceAdd,Nat.reduceLeDiff,↓reduceIte,Bool.true_and,hb',e1,e2]
 refine (count_ok _ (by rw [take_len hn];omega)).use ?_
 simp (disch:=first|assumption|omega) only [go_sem,reduceCtorEq,Nat.reduceEqDiff,Nat.reduceAdd,Nat.reduceLeDiff,↓reduceIte,Bool.true_and,ASt.set_set]
 refine retC_by (Drop.refl _) (.refl _) ⟨rfl,k',?_⟩
 exact hg'.obj (r' := .obj [.str s,.int .i64 (p+n:Nat),.int .i64 (c+signsN ((s.drop p).take n):Nat),.sl k' ((ts ++ [Tok.mk kind text p c]).map tokAV)])
theorem pass_ok {σ0 σ:ASt} {b:Nat} {s:List UInt8} {p c:Nat} {ts:List Tok} (h:LX σ0 b s p c ts σ) (hB:Bnd s p c ts) (n:Nat) (hn:p+n<=s.length) :
  ACalls Tryz.prog 153 [.ptr b 0,.int .i64 (p+n:Nat)] σ fun v σ'=>v = .tuple []/\LX σ0 b s (p+n) (c+signsN ((s.drop p).take n)) ts σ':=by
 obtain ⟨k,hg,hb⟩:=h.cell
 obtain ⟨hs,hp,hc,ht⟩:=hB
 have e1:(((p+n:Nat):Int)).toNat=p+n:=by omega
 have e2:=cut_eq (s:=s) (p:=p) (n:=n)
 have hsl:=signsN_le ((s.drop p).take n)
 rw [take_len hn] at hsl
 have e3:((p+n:Nat):Int)<=s.length:=by omega
 have e4:(p:Int)<=((p+n:Nat):Int):=by omega
 obtain ⟨q,hq⟩:∃ q,p+n=q:=⟨_,rfl⟩
 rw [hq] at e1 e2 e3 e4 ⊢
 refine a153 (by simp) ?_
 simp (disch:=first|assumption|omega) only [go_sem,reduceCtorEq,Nat.reduceEqDiff,↓reduceIte,hb,e1,e2]
 refine (count_ok _ (by rw [take_len hn];omega)).use ?_
 simp (disch:=first|assumption|omega) only [go_sem,reduceCtorEq,Nat.reduceEqDiff,Nat.reduceAdd,Nat.reduceLeDiff,↓reduceIte,Bool.true_and,hb,ASt.set_set]
 refine retC_by (Drop.refl _) (.refl _) ⟨rfl,k,?_⟩
 exact hg.obj (r' := .obj [.str s,.int .i64 q,.int .i64 (c+signsN ((s.drop p).take n):Nat),.sl k (ts.map tokAV)])
theorem dec_bd (l:List UInt8):(decodeL l).1<=1114111/\1<=(decodeL l).2:=⟨decodeL_rune l,decodeL_width l⟩
theorem sign_ok {σ0 σ:ASt} (hU:U8 σ) {b:Nat} {s:List UInt8} {p c:Nat} {ts:List Tok} (h:LX σ0 b s p c ts σ) (hB:Bnd s p c ts) (hp:p<s.length) :
  ACalls Tryz.prog 152 [.ptr b 0] σ fun v σ'=>v = .tuple [.int .i32 (if decodeL (s.drop p)=(65533,1) then 0 else (decodeL (s.drop p)).1),.int .i64 (if decodeL (s.drop p)=(65533,1) then -1 else (decodeL (s.drop p)).2)]/\σ'=σ:=by
 obtain ⟨k,hg,hb⟩:=h.cell
 obtain ⟨hs,_,hc,ht⟩:=hB
 have hne:s.drop p ≠ []:=by
  intro h
  have:=congrArg List.length h
  simp at this
  omega
 have hd:=dec_ok hU hne
 obtain ⟨⟨r,w⟩,hD⟩:∃ D,decodeL (s.drop p)=D:=⟨_,rfl⟩
 rw [hD] at hd ⊢
 dsimp only at hd ⊢
 have e1:¬ (s.length:Int)<=p:=by omega
 refine a152 (by simp) ?_
 simp (disch:=first|assumption|omega) only [go_sem,reduceCtorEq,Nat.reduceEqDiff,↓reduceIte,Int.reduceNeg,hb,e1,List.take_length]
 refine hd.mono ?_
 rintro v σ' ⟨rfl,rfl⟩
 by_cases h1:(r:Int)=65533
 ·by_cases h2:(w:Int)=1
  ·have e:(r,w)=(65533,1):=by rw [Prod.mk.injEq];omega
   rw [if_pos e,if_pos e]
   simp (disch:=first|assumption|omega) only [go_sem,Nat.reduceEqDiff,↓reduceIte,Int.reduceNeg,h1,h2]
   exact retC_by (Drop.refl _) (.refl _) ⟨rfl,rfl⟩
  ·have e:¬ (r,w)=(65533,1):=by rw [Prod.mk.injEq];omega
   rw [if_neg e,if_neg e]
   simp (disch:=first|assumption|omega) only [go_sem,Nat.reduceEqDiff,↓reduceIte,h1,h2]
   exact retC_by (Drop.refl _) (.refl _) ⟨rfl,rfl⟩
 ·have e:¬ (r,w)=(65533,1):=by rw [Prod.mk.injEq];omega
  rw [if_neg e,if_neg e]
  simp (disch:=first|assumption|omega) only [go_sem,Nat.reduceEqDiff,↓reduceIte,h1]
  exact retC_by (Drop.refl _) (.refl _) ⟨rfl,rfl⟩
def After (σ0:ASt) (b:Nat) (s:List UInt8) (p c:Nat) (ts:List Tok):Step->AV->ASt->Prop
 | .bad k,v,σ'=>v = .int .i64 10/\∃ c',LX σ0 b s (p+k) c' ts σ'
 | .blank,v,σ'=>v = .int .i64 0/\LX σ0 b s (p+1) (c+1) ts σ'
 | .tok kind t n,v,σ'=>v = .int .i64 0/\LX σ0 b s (p+n) (c+signsN ((s.drop p).take n)) (ts ++ [⟨kind,t,p,c⟩]) σ'
set_option maxHeartbeats 1000000 in
theorem words_ok {σ0 σ:ASt} {b:Nat} {s:List UInt8} {p c:Nat} {ts:List Tok} (h:LX σ0 b s p c ts σ) (hB:Bnd s p c ts) :
  ACalls Tryz.prog 155 [.ptr b 0] σ fun v σ'=>After σ0 b s p c ts (wordsS (s.drop p)) v σ':=by
 obtain ⟨k,hg,hb⟩:=h.cell
 have hB':=hB
 obtain ⟨hs,hp,hc,ht⟩:=hB
 have hrl:=runL_le wordB (s.drop p)
 obtain ⟨st,hst⟩:∃ st,wordsS (s.drop p)=st:=⟨_,rfl⟩
 rw [hst]
 unfold wordsS at hst
 dsimp only at hst
 obtain ⟨n,hn⟩:∃ n,runL wordB (s.drop p)=n:=⟨_,rfl⟩
 rw [hn] at hst hrl
 rw [List.length_drop] at hrl
 have hwl:((s.drop p).take n).length=n:=take_len (by omega)
 obtain ⟨w,hw⟩:∃ w,(s.drop p).take n=w:=⟨_,rfl⟩
 rw [hw] at hst hwl
 have i1:=isNum_ok w (by omega)
 have i2:=isRef_ok w (by omega)
 have i3:=isName_ok w (by omega)
 have i4:=tgreat_ok w (by omega)
 have P1:=fun kind text=>put_ok h hB' kind text n (by omega)
 refine a155 (by simp) ?_
 obtain ⟨F,hF⟩:∃ F,F=ACode.wp Tryz.prog c155_29:=⟨_,rfl⟩
 simp (disch:=first|assumption|omega) only [go_sem,←hF]
 refine wp_loop_on (fun (i:Nat) a σ'=>i<=n/\i+runL wordB (s.drop (p+i))=n/\(a 0 = .ptr b 0/\a 3 = .int .i64 i)/\σ'=σ) (fun i=>n-i) 0 ⟨Nat.zero_le _,by rw [Nat.add_zero,Nat.zero_add];exact hn,?_,rfl⟩ ?_
 ·simp (disch:=first|assumption|omega) only [go_sem,reduceCtorEq,↓reduceIte]
 rintro i a σ1 ⟨hi,hrun,hf,rfl⟩
 have fin:i=n->∀ a:AFr,(a 0 = .ptr b 0/\a 3 = .int .i64 i)->F (RetQ [.t 2] fun v σ'=>After σ0 b s p c ts st v σ') a σ1:=by
  rintro rfl a hf
  have e1:((p:Int)+i).toNat=p+i:=by omega
  have e2:(s.take (p+i)).drop p=w:=by rw [cut_eq,hw]
  rw [hF]
  simp (disch:=first|assumption|omega) only [go_sem,reduceCtorEq,Nat.reduceEqDiff,↓reduceIte,hf,hb,e1,e2]
  refine i1.use ?_
  cases hnum:numB w with
  | true=>
    rw [hnum,if_pos rfl] at hst
    subst hst
    simp (disch:=first|assumption|omega) only [go_sem,reduceCtorEq,Nat.reduceEqDiff,↓reduceIte,hf]
    refine (P1 1 w).mono ?_
    rintro v σ' ⟨rfl,hL⟩
    simp (disch:=first|assumption|omega) only [go_sem,↓reduceIte]
    exact retC_by (Drop.refl _) (.refl _) ⟨rfl,hL⟩
  | false=>
  rw [hnum,if_neg (by simp)] at hst
  simp (disch:=first|assumption|omega) only [go_sem,Nat.reduceEqDiff,↓reduceIte]
  refine i2.use ?_
  cases href:refB w with
  | true=>
    rw [href,if_pos rfl] at hst
    subst hst
    simp (disch:=first|assumption|omega) only [go_sem,reduceCtorEq,Nat.reduceEqDiff,↓reduceIte,hf]
    refine i4.use ?_
    simp (disch:=first|assumption|omega) only [go_sem,Nat.reduceEqDiff,↓reduceIte,hf]
    refine (P1 4 (greatP w)).mono ?_
    rintro v σ' ⟨rfl,hL⟩
    simp (disch:=first|assumption|omega) only [go_sem,↓reduceIte]
    exact retC_by (Drop.refl _) (.refl _) ⟨rfl,hL⟩
  | false=>
  rw [href,if_neg (by simp)] at hst
  simp (disch:=first|assumption|omega) only [go_sem,Nat.reduceEqDiff,↓reduceIte]
  refine i3.use ?_
  cases hnam:nameB w with
  | true=>
    rw [hnam,if_pos rfl] at hst
    subst hst
    simp (disch:=first|assumption|omega) only [go_sem,reduceCtorEq,Nat.reduceEqDiff,↓reduceIte,hf]
    refine i4.use ?_
    simp (disch:=first|assumption|omega) only [go_sem,Nat.reduceEqDiff,↓reduceIte,hf]
    refine (P1 3 (greatP w)).mono ?_
    rintro v σ' ⟨rfl,hL⟩
    simp (disch:=first|assumption|omega) only [go_sem,↓reduceIte]
    exact retC_by (Drop.refl _) (.refl _) ⟨rfl,hL⟩
  | false=>
    rw [hnam,if_neg (by simp)] at hst
    subst hst
    simp (disch:=first|assumption|omega) only [go_sem,↓reduceIte]
    exact retC_by (Drop.refl _) (.refl _) ⟨rfl,c,h⟩
 by_cases hlt:p+i<s.length
 ·have hidx : s[p + i]? = some (s[p + i]'hlt) := List.getElem?_eq_getElem hlt
  obtain ⟨d, hd⟩ : ∃ d, s[p + i]'hlt = d := ⟨_, rfl⟩
  rw [hd] at hidx
  have e3:((p:Int)+i)<s.length:=by omega
  have e4:((p:Int)+i).toNat=p+i:=by omega
  rw [List.drop_eq_getElem_cons hlt,hd,runL] at hrun
  simp (disch:=first|assumption|omega) only [go_sem,reduceCtorEq,Nat.reduceEqDiff,↓reduceIte,hf,hb,e3,e4,hidx]
  refine (word_ok d).use ?_
  cases hwd:wordB d with
  | true=>
    rw [hwd,if_pos rfl] at hrun
    simp (disch:=first|assumption|omega) only [go_sem,reduceCtorEq,Nat.reduceEqDiff,↓reduceIte,hf]
    exact ⟨i+1,by omega,by omega,by rw [<-Nat.add_assoc];omega,rfl⟩
  | false=>
    rw [hwd,if_neg (by simp)] at hrun
    simp (disch:=first|assumption|omega) only [go_sem,Nat.reduceEqDiff,↓reduceIte]
    refine fin (by omega) _ ?_
    simp (disch:=first|assumption|omega) only [go_sem,reduceCtorEq,Nat.reduceEqDiff,↓reduceIte,hf]
 ·have e:s.drop (p+i) = []:=List.drop_eq_nil_of_le (by omega)
  rw [e,runL] at hrun
  have e3:¬ ((p:Int)+i)<s.length:=by omega
  simp (disch:=first|assumption|omega) only [go_sem,reduceCtorEq,Nat.reduceEqDiff,↓reduceIte,hf,hb,e3]
  refine fin (by omega) _ ?_
  simp (disch:=first|assumption|omega) only [go_sem,reduceCtorEq,Nat.reduceEqDiff,↓reduceIte,hf]
end Go.A
namespace Go.A
open Go.Proofs Go.Lib
theorem errTexts_len:∀ e∈errTexts,1<=e.length/\e.length<=7:=by decide
set_option maxHeartbeats 1000000 in
theorem lfail_ok {σ0 σ:ASt} {b:Nat} {s:List UInt8} {p c:Nat} {ts:List Tok} (h:LX σ0 b s p c ts σ) (hB:Bnd s p c ts) :
  ACalls Tryz.prog 157 [.ptr b 0] σ fun v σ'=>After σ0 b s p c ts (failS (s.drop p) errTexts) v σ':=by
 obtain ⟨k,hg,hb⟩:=h.cell
 have hB':=hB
 obtain ⟨hs,hp,hc,ht⟩:=hB
 obtain ⟨st,hst⟩:∃ st,failS (s.drop p) errTexts=st:=⟨_,rfl⟩
 rw [hst]
 have hE:=errTexts_len
 have herr:=errs_ok
 obtain ⟨E,hE2⟩:∃ E,errTexts=E:=⟨_,rfl⟩
 have hEl:E.length=7:=by rw [<-hE2];rfl
 rw [hE2] at hst hE herr
 clear hE2
 refine a157 (by simp) ?_
 simp (disch:=first|assumption|omega) only [go_sem]
 refine herr.use ?_
 simp (disch:=first|assumption|omega) only [go_sem,↓reduceIte,hEl]
 refine wp_loop_on (fun (i:Nat) a σ'=>i<=7/\failS (s.drop p) (E.drop i)=st/\(a 0 = .ptr b 0/\a 6 = .sl .full (E.map AV.str)/\a 7 = .int .i64 7/\a 8 = .int .i64 i)/\σ'=σ) (fun i=>7-i) 0 ⟨Nat.zero_le _,hst,?_,rfl⟩ ?_
 ·simp (disch:=first|assumption|omega) only [go_sem,reduceCtorEq,Nat.reduceEqDiff,↓reduceIte]
 rintro i a σ1 ⟨hi,hst,hf,rfl⟩
 by_cases hlt:i<7
 ·have hlt':(i:Int)<7:=by omega
  have hidx0 : E[i]? = some (E[i]'(by omega)) := List.getElem?_eq_getElem (by omega)
  obtain ⟨h1,h2⟩:=hE _ (List.getElem_mem (by omega:i<E.length))
  rw [List.drop_eq_getElem_cons (by omega:i<E.length),failS] at hst
  obtain ⟨e, he⟩ : ∃ e, E[i]'(by omega) = e := ⟨_, rfl⟩
  rw [he] at hidx0 hst h1 h2
  have hidx:(E.map AV.str)[i]? = some (.str e):=by rw [List.getElem?_map,hidx0];rfl
  rw [List.length_drop] at hst
  by_cases hfit:p+e.length<=s.length
  ·have e1:(p:Int)+e.length<=s.length:=by omega
   have e2:((p:Int)+e.length).toNat=p+e.length:=by omega
   have e3:=cut_eq (s:=s) (p:=p) (n:=e.length)
   have hgr:=tgreat_ok ((s.drop p).take e.length) (by rw [take_len hfit];omega)
   simp (disch:=first|assumption|omega) only [go_sem,reduceCtorEq,Nat.reduceEqDiff,↓reduceIte,hf,hb,hlt',hidx,e1,e2,e3]
   refine hgr.use ?_
   by_cases heq:greatP ((s.drop p).take e.length)=e
   ·rw [if_pos ⟨by omega,heq⟩] at hst
    subst hst
    simp (disch:=first|assumption|omega) only [go_sem,reduceCtorEq,Nat.reduceEqDiff,↓reduceIte,hf,heq]
    refine (put_ok h hB' 5 e e.length hfit).mono ?_
    rintro v σ' ⟨rfl,hL⟩
    simp (disch:=first|assumption|omega) only [go_sem,↓reduceIte]
    exact retC_by (Drop.refl _) (.refl _) ⟨rfl,hL⟩
   ·rw [if_neg (by rintro ⟨_,h⟩;exact heq h)] at hst
    simp (disch:=first|assumption|omega) only [go_sem,reduceCtorEq,Nat.reduceEqDiff,↓reduceIte,hf,heq]
    refine ⟨i+1,by omega,by omega,hst,rfl⟩
  ·have e1:¬ (p:Int)+e.length<=s.length:=by omega
   rw [if_neg (by rintro ⟨h,_⟩;omega)] at hst
   simp (disch:=first|assumption|omega) only [go_sem,reduceCtorEq,Nat.reduceEqDiff,↓reduceIte,hf,hb,hlt',hidx,e1]
   refine ⟨i+1,by omega,by omega,hst,rfl⟩
 ·have hlt':¬ (i:Int)<7:=by omega
  rw [List.drop_eq_nil_of_le (show E.length<=i by omega),failS] at hst
  subst hst
  simp (disch:=first|assumption|omega) only [go_sem,↓reduceIte,hf,hlt']
  exact retC_by (Drop.refl _) (.refl _) ⟨rfl,c,h⟩
theorem mem_index (c:UInt8):∀ l:List UInt8,(-1<=indexByte l c)/\(0<=indexByte l c↔c∈l)
 | []=>by simp [indexByte]
 | x::l=>by
   obtain ⟨h1,h2⟩:=mem_index c l
   unfold indexByte
   by_cases hx:x=c
   ·subst hx;simp
   ·have hx':¬ (x==c)=true:=by simpa using hx
    rw [if_neg hx']
    by_cases hm:indexByte l c = -1
    ·rw [if_pos (by simpa using hm)]
     refine ⟨by omega,?_⟩
     simp only [List.mem_cons,← h2,hm]
     constructor
     ·intro h;omega
     ·rintro (h|h)
      ·exact absurd h.symm hx
      ·omega
    ·rw [if_neg (by simpa using hm)]
     refine ⟨by omega,?_⟩
     simp only [List.mem_cons,← h2]
     constructor
     ·intro h;right;omega
     ·rintro (h|h)
      ·exact absurd h.symm hx
      ·omega
theorem twos_len:∀ e∈twos,e.length=2:=by decide
set_option maxHeartbeats 1000000 in
theorem op_ok {σ0 σ:ASt} {b:Nat} {s:List UInt8} {p c:Nat} {ts:List Tok} (h:LX σ0 b s p c ts σ) (hB:Bnd s p c ts) (hp1:p<s.length) (r:Int) (n:Nat) (hn:p+n<=s.length) :
  ACalls Tryz.prog 158 [.ptr b 0,.int .i32 r,.int .i64 n] σ fun v σ'=>After σ0 b s p c ts (opS r n (s.drop p)) v σ':=by
 obtain ⟨k,hg,hb⟩:=h.cell
 have hB':=hB
 obtain ⟨hs,hp,hc,ht⟩:=hB
 obtain ⟨st,hst⟩:∃ st,opS r n (s.drop p)=st:=⟨_,rfl⟩
 rw [hst]
 unfold opS at hst
 have hal:=alike_ok r
 obtain ⟨A,hA⟩:∃ A,alikeP r=A:=⟨_,rfl⟩
 rw [hA] at hst hal
 obtain ⟨F,hF⟩:∃ F,F=ACode.wp Tryz.prog c158_39:=⟨_,rfl⟩
 refine a158 (by simp) ?_
 simp (disch:=first|assumption|omega) only [go_sem,Nat.reduceEqDiff,↓reduceIte]
 refine hal.use ?_
 by_cases hA0:A = []
 ·subst hA0
  rw [if_neg (by simp)] at hst
  have hE:=twos_len
  obtain ⟨E,hE2⟩:∃ E,twos=E:=⟨_,rfl⟩
  have hEl:E.length=3:=by rw [<-hE2];rfl
  have hEm:E.map AV.str = [AV.str [60,61],AV.str [62,61],AV.str [60,62]]:=by rw [<-hE2];rfl
  rw [hE2] at hst hE
  simp (disch:=first|assumption|omega) only [go_sem,Nat.reduceAdd,↓reduceIte,Bool.true_and,←hF]
  refine wp_loop_on (fun (i:Nat) a σ'=>i<=3/\(match twoS (s.drop p) (E.drop i) with|some e=>Step.tok 6 e 2|none=>if ((s.drop p).headD 0)∈opChars then .tok 6 ((s.drop p).take 1) 1 else .bad 0)=st/\(a 0 = .ptr b 0/\a 18 = .sl .full (E.map AV.str)/\a 19 = .int .i64 3/\a 20 = .int .i64 i)/\σ'=σ) (fun i=>3-i) 0 ⟨Nat.zero_le _,hst,?_,rfl⟩ ?_
  ·simp (disch:=first|assumption|omega) only [go_sem,reduceCtorEq,Nat.reduceEqDiff,↓reduceIte,hEm]
  rintro i a σ1 ⟨hi,hst,hf,rfl⟩
  by_cases hlt:i<3
  ·have hlt':(i:Int)<3:=by omega
   have hidx0 : E[i]? = some (E[i]'(by omega)) := List.getElem?_eq_getElem (by omega)
   have h2:=hE _ (List.getElem_mem (by omega:i<E.length))
   rw [List.drop_eq_getElem_cons (by omega:i<E.length),twoS] at hst
   obtain ⟨e, he⟩ : ∃ e, E[i]'(by omega) = e := ⟨_, rfl⟩
   rw [he] at hidx0 hst h2
   have hidx:(E.map AV.str)[i]? = some (.str e):=by rw [List.getElem?_map,hidx0];rfl
   have hpr:=prefix_ok (s.drop p) e (by simp;omega) (by omega)
   simp (disch:=first|assumption|omega) only [go_sem,reduceCtorEq,Nat.reduceEqDiff,↓reduceIte,hf,hb,hlt',hidx,List.take_length]
   refine hpr.use ?_
   cases hpe:e.isPrefixOf (s.drop p) with
   | true=>
     rw [hpe,if_pos rfl] at hst
     dsimp only at hst
     subst hst
     have hle:2<=(s.drop p).length:=by
      have:=(List.isPrefixOf_iff_prefix.1 hpe).length_le
      omega
     rw [List.length_drop] at hle
     simp (disch:=first|assumption|omega) only [go_sem,reduceCtorEq,Nat.reduceEqDiff,↓reduceIte,hf]
     refine (put_ok h hB' 6 e 2 (by omega)).mono ?_
     rintro v σ' ⟨rfl,hL⟩
     simp (disch:=first|assumption|omega) only [go_sem,↓reduceIte]
     exact retC_by (Drop.refl _) (.refl _) ⟨rfl,hL⟩
   | false=>
     rw [hpe,if_neg (by simp)] at hst
     simp (disch:=first|assumption|omega) only [go_sem,reduceCtorEq,Nat.reduceEqDiff,↓reduceIte,hf]
     exact ⟨i+1,by omega,by omega,hst,rfl⟩
  ·have hlt':¬ (i:Int)<3:=by omega
   rw [List.drop_eq_nil_of_le (show E.length<=i by omega),twoS] at hst
   dsimp only at hst
   have hidx : s[p]? = some (s[p]'hp1) := List.getElem?_eq_getElem hp1
   obtain ⟨d, hd⟩ : ∃ d, s[p]'hp1 = d := ⟨_, rfl⟩
   rw [hd] at hidx
   have hdr:s.drop p=d::s.drop (p+1):=by rw [List.drop_eq_getElem_cons hp1,hd]
   rw [hdr] at hst
   have hst:(if d∈opChars then Step.tok 6 [d] 1 else Step.bad 0)=st:=hst
   have hcon:=contains_ok opChars d
   obtain ⟨_,hmi⟩:=mem_index d opChars
   have hbb:UInt8.ofNat d.toNat=d:=by simp
   simp (disch:=first|assumption|omega) only [go_sem,↓reduceIte,hf,hlt']
   rw [hF]
   simp (disch:=first|assumption|omega) only [go_sem,reduceCtorEq,Nat.reduceEqDiff,↓reduceIte,Bool.true_and,hf,hb,hidx,hbb]
   refine hcon.use ?_
   by_cases hm:d∈opChars
   ·rw [if_pos hm] at hst
    subst hst
    have e0:=hmi.2 hm
    have e1:((p:Int)+1).toNat=p+1:=by omega
    have e2:(s.take (p+1)).drop p = [d]:=by rw [cut_eq (n:=1),hdr];rfl
    simp (disch:=first|assumption|omega) only [go_sem,reduceCtorEq,Nat.reduceEqDiff,↓reduceIte,hf,hb,e0,e1,e2]
    refine (put_ok h hB' 6 [d] 1 (by omega)).mono ?_
    rintro v σ' ⟨rfl,hL⟩
    simp (disch:=first|assumption|omega) only [go_sem,↓reduceIte]
    exact retC_by (Drop.refl _) (.refl _) ⟨rfl,hL⟩
   ·rw [if_neg hm] at hst
    subst hst
    have e0:¬ 0<=indexByte opChars d:=fun h=>hm (hmi.1 h)
    simp (disch:=first|assumption|omega) only [go_sem,↓reduceIte,e0]
    exact retC_by (Drop.refl _) (.refl _) ⟨rfl,c,h⟩
 ·rw [if_pos hA0] at hst
  subst hst
  simp (disch:=first|assumption|omega) only [go_sem,reduceCtorEq,Nat.reduceEqDiff,↓reduceIte,hA0]
  refine (put_ok h hB' 6 A n hn).mono ?_
  rintro v σ' ⟨rfl,hL⟩
  simp (disch:=first|assumption|omega) only [go_sem,↓reduceIte]
  exact retC_by (Drop.refl _) (.refl _) ⟨rfl,hL⟩
end Go.A
namespace Go.A
open Go.Proofs Go.Lib
theorem dec_len (l:List UInt8) (hv:decodeL l≠(65533,1)):runeLen ((decodeL l).1:Int)=((decodeL l).2:Int):=by
 rw [decodeL_N] at hv ⊢
 have k0:=(l.getD 0 0).toNat_lt
 have k1:=(l.getD 1 0).toNat_lt
 have k2:=(l.getD 2 0).toNat_lt
 have k3:=(l.getD 3 0).toNat_lt
 unfold runeLen
 rcases decodeN_shape l.length (l.getD 0 0).toNat (l.getD 1 0).toNat (l.getD 2 0).toNat (l.getD 3 0).toNat with ⟨c,e⟩|⟨c1,c2,c3,cv,e⟩|⟨c1,c2,c3,c4,cv,cs,e⟩|⟨c1,c2,c3,c4,c5,cv,cw,e⟩|e
 all_goals (rw [e] at hv ⊢;dsimp only at hv ⊢)
 all_goals (try (exact absurd rfl hv))
 all_goals (repeat' split)
 all_goals omega
theorem dec_rune (l:List UInt8):RuneOk ((decodeL l).1:Int):=by
 rw [decodeL_N]
 have k0:=(l.getD 0 0).toNat_lt
 have k1:=(l.getD 1 0).toNat_lt
 have k2:=(l.getD 2 0).toNat_lt
 have k3:=(l.getD 3 0).toNat_lt
 unfold RuneOk
 rcases decodeN_shape l.length (l.getD 0 0).toNat (l.getD 1 0).toNat (l.getD 2 0).toNat (l.getD 3 0).toNat with ⟨c,e⟩|⟨c1,c2,c3,cv,e⟩|⟨c1,c2,c3,c4,cv,cs,e⟩|⟨c1,c2,c3,c4,c5,cv,cw,e⟩|e
 all_goals (rw [e];dsimp only;omega)
theorem dec_ascii {l:List UInt8} (h0:l ≠ []) (h:(decodeL l).1<128):∃ c t,l=c::t/\c.toNat=(decodeL l).1/\(decodeL l).2=1:=by
 cases l with
 | nil=>exact absurd rfl h0
 | cons c t=>
   refine ⟨c,t,rfl,?_⟩
   rw [decodeL_N] at h ⊢
   have k0:=((c::t).getD 0 0).toNat_lt
   have hc:((c::t).getD 0 0)=c:=rfl
   rcases decodeN_shape (c::t).length ((c::t).getD 0 0).toNat ((c::t).getD 1 0).toNat ((c::t).getD 2 0).toNat ((c::t).getD 3 0).toNat with ⟨c,e⟩|⟨c1,c2,c3,cv,e⟩|⟨c1,c2,c3,c4,cv,cs,e⟩|⟨c1,c2,c3,c4,c5,cv,cw,e⟩|e
   ·rw [e];exact ⟨rfl,rfl⟩
   all_goals (rw [e] at h;dsimp only at h;omega)
theorem dec_one (c:UInt8) (t:List UInt8) (h:c.toNat<128):decodeL (c::t)=(c.toNat,1):=by
 rw [decodeL_N]
 unfold decodeN
 rw [if_pos (show ((c::t).getD 0 0).toNat<128 from h)]
 rfl
theorem U8.over {τ σ:ASt} (h:U8 τ) (ho:Over τ σ):U8 σ:=⟨ho.at h.1,ho.at h.2⟩
theorem quotedF_nil:∀ k p acc,quotedF k [] p acc = .bad 0
 | 0,_,_=>rfl
 | _+1,_,_=>by unfold quotedF;rw [if_pos rfl]
theorem enc_le (r:Int):(encodeRune r).length<=4:=enc_len r
set_option maxHeartbeats 2000000 in
theorem quoted_ok {σ0 τ:ASt} (hU:U8 τ) {b:Nat} {s:List UInt8} {p c:Nat} {ts:List Tok} (h:LX σ0 b s p c ts τ) (hB:Bnd s p c ts) (hp1:p<s.length) :
  ACalls Tryz.prog 156 [.ptr b 0] τ fun v σ'=>After σ0 b s p c ts (quotedF (s.drop p).length (s.drop (p+1)) 0 []) v σ':=by
 obtain ⟨k0,hg0,hb⟩:=h.cell
 have hB':=hB
 obtain ⟨hs,hp,hc,ht⟩:=hB
 obtain ⟨st,hst⟩:∃ st,quotedF (s.drop p).length (s.drop (p+1)) 0 []=st:=⟨_,rfl⟩
 rw [hst]
 obtain ⟨body,hbody⟩:∃ body,s.drop (p+1)=body:=⟨_,rfl⟩
 have hbl:body.length=s.length-(p+1):=by rw [<-hbody];simp
 have hdrop:∀ q,s.drop (p+1+q)=body.drop q:=fun q=>by rw [<-hbody,List.drop_drop]
 have hget:∀ q,s[p+1+q]? = body[q]? := fun q=>by rw [<-hbody,List.getElem?_drop]
 rw [hbody] at hst
 obtain ⟨F,hF⟩:∃ F,F=ACode.wp Tryz.prog c156_63:=⟨_,rfl⟩
 refine a156 (by simp) ?_
 simp (disch:=first|assumption|omega) only [go_sem]
 refine allocTC_by fun bB hbB=>?_
 have nb:=ne_of_role hb hbB
 obtain ⟨nb1,nb2⟩:=nb
 have e1:((p:Int)+1).toNat=p+1:=by omega
 simp (disch:=first|assumption|omega) only [go_sem,reduceCtorEq,Nat.reduceEqDiff,↓reduceIte,hb,e1,hbody,List.take_length,←hF]
 refine rngC_by fun it hit=>?_
 obtain ⟨ni1,ni2,hit0⟩:=set_none hit
 obtain ⟨nt1,nt2⟩:=ne_of_role hb hit0
 have hbase:∀ r:Role,(τ.set it (some r)) bB=none:=fun r=>by rw [ASt.set_ne ni2];exact hbB
 have fin:∀ (q:Nat) (acc:List UInt8) (a:AFr) (σ:ASt),q<=body.length->acc.length<=4*q+4->BD (τ.set it (some (.iter body q))) bB acc σ →
   ((st = .bad 0/\a 4 = .bool true)\/(st = .tok 2 acc (q+1)/\q+1<=body.length+1/\a 4 = .bool false/\a 5 = .int .i64 (q+1:Nat)))->(a 0 = .ptr b 0/\a 3 = .ptr bB 0) →
   F (RetQ [.t 2] fun v σ'=>After σ0 b s p c ts st v σ') a σ:=by
  intro q acc a σ hq hacc hW hcase hf
  have hov:Over τ σ:=(Over.set it _ .refl hit0).trans (hW.over (hbase _))
  rw [hF]
  rcases hcase with ⟨rfl,h4⟩|⟨rfl,hq1,h4,h5⟩
  ·simp (disch:=first|assumption|omega) only [go_sem,↓reduceIte,h4]
   exact retC_by hov.drop (.refl _) ⟨rfl,c,h⟩
  ·obtain ⟨σ0',hL,_,hback⟩:=GO.over h hov
   have hstr:=bstring_ok hW (by omega)
   simp (disch:=first|assumption|omega) only [go_sem,reduceCtorEq,Nat.reduceEqDiff,↓reduceIte,hf,h4]
   refine hstr.mono ?_
   rintro v σ' ⟨rfl,rfl⟩
   simp (disch:=first|assumption|omega) only [go_sem,Nat.reduceEqDiff,↓reduceIte,h5]
   refine (put_ok hL hB' 2 acc (q+1) (by omega)).mono ?_
   rintro v σ' ⟨rfl,hL2⟩
   obtain ⟨σ'',hd,hL3⟩:=hback _ _ _ hL2
   simp (disch:=first|assumption|omega) only [go_sem,↓reduceIte]
   exact retC_by hd (.refl _) ⟨rfl,hL3⟩
 have hst0:BD (τ.set it (some (.iter body 0))) bB [] ((τ.set bB (some (.typ 149 [.pointer none,.slice none 0 0]))).set it (some (.iter body 0))) := .inl ⟨rfl,set_swap ni2⟩
 simp (disch:=first|assumption|omega) only [go_sem]
 refine wp_loop_on (fun (i:Nat×List UInt8×Bool) a σ'=>i.1<=body.length/\i.2.1.length<=4*i.1+4/\BD (τ.set it (some (.iter body i.1))) bB i.2.1 σ' ∧
   (i.2.2=false->a 5 = .int .i64 (i.1+1:Nat)/\∃ k,(body.drop i.1).length<=k/\quotedF k (body.drop i.1) i.1 i.2.1=st) ∧
   (i.2.2=true->body[i.1]? = some 34/\a 5 = .int .i64 (i.1+2:Nat)/\∃ k,(body.drop (i.1+1)).length<=k/\quotedF k (body.drop (i.1+1)) (i.1+1) i.2.1=st) ∧
   (a 0 = .ptr b 0/\a 3 = .ptr bB 0/\a 4 = .bool true/\a 21 = .ptr it 0))
  (fun i=>body.length-i.1) (0,[],false) ⟨Nat.zero_le _,by simp,hst0,fun _=>⟨?_,_,?_,hst⟩,fun h=>(by cases h),?_⟩ ?_
 ·simp (disch:=first|assumption|omega) only [go_sem,Nat.reduceEqDiff,↓reduceIte]
 ·simp;omega
 ·simp (disch:=first|assumption|omega) only [go_sem,reduceCtorEq,Nat.reduceEqDiff,↓reduceIte]
 rintro ⟨q,acc,skip⟩ a σ ⟨hq,hacc,hW,hns,hsk,hf⟩
 dsimp only at hq hacc hW hns hsk
 obtain ⟨-,hitr⟩:=hW.iter (r' := .iter body q) ni1
 have hov:Over τ σ:=(Over.set it _ .refl hit0).trans (hW.over (hbase _))
 have hbs:=hov.at hb
 by_cases hlt:q<body.length
 ·have hne:body.drop q ≠ []:=by
   intro h
   have:=congrArg List.length h
   simp at this
   omega
  obtain ⟨⟨r,w⟩,hD⟩:∃ D,decodeL (body.drop q)=D:=⟨_,rfl⟩
  have hD2:Utf8.decode ⟨⟨body⟩⟩ q=(r,w):=by rw [<-hD];exact (decodeL_drop ⟨⟨body⟩⟩ q).symm
  have hDrop:decodeL (s.drop (p+1+q))=(r,w):=by rw [hdrop];exact hD
  have hwle:=decodeL_le (body.drop q) hne
  have hbd:=dec_bd (body.drop q)
  have hrk:=dec_rune (body.drop q)
  rw [hD] at hwle hbd hrk
  dsimp only at hwle hbd hrk
  rw [List.length_drop] at hwle
  obtain ⟨hW2, -⟩:=hW.iter (r' := .iter body (q+w)) ni1
  have hov2:Over τ (σ.set it (some (.iter body (q+w)))):=(Over.set it _ .refl hit0).trans (hW2.over (hbase _))
  have hb2:=hov2.at hb
  simp (disch:=first|assumption|omega) only [go_sem,hf,hitr]
  refine nxt_more hlt ?_
  rw [hD2]
  cases skip with
  | true=>
    obtain ⟨h34,h5,kk,hk1,hk2⟩:=hsk rfl
    have hd34:body.drop q=34::body.drop (q+1):=by
     rw [List.drop_eq_getElem_cons hlt]
     rw [List.getElem?_eq_getElem hlt] at h34
     injection h34 with h34
     rw [h34]
    have hw1:(r,w)=(34,1):=by
     rw [<-hD,hd34]
     exact dec_one 34 _ (by decide)
    injection hw1 with hr1 hw1
    subst hr1 hw1
    have e2:(q:Int)+1<(q+2:Nat):=by omega
    simp (disch:=first|assumption|omega) only [go_sem,reduceCtorEq,Nat.reduceEqDiff,↓reduceIte,hf,h5]
    exact ⟨(q+1,acc,false),by dsimp only;omega,by dsimp only;omega,by dsimp only;omega,hW2,fun _=>⟨rfl,kk,hk1,hk2⟩,fun h=>(by cases h)⟩
  | false=>
    obtain ⟨h5,kk,hk1,hk2⟩:=hns rfl
    have e2:¬ (q:Int)+1<(q+1:Nat):=by omega
    have e3:(p:Int)+1+q=(p+1+q:Nat):=by omega
    cases kk with
    | zero=>simp at hk1;omega
    | succ kk=>
    rw [quotedF,if_neg hne,hD] at hk2
    dsimp only at hk2
    rw [List.length_drop] at hk1
    have hlen:decodeL (body.drop q)≠(65533,1)->runeLen (r:Int)=w:=fun hv=>by
     have:=dec_len (body.drop q) hv
     rw [hD] at this
     exact this
    have hasc:=dec_ascii hne
    rw [hD] at hasc hlen
    dsimp only at hasc
    have hel:=enc_le (r:Int)
    obtain ⟨G,hG⟩:∃ F,F=ACode.wp Tryz.prog c156_43:=⟨_,rfl⟩
    have step:(r,w)≠(65533,1)->∀ (Q:APost) (a:AFr),(a 0 = .ptr b 0/\a 3 = .ptr bB 0/\a 4 = .bool true/\a 6 = .int .i64 q/\a 7 = .int .i32 r/\a 8 = .int .i64 (p+1+q:Nat)/\a 21 = .ptr it 0) →
      (∀ a' σ',(a' 0 = .ptr b 0/\a' 3 = .ptr bB 0/\a' 4 = .bool false/\a' 5 = .int .i64 (q+1+1:Nat))->BD (τ.set it (some (.iter body (q+1)))) bB acc σ'->st = .tok 2 acc (q+1+1)->Q (.exit 0) a' σ') →
      (∀ a' σ' q' acc' skip',q<q'->q'<=body.length->acc'.length<=4*q'+4->BD (τ.set it (some (.iter body q'))) bB acc' σ' →
       (skip'=false->a' 5 = .int .i64 (q'+1:Nat)/\∃ k,(body.drop q').length<=k/\quotedF k (body.drop q') q' acc'=st) →
       (skip'=true->body[q']? = some 34/\a' 5 = .int .i64 (q'+2:Nat)/\∃ k,(body.drop (q'+1)).length<=k/\quotedF k (body.drop (q'+1)) (q'+1) acc'=st) →
       (a' 0 = .ptr b 0/\a' 3 = .ptr bB 0/\a' 4 = .bool true/\a' 21 = .ptr it 0)->Q (.exit 1) a' σ') →
      G Q a (σ.set it (some (.iter body (q+w)))):=by
     intro hv Q a hf hQ0 hQ1
     rw [if_neg hv] at hk2
     have hlen:=hlen hv
     rw [hG]
     by_cases h34:(r:Int)=34
     ·have hr34:r=34:=by omega
      rw [if_neg (by simpa using hr34)] at hk2
      obtain ⟨d,t,hdt,hdc,hw1⟩:=hasc (by omega)
      subst hw1
      have hq1:(body.drop q)[1]? = body[q+1]? := by rw [List.getElem?_drop]
      rw [hq1] at hk2
      have hg1:=hget (q+1)
      obtain ⟨P,hP⟩:∃ P,p+1+(q+1)=P:=⟨_,rfl⟩
      have e4:((p:Int)+1+q+1).toNat=P:=by omega
      rw [hP] at hg1
      by_cases h2:body[q+1]? = some 34
      ·rw [if_pos h2] at hk2
       have hlt2:=(List.getElem?_eq_some_iff.1 h2).1
       rw [h2] at hg1
       have e5:(p:Int)+1+q+1<s.length:=by omega
       have e6:((UInt8.toNat 34:Nat):Int)=34:=rfl
       simp (disch:=first|assumption|omega) only [go_sem,reduceCtorEq,Nat.reduceEqDiff,↓reduceIte,hf,hb2,h34,e4,e5,e6,hg1]
       refine (writeByte_ok hW2 34 (by omega)).mono ?_
       rintro v σ' ⟨rfl,hW3⟩
       simp (disch:=first|assumption|omega) only [go_sem,Nat.reduceEqDiff,↓reduceIte,hf]
       refine hQ1 _ _ (q+1) (acc ++ [34]) true (by omega) (by omega) (by simp;omega) hW3 (fun h=>by cases h) (fun _=>⟨h2,?_,kk,?_,?_⟩) ?_
       ·simp (disch:=first|assumption|omega) only [go_sem,↓reduceIte]
        rfl
       ·simp;omega
       ·rw [List.drop_drop] at hk2
        exact hk2
       ·simp (disch:=first|assumption|omega) only [go_sem,reduceCtorEq,Nat.reduceEqDiff,↓reduceIte,hf]
      ·rw [if_neg h2] at hk2
       by_cases hlt2:q+1<body.length
       ·have e5:(p:Int)+1+q+1<s.length:=by omega
        have hx : body[q + 1]? = some (body[q + 1]'hlt2) := List.getElem?_eq_getElem hlt2
        obtain ⟨x, hxe⟩ : ∃ x, body[q + 1]'hlt2 = x := ⟨_, rfl⟩
        rw [hxe] at hx
        rw [hx] at hg1 h2
        have hx34:¬ (x.toNat:Int)=34:=by
         intro h
         apply h2
         congr 1
         apply UInt8.toNat_inj.1
         have:x.toNat=34:=by omega
         simpa using this
        simp (disch:=first|assumption|omega) only [go_sem,reduceCtorEq,Nat.reduceEqDiff,↓reduceIte,hf,hb2,h34,e4,e5,hg1,hx34]
        refine hQ0 _ _ ?_ hW2 hk2.symm
        simp (disch:=first|assumption|omega) only [go_sem,reduceCtorEq,Nat.reduceEqDiff,↓reduceIte,hf]
        rfl
       ·have e5:¬ (p:Int)+1+q+1<s.length:=by omega
        simp (disch:=first|assumption|omega) only [go_sem,reduceCtorEq,Nat.reduceEqDiff,↓reduceIte,hf,hb2,h34,e5]
        refine hQ0 _ _ ?_ hW2 hk2.symm
        simp (disch:=first|assumption|omega) only [go_sem,reduceCtorEq,Nat.reduceEqDiff,↓reduceIte,hf]
        rfl
     ·have hr34:r≠34:=by omega
      rw [if_pos hr34] at hk2
      clear hasc
      simp (disch:=first|assumption|omega) only [go_sem,Nat.reduceEqDiff,↓reduceIte,hf,h34]
      refine (writeRune_ok hW2 hrk (by omega)).mono ?_
      rintro v σ' hW3
      simp (disch:=first|assumption|omega) only [go_sem,Nat.reduceEqDiff,↓reduceIte,hf]
      refine (runeLen_ok r).use ?_
      rw [hlen]
      simp (disch:=first|assumption|omega) only [go_sem,Nat.reduceEqDiff,↓reduceIte]
      refine hQ1 _ _ (q+w) (acc++encodeRune r) false (by omega) (by omega) (by simp;omega) hW3 (fun _=>⟨?_,kk,?_,?_⟩) (fun h=>by cases h) ?_
      ·simp (disch:=first|assumption|omega) only [go_sem,↓reduceIte]
       congr 1
       omega
      ·simp;omega
      ·rw [List.drop_drop] at hk2
       exact hk2
      ·simp (disch:=first|assumption|omega) only [go_sem,reduceCtorEq,Nat.reduceEqDiff,↓reduceIte,hf]
    have hQ0:∀ (a':AFr) σ',(a' 0 = .ptr b 0/\a' 3 = .ptr bB 0/\a' 4 = .bool false/\a' 5 = .int .i64 (q+1+1:Nat))->BD (τ.set it (some (.iter body (q+1)))) bB acc σ'->st = .tok 2 acc (q+1+1) →
      F (RetQ [.t 2] fun v σ'=>After σ0 b s p c ts st v σ') a' σ':=fun a' σ' hf' hW3 hst3=>
     fin (q+1) acc a' σ' (by omega) (by omega) hW3 (.inr ⟨hst3,by omega,hf'.2.2.1,hf'.2.2.2⟩) ⟨hf'.1,hf'.2.1⟩
    by_cases hbad:(r,w)=(65533,1)
    ·rw [if_pos hbad] at hk2
     injection hbad with hr1 hw1
     subst hr1 hw1
     obtain ⟨σ0',hL,_,hback⟩:=GO.over h hov2
     have hdec:=dec_ok (hU.over hov2) (l:=s.drop (p+1+q)) (by rw [hdrop];exact hne)
     rw [hDrop] at hdec
     have hpass:=pass_ok hL hB' (1+q) (by omega)
     rw [show p+(1+q)=p+1+q by omega] at hpass
     have e7:((p:Int)+1+q).toNat=p+1+q:=by omega
     clear hasc step
     simp (disch:=first|assumption|omega) only [go_sem,reduceCtorEq,Nat.reduceEqDiff,↓reduceIte,hf,h5,hb2,e7,List.take_length,←hG]
     refine hdec.mono ?_
     rintro v σ' ⟨rfl,rfl⟩
     simp (disch:=first|assumption|omega) only [go_sem,reduceCtorEq,Nat.reduceEqDiff,↓reduceIte,hf]
     refine hpass.mono ?_
     rintro v σ' ⟨rfl,hL2⟩
     obtain ⟨σ'',hd,hL3⟩:=hback _ _ _ hL2
     simp (disch:=first|assumption|omega) only [go_sem,↓reduceIte]
     subst hk2
     refine retC_by hd (.refl _) ⟨rfl,c+signsN ((s.drop p).take (1+q)),?_⟩
     rw [show p+(1+q)=p+1+q by omega]
     exact hL3
    have stp:=step hbad
    clear step hasc
    by_cases h65:(r:Int)=65533
    ·have hw1:¬ (w:Int)=1:=by
      intro h
      apply hbad
      rw [Prod.mk.injEq]
      omega
     have hdec:=dec_ok (hU.over hov2) (l:=s.drop (p+1+q)) (by rw [hdrop];exact hne)
     rw [hDrop] at hdec
     have e7:((p:Int)+1+q).toNat=p+1+q:=by omega
     simp (disch:=first|assumption|omega) only [go_sem,reduceCtorEq,Nat.reduceEqDiff,↓reduceIte,hf,h5,hb2,e7,h65,List.take_length,←hG]
     refine hdec.mono ?_
     rintro v σ' ⟨rfl,rfl⟩
     simp (disch:=first|assumption|omega) only [go_sem,Nat.reduceEqDiff,↓reduceIte,hw1]
     refine stp _ _ ?_ ?_ ?_
     ·simp (disch:=first|assumption|omega) only [go_sem,reduceCtorEq,Nat.reduceEqDiff,↓reduceIte,hf]
      rw [<-h65]
     ·intro a' σ' hf' hW3 hst3
      simp (disch:=first|assumption|omega) only [go_sem,reduceCtorEq,↓reduceIte]
      exact hQ0 a' σ' hf' hW3 hst3
     ·intro a' σ' q' acc' skip' h1 h2 h3 h4 h5 h6 h7
      simp (disch:=first|assumption|omega) only [go_sem,↓reduceIte]
      exact ⟨(q',acc',skip'),by dsimp only;omega,h2,h3,h4,h5,h6,h7⟩
    ·simp (disch:=first|assumption|omega) only [go_sem,reduceCtorEq,Nat.reduceEqDiff,↓reduceIte,hf,h5,hb2,h65,←hG]
     refine stp _ _ ?_ ?_ ?_
     ·simp (disch:=first|assumption|omega) only [go_sem,reduceCtorEq,Nat.reduceEqDiff,↓reduceIte,hf]
     ·intro a' σ' hf' hW3 hst3
      simp (disch:=first|assumption|omega) only [go_sem,reduceCtorEq,↓reduceIte]
      exact hQ0 a' σ' hf' hW3 hst3
     ·intro a' σ' q' acc' skip' h1 h2 h3 h4 h5 h6 h7
      simp (disch:=first|assumption|omega) only [go_sem,↓reduceIte]
      exact ⟨(q',acc',skip'),by dsimp only;omega,h2,h3,h4,h5,h6,h7⟩
 ·have hq':q=body.length:=by omega
  cases skip with
  | true=>
    obtain ⟨h34,_⟩:=hsk rfl
    rw [List.getElem?_eq_none (by omega)] at h34
    cases h34
  | false=>
  obtain ⟨h5,kk,hk1,hk2⟩:=hns rfl
  rw [List.drop_eq_nil_of_le (by omega),quotedF_nil] at hk2
  simp (disch:=first|assumption|omega) only [go_sem,hf,hitr]
  refine nxt_over (by omega) ?_
  simp (disch:=first|assumption|omega) only [go_sem,↓reduceIte]
  refine fin q acc _ σ (by omega) hacc hW (.inl ⟨hk2.symm,?_⟩) ?_
  ·simp (disch:=first|assumption|omega) only [go_sem,Nat.reduceEqDiff,↓reduceIte,hf]
  ·simp (disch:=first|assumption|omega) only [go_sem,reduceCtorEq,Nat.reduceEqDiff,↓reduceIte,hf]
end Go.A
namespace Go.A
open Go.Proofs Go.Lib
theorem signs_one {c:UInt8} (h:c.toNat<128):signsN [c]=1:=by
 unfold signsN
 have:=runeCount_ascii ⟨⟨[c]⟩⟩ (fun j hj=>by
  have:j=0:=by simp [ByteArray.size] at hj;omega
  subst this
  exact h)
 simpa [ByteArray.size] using this
set_option maxHeartbeats 1000000 in
theorem tnext_ok {σ0 σ:ASt} (hU:U8 σ) {b:Nat} {s:List UInt8} {p c:Nat} {ts:List Tok} (h:LX σ0 b s p c ts σ) (hB:Bnd s p c ts) (hp:p<s.length) :
  ACalls Tryz.prog 107 [.ptr b 0] σ fun v σ'=>After σ0 b s p c ts (stepP (s.drop p)) v σ':=by
 obtain ⟨st,hst⟩:∃ st,stepP (s.drop p)=st:=⟨_,rfl⟩
 rw [hst]
 have hne:s.drop p ≠ []:=by
  intro h
  have:=congrArg List.length h
  simp at this
  omega
 have hs1:=hB.hs
 have hsg:=sign_ok hU h hB hp
 have hasc:=dec_ascii hne
 have hle:=decodeL_le _ hne
 have hbd:=dec_bd (s.drop p)
 have hwo:=words_ok h hB
 have hqu:=quoted_ok hU h hB hp
 have hfa:=lfail_ok h hB
 have hop:=op_ok h hB hp
 have hps:=pass_ok h hB 1 (by omega)
 obtain ⟨k,hg,hb⟩:=h.cell
 rw [List.length_drop] at hle
 unfold stepP at hst
 dsimp only at hst
 obtain ⟨⟨r,w⟩,hD⟩:∃ D,decodeL (s.drop p)=D:=⟨_,rfl⟩
 rw [hD] at hst hsg hasc hle hbd
 dsimp only at hst hsg hasc hle hbd
 refine a107 (by simp) ?_
 simp (disch:=first|assumption|omega) only [go_sem,reduceCtorEq,↓reduceIte]
 refine hsg.mono ?_
 rintro v σ' ⟨rfl,rfl⟩
 by_cases hbad:(r,w)=(65533,1)
 ·rw [if_pos hbad] at hst
  rw [if_pos hbad,if_pos hbad]
  subst hst
  simp (disch:=first|assumption|omega) only [go_sem,Nat.reduceEqDiff,Int.reduceLT,↓reduceIte,Int.reduceNeg]
  exact retC_by (Drop.refl _) (.refl _) ⟨rfl,c,h⟩
 rw [if_neg hbad] at hst
 rw [if_neg hbad,if_neg hbad]
 have e0:¬ (w:Int)<0:=by omega
 by_cases hbl:r=32\/r=9\/r=10
 ·rw [if_pos hbl] at hst
  subst hst
  obtain ⟨d,t,hdt,hdc,hw1⟩:=hasc (by omega)
  have hs1:signsN ((s.drop p).take 1)=1:=by rw [hdt,List.take_succ_cons,List.take_zero];exact signs_one (by omega)
  rw [hs1] at hps
  subst hw1
  have e1:((1:Nat):Int)=1:=rfl
  rcases hbl with rfl|rfl|rfl
  all_goals
   simp (disch:=first|assumption|omega) only [go_sem,reduceCtorEq,Nat.reduceEqDiff,Int.reduceLT,Int.reduceEq,↓reduceIte,hb]
   refine hps.mono ?_
   rintro v σ2 ⟨rfl,hL⟩
   simp (disch:=first|assumption|omega) only [go_sem,↓reduceIte]
   exact retC_by (Drop.refl _) (.refl _) ⟨rfl,hL⟩
 rw [if_neg hbl] at hst
 have n1:¬ (r:Int)=32:=by omega
 have n2:¬ (r:Int)=9:=by omega
 have n3:¬ (r:Int)=10:=by omega
 by_cases h128:r<128
 ·obtain ⟨d,t,hdt,hdc,hw1⟩:=hasc h128
  clear hasc
  have hdr:UInt8.ofNat r=d:=by rw [<-hdc];simp
  have hwd:=word_ok d
  rw [hdc] at hwd
  rw [hdr] at hst
  have i128:(r:Int)<128:=by omega
  simp (disch:=first|assumption|omega) only [go_sem,Nat.reduceEqDiff,↓reduceIte,e0,n1,n2,n3,i128]
  refine hwd.use ?_
  cases hw:wordB d with
  | true=>
    rw [if_pos ⟨h128,hw⟩] at hst
    subst hst
    simp (disch:=first|assumption|omega) only [go_sem,reduceCtorEq,Nat.reduceEqDiff,↓reduceIte]
    refine hwo.mono ?_
    intro v σ' hA
    simp (disch:=first|assumption|omega) only [go_sem,↓reduceIte]
    exact retC_by (Drop.refl _) (.refl _) hA
  | false=>
  rw [if_neg (by rintro ⟨_,h⟩;rw [hw] at h;cases h)] at hst
  by_cases h34:r=34
  ·rw [if_pos h34,List.drop_drop] at hst
   subst hst
   have i34:(r:Int)=34:=by omega
   simp (disch:=first|assumption|omega) only [go_sem,reduceCtorEq,Nat.reduceEqDiff,↓reduceIte,i34]
   refine hqu.mono ?_
   intro v σ' hA
   simp (disch:=first|assumption|omega) only [go_sem,↓reduceIte]
   exact retC_by (Drop.refl _) (.refl _) hA
  rw [if_neg h34] at hst
  have i34:¬ (r:Int)=34:=by omega
  by_cases h35:r=35
  ·rw [if_pos h35] at hst
   subst hst
   have i35:(r:Int)=35:=by omega
   simp (disch:=first|assumption|omega) only [go_sem,reduceCtorEq,Nat.reduceEqDiff,Int.reduceEq,↓reduceIte,i35]
   refine hfa.mono ?_
   intro v σ' hA
   simp (disch:=first|assumption|omega) only [go_sem,↓reduceIte]
   exact retC_by (Drop.refl _) (.refl _) hA
  rw [if_neg h35] at hst
  have i35:¬ (r:Int)=35:=by omega
  subst hst
  simp (disch:=first|assumption|omega) only [go_sem,reduceCtorEq,Nat.reduceEqDiff,↓reduceIte,i34,i35]
  refine (hop r w (by omega)).mono ?_
  intro v σ' hA
  simp (disch:=first|assumption|omega) only [go_sem,↓reduceIte]
  exact retC_by (Drop.refl _) (.refl _) hA
 ·rw [if_neg (by rintro ⟨h,_⟩;exact h128 h),if_neg (by omega),if_neg (by omega)] at hst
  subst hst
  have i128:¬ (r:Int)<128:=by omega
  have i34:¬ (r:Int)=34:=by omega
  have i35:¬ (r:Int)=35:=by omega
  simp (disch:=first|assumption|omega) only [go_sem,reduceCtorEq,Nat.reduceEqDiff,↓reduceIte,e0,n1,n2,n3,i128,i34,i35]
  refine (hop r w (by omega)).mono ?_
  intro v σ' hA
  simp (disch:=first|assumption|omega) only [go_sem,↓reduceIte]
  exact retC_by (Drop.refl _) (.refl _) hA
theorem quotedF_fits:∀ (k:Nat) (r:List UInt8) (p:Nat) (acc:List UInt8),(∀ j,quotedF k r p acc = .bad j->j<1+p+r.length)/\quotedF k r p acc ≠ .blank/\∀ kd t n,quotedF k r p acc = .tok kd t n->p+2<=n/\n<=p+1+r.length
 | 0,r,p,acc=>by
   refine ⟨fun j h=>?_,by simp [quotedF],fun kd t n h=>by simp [quotedF] at h⟩
   simp only [quotedF,Step.bad.injEq] at h
   omega
 | k+1,r,p,acc=>by
   by_cases hr:r = []
   ·subst hr
    rw [quotedF_nil]
    refine ⟨fun j h=>?_,by simp,fun kd t n h=>by simp at h⟩
    simp only [Step.bad.injEq] at h
    omega
   have hpos:=List.length_pos_iff.2 hr
   have hle:=decodeL_le r hr
   have hw:=decodeL_width r
   unfold quotedF
   rw [if_neg hr]
   split
   ·refine ⟨fun j h=>?_,by simp,fun kd t n h=>by simp at h⟩
    simp only [Step.bad.injEq] at h
    omega
   split
   ·obtain ⟨h1,h2,h3⟩:=quotedF_fits k (r.drop (decodeL r).2) (p+(decodeL r).2) (acc++encodeRune ((decodeL r).1:Int))
    rw [List.length_drop] at h1 h3
    exact ⟨fun j h=>by have:=h1 j h;omega,h2,fun kd t n h=>by have:=h3 kd t n h;omega⟩
   split
   ·rename_i h1 h2 h3
    have hl2:=(List.getElem?_eq_some_iff.1 h3).1
    obtain ⟨h1,h2,h3⟩:=quotedF_fits k (r.drop 2) (p+2) (acc ++ [34])
    rw [List.length_drop] at h1 h3
    exact ⟨fun j h=>by have:=h1 j h;omega,h2,fun kd t n h=>by have:=h3 kd t n h;omega⟩
   ·refine ⟨fun j h=>by simp at h,by simp,fun kd t n h=>?_⟩
    simp only [Step.tok.injEq] at h
    omega
theorem failS_fits (r:List UInt8) (hr:r ≠ []):∀ (es:List (List UInt8)),(∀ e∈es,1<=e.length)->(∀ j,failS r es = .bad j->j<r.length)/\failS r es ≠ .blank/\∀ kd t n,failS r es = .tok kd t n->1<=n/\n<=r.length
 | [],_=>by
   have:=List.length_pos_iff.2 hr
   refine ⟨fun j h=>?_,by simp [failS],fun kd t n h=>by simp [failS] at h⟩
   simp only [failS,Step.bad.injEq] at h
   omega
 | e::es,he=>by
   unfold failS
   split
   ·rename_i h1
    have:=he e (by simp)
    refine ⟨fun j h=>by simp at h,by simp,fun kd t n h=>?_⟩
    simp only [Step.tok.injEq] at h
    omega
   ·exact failS_fits r hr es fun e h=>he e (by simp [h])
theorem twoS_fits (r:List UInt8):∀ (es:List (List UInt8)) e,twoS r es=some e->e∈es/\e.isPrefixOf r=true
 | [],e,h=>by simp [twoS] at h
 | x::es,e,h=>by
   unfold twoS at h
   split at h
   ·injection h with h;subst h;exact ⟨by simp,by assumption⟩
   ·obtain ⟨h1,h2⟩:=twoS_fits r es e h
    exact ⟨by simp [h1],h2⟩
theorem stepP_fits (r:List UInt8) (hr:r ≠ []):(∀ j,stepP r = .bad j->j<r.length)/\∀ kd t n,stepP r = .tok kd t n->1<=n/\n<=r.length:=by
 have hpos:=List.length_pos_iff.2 hr
 have hle:=decodeL_le r hr
 have hw:=decodeL_width r
 have hasc:=dec_ascii hr
 have bad0:(∀ j,Step.bad 0 = .bad j->j<r.length)/\∀ kd t n,Step.bad 0 = .tok kd t n->1<=n/\n<=r.length:=by
  refine ⟨fun j h=>?_,fun kd t n h=>by simp at h⟩
  simp only [Step.bad.injEq] at h
  omega
 have tok1:∀ kd t n,1<=n->n<=r.length->(∀ j,Step.tok kd t n = .bad j->j<r.length)/\∀ kd' t' n',Step.tok kd t n = .tok kd' t' n'->1<=n'/\n'<=r.length:=by
  intro kd t n h1 h2
  refine ⟨fun j h=>by simp at h,fun kd t n h=>?_⟩
  simp only [Step.tok.injEq] at h
  omega
 unfold stepP
 dsimp only
 split
 ·exact bad0
 split
 ·exact ⟨fun j h=>by simp at h,fun kd t n h=>by simp at h⟩
 split
 ·rename_i h1 h2 h3
  obtain ⟨d,t,hdt,hdc,_⟩:=hasc h3.1
  have hrl:=runL_le wordB r
  have h1:1<=runL wordB r:=by
   rw [hdt,runL]
   have:UInt8.ofNat (decodeL r).1=d:=by rw [<-hdc];simp
   rw [this] at h3
   rw [if_pos h3.2]
   omega
  unfold wordsS
  dsimp only
  repeat' split
  all_goals first|exact tok1 _ _ _ h1 hrl|exact bad0
 split
 ·obtain ⟨h1,h2,h3⟩:=quotedF_fits r.length (r.drop 1) 0 []
  rw [List.length_drop] at h1 h3
  exact ⟨fun j h=>by have:=h1 j h;omega,fun kd t n h=>by have:=h3 kd t n h;omega⟩
 split
 ·obtain ⟨h1,h2,h3⟩:=failS_fits r hr errTexts (by decide)
  exact ⟨h1,h3⟩
 ·unfold opS
  split
  ·exact tok1 _ _ _ hw hle
  ·split
   ·rename_i e he
    obtain ⟨h1,h2⟩:=twoS_fits r _ _ he
    have:=twos_len e h1
    have:=(List.isPrefixOf_iff_prefix.1 h2).length_le
    exact tok1 _ _ _ (by omega) (by omega)
   ·split
    ·exact tok1 _ _ _ (by omega) (by omega)
    ·exact bad0
theorem After.u8 {σ0 σ':ASt} (hU:U8 σ0) {b:Nat} (hb:σ0 b=none) {s:List UInt8} {p c:Nat} {ts:List Tok} (h:LX σ0 b s p c ts σ'):U8 σ':=by
 have hne:∀ x r,σ0 x=some r->x≠b:=by rintro x r hx rfl;rw [hb] at hx;cases hx
 exact ⟨GO.at h (hne _ _ hU.1) hU.1,GO.at h (hne _ _ hU.2) hU.2⟩
theorem lex_ok {σ:ASt} (hU:U8 σ) (s:List UInt8) (hs0:s.length<=1000000000) :
  ACalls Tryz.prog 63 [.str s] σ fun v σ'=>v = .tuple [.sl .shr ((lexP s).1.map tokAV),.int .i64 (lexP s).2.1,.int .i64 (lexP s).2.2]/\σ'=σ:=by
 obtain ⟨R,hR⟩:∃ R,lexP s=R:=⟨_,rfl⟩
 rw [hR]
 unfold lexP at hR
 refine a63 (by simp) ?_
 obtain ⟨F,hF⟩:∃ F,F=ACode.wp Tryz.prog c63_24:=⟨_,rfl⟩
 by_cases hbig:2000<s.length
 ·rw [if_pos hbig] at hR
  subst hR
  have e1:(2000:Int)<s.length:=by omega
  simp (disch:=first|assumption|omega) only [go_sem,reduceCtorEq,Nat.reduceEqDiff,↓reduceIte,e1]
  exact retC_by (Drop.refl _) (.tuple (.cons (.sl _ _) (.cons (.refl _) (.cons (.refl _) .nil)))) ⟨rfl,rfl⟩
 rw [if_neg hbig] at hR
 have hs:s.length<=100000:=by omega
 have e1:¬ (2000:Int)<s.length:=by omega
 simp (disch:=first|assumption|omega) only [go_sem,reduceCtorEq,Nat.reduceAdd,Nat.reduceLeDiff,↓reduceIte,e1]
 refine boxC_by rfl fun b hb=>?_
 simp (disch:=first|assumption|omega) only [go_sem,↓reduceIte,←hF]
 have h0:LX σ b s 0 0 [] (σ.set b (some (.obj [.str s,.int .i64 0,.int .i64 0,.sl .full []]))):=⟨.full,.inl ⟨rfl,rfl,rfl⟩⟩
 refine wp_loop_on (fun (i:Nat×Nat×List Tok) a σ'=>i.1<=s.length/\i.2.1<=i.1/\i.2.2.length<=i.1/\LX σ b s i.1 i.2.1 i.2.2 σ'/\(∃ k,(s.drop i.1).length<k/\lexF k (s.drop i.1) i.1 i.2.1 i.2.2=R)/\(a 0 = .str s/\a 5 = .ptr b 0))
  (fun i=>s.length-i.1) (0,0,[]) ⟨Nat.zero_le _,Nat.le_refl _,Nat.le_refl _,h0,⟨s.length+1,by simp,hR⟩,?_⟩ ?_
 ·simp (disch:=first|assumption|omega) only [go_sem,reduceCtorEq,↓reduceIte]
 rintro ⟨p,c,ts⟩ a σ1 ⟨hp,hc,ht,hL,⟨k,hk,hlex⟩,hf⟩
 dsimp only at hp hc ht hL hk hlex hf
 have hB:Bnd s p c ts:=⟨hs,hp,hc,by omega⟩
 have hU1:=After.u8 hU hb hL
 obtain ⟨kk,hg,hcell⟩:=hL.cell
 cases k with
 | zero=>omega
 | succ k=>
 rw [List.length_drop] at hk
 by_cases hlt:p<s.length
 ·have hne:s.drop p ≠ []:=by
   intro h
   have:=congrArg List.length h
   simp at this
   omega
  have hlt':(p:Int)<s.length:=by omega
  have hfit:=stepP_fits _ hne
  have hnx:=tnext_ok hU1 hL hB hlt
  rw [lexF,if_neg hne] at hlex
  obtain ⟨st,hst⟩:∃ st,stepP (s.drop p)=st:=⟨_,rfl⟩
  rw [hst] at hlex hfit hnx
  rw [List.length_drop] at hfit
  simp (disch:=first|assumption|omega) only [go_sem,reduceCtorEq,Nat.reduceEqDiff,↓reduceIte,hf,hcell,hlt']
  refine hnx.mono ?_
  intro v σ' hA
  cases st with
  | bad j=>
    obtain ⟨rfl,c',hL2⟩:=hA
    obtain ⟨k2,hg2,hcell2⟩:=hL2.cell
    dsimp only at hlex
    subst hlex
    simp (disch:=first|assumption|omega) only [go_sem,Nat.reduceEqDiff,Int.reduceEq,↓reduceIte,hf,hcell2]
    exact retC_by (Drop.trans hg2.drop (Drop.set hb)) (.tuple (.cons (.sl _ _) (.cons (.refl _) (.cons (.refl _) .nil)))) ⟨rfl,rfl⟩
  | blank=>
    obtain ⟨rfl,hL2⟩:=hA
    dsimp only at hlex
    rw [List.drop_drop] at hlex
    simp (disch:=first|assumption|omega) only [go_sem,reduceCtorEq,Nat.reduceEqDiff,↓reduceIte,hf]
    exact ⟨(p+1,c+1,ts),by dsimp only;omega,by dsimp only;omega,by dsimp only;omega,by dsimp only;omega,hL2,⟨k,by simp;omega,hlex⟩⟩
  | tok kd t n=>
    obtain ⟨rfl,hL2⟩:=hA
    dsimp only at hlex
    rw [List.drop_drop] at hlex
    obtain ⟨g1,g2⟩:=hfit.2 kd t n rfl
    have hsn:=signsN_le ((s.drop p).take n)
    rw [take_len (by omega)] at hsn
    simp (disch:=first|assumption|omega) only [go_sem,reduceCtorEq,Nat.reduceEqDiff,↓reduceIte,hf]
    exact ⟨(p+n,c+signsN ((s.drop p).take n),ts ++ [⟨kd,t,p,c⟩]),by dsimp only;omega,by dsimp only;omega,by dsimp only;omega,by simp;omega,hL2,⟨k,by simp;omega,hlex⟩⟩
 ·have hlt':¬ (p:Int)<s.length:=by omega
  have hpe:s.drop p = []:=List.drop_eq_nil_of_le (by omega)
  rw [lexF,hpe,if_pos rfl] at hlex
  subst hlex
  simp (disch:=first|assumption|omega) only [go_sem,reduceCtorEq,Nat.reduceEqDiff,↓reduceIte,hf,hcell,hlt']
  rw [hF]
  simp (disch:=first|assumption|omega) only [go_sem,Nat.reduceEqDiff,↓reduceIte,hf]
  refine (put_ok hL hB 0 [] 0 (by omega)).mono ?_
  rintro v σ' ⟨rfl,hL2⟩
  obtain ⟨k2,hg2,hcell2⟩:=hL2.cell
  have hz:signsN ((s.drop p).take 0)=0:=by rw [List.take_zero];rfl
  simp (disch:=first|assumption|omega) only [go_sem,Nat.reduceEqDiff,↓reduceIte,hf,hcell2]
  exact retC_by (Drop.trans hg2.drop (Drop.set hb)) (.tuple (.cons (.sl _ _) (.cons (.refl _) (.cons (.refl _) .nil)))) ⟨rfl,rfl⟩
end Go.A
namespace Go.A
open Go.Proofs
/-! 89: tabular/expr.Write -/
def c89_45:ACode := .seq (.ops [ oq 59 (.bin .lss (.t 58) (.t 57))]) (.seq (.cond (.t 59) .skip (.exit 1)) (.seq (.block 2 (.seq (.ops [ oq 60 (.ia 12 (.t 56) (.t 58)),oq 61 (.ld (some 12) (.t 60)),oe 5 (.alloc [(.int .i64 0),(.int .i64 0),(.str []),(.int .i64 0),(.int .i64 0),(.bool false),(.bool false),(.int .i64 0),(.int .i64 0),(.bool false),(.bool false),(.sl .full [])]),oz (.store 12 (.t 5) (.t 61))]) (.ops [ oq 62 (.mv (.t 0)),oq 63 (.ld (some 12) (.t 5)),oe 64 (.call 89 [(.t 62),(.t 63)])]))) (.ops [ oq 65 (.bin .add (.t 58) (.v (.int .i64 1))),oq 58 (.mv (.t 65))])))
def c89_48:ACode := .seq (.ops [ oq 55 (.fa 11 (.t 3)),oq 56 (.ld none (.t 55)),oq 57 (.len (.t 56)),oq 58 (.mv (.v (.int .i64 0)))]) (.block 1 (.loop c89_45))
def c89_51:ACode := .seq (.ops [ oe 3 (.box (.t 1))]) (.seq (.ops [ oq 6 (.mv (.t 0)),oq 7 (.fa 0 (.t 3)),oq 8 (.ld none (.t 7)),oq 9 (.conv .u64 (.t 8)),oe 10 (.call 40 [(.t 6),(.t 9)])]) (.seq (.seq (.ops [ oq 11 (.fa 0 (.t 3)),oq 12 (.ld none (.t 11))]) (.block 0 (.seq (.seq (.ops [ oq 14 (.bin .eql (.t 12) (.v (.int .i64 1))),oq 13 (.mv (.t 14))]) (.cond (.t 13) .skip (.seq (.ops [ oq 15 (.bin .eql (.t 12) (.v (.int .i64 3))),oq 13 (.mv (.t 15))]) (.cond (.t 13) .skip (.ops [ oq 16 (.bin .eql (.t 12) (.v (.int .i64 4))),oq 13 (.mv (.t 16))]))))) (.cond (.t 13) (.ops [ oq 17 (.mv (.t 0)),oq 18 (.fa 1 (.t 3)),oq 19 (.ld none (.t 18)),oe 20 (.call 115 [(.t 17),(.t 19)])]) (.seq (.ops [ oq 22 (.bin .eql (.t 12) (.v (.int .i64 2))),oq 21 (.mv (.t 22))]) (.cond (.t 21) (.ops [ oq 23 (.mv (.t 0)),oq 24 (.fa 2 (.t 3)),oq 25 (.ld none (.t 24)),oe 26 (.call 116 [(.t 23),(.t 25)])]) (.seq (.ops [ oq 28 (.bin .eql (.t 12) (.v (.int .i64 5))),oq 27 (.mv (.t 28))]) (.cond (.t 27) (.ops [ oq 29 (.mv (.t 0)),oq 30 (.fa 3 (.t 3)),oq 31 (.ld (some 4) (.t 30)),oe 32 (.call 142 [(.t 29),(.t 31)])]) (.seq (.ops [ oq 34 (.bin .eql (.t 12) (.v (.int .i64 6))),oq 33 (.mv (.t 34))]) (.cond (.t 33) (.seq (.ops [ oq 35 (.mv (.t 0)),oq 36 (.fa 3 (.t 3)),oq 37 (.ld (some 4) (.t 36)),oe 38 (.call 142 [(.t 35),(.t 37)])]) (.ops [ oq 39 (.mv (.t 0)),oq 40 (.fa 7 (.t 3)),oq 41 (.ld (some 4) (.t 40)),oe 42 (.call 142 [(.t 39),(.t 41)])])) (.seq (.ops [ oq 44 (.bin .eql (.t 12) (.v (.int .i64 22))),oq 43 (.mv (.t 44))]) (.cond (.t 43) (.seq (.ops [ oq 45 (.mv (.t 0)),oq 46 (.fa 2 (.t 3)),oq 47 (.ld none (.t 46)),oe 48 (.call 116 [(.t 45),(.t 47)])]) (.ops [ oq 49 (.mv (.t 0)),oq 50 (.fa 11 (.t 3)),oq 51 (.ld none (.t 50)),oq 52 (.len (.t 51)),oq 53 (.conv .u64 (.t 52)),oe 54 (.call 40 [(.t 49),(.t 53)])])) .skip)))))))))))) c89_48))
@[go_sem] def c89_45_wp:=wp_of c89_45.eq_1
@[go_sem] def c89_48_wp:=wp_of c89_48.eq_1
@[go_sem] def c89_51_wp:=wp_of c89_51.eq_1
def c89:AFn:=⟨66,[],c89_51⟩
theorem c89_ok:compF Tryz.prog Tryz.f89=some c89:=by kernel_rfl
theorem a89 {args:List AV} {σ:ASt} {R:AV->ASt->Prop} (hl:args.length<=66) (h:c89_51.wp Tryz.prog (RetQ [] R) (init args) σ):ACalls Tryz.prog 89 args σ R:=acalls_of Tryz.func89 c89_ok hl h
/-! 142: tabular/expr.putRef -/
def c142_16:ACode := .seq (.ops [ oe 3 (.box (.t 1))]) (.seq (.ops [ oq 4 (.mv (.v (.int .i64 0)))]) (.seq (.seq (.ops [ oq 5 (.fa 2 (.t 3)),oq 6 (.ld none (.t 5))]) (.cond (.t 6) (.ops [ oq 4 (.mv (.v (.int .i64 1)))]) .skip)) (.seq (.seq (.ops [ oq 7 (.fa 3 (.t 3)),oq 8 (.ld none (.t 7))]) (.cond (.t 8) (.ops [ oq 9 (.mv (.t 4)),oq 10 (.bin .add (.t 9) (.v (.int .i64 2))),oq 4 (.mv (.t 10))]) .skip)) (.seq (.ops [ oq 11 (.mv (.t 0)),oq 12 (.mv (.t 4)),oq 13 (.fa 0 (.t 3)),oq 14 (.ld none (.t 13)),oq 15 (.bin .mul (.v (.int .i64 4)) (.t 14)),oq 16 (.bin .add (.t 12) (.t 15)),oq 17 (.conv .u64 (.t 16)),oe 18 (.call 40 [(.t 11),(.t 17)])]) (.ops [ oq 19 (.mv (.t 0)),oq 20 (.fa 1 (.t 3)),oq 21 (.ld none (.t 20)),oq 22 (.conv .u64 (.t 21)),oe 23 (.call 40 [(.t 19),(.t 22)])])))))
@[go_sem] def c142_16_wp:=wp_of c142_16.eq_1
def c142:AFn:=⟨24,[],c142_16⟩
theorem c142_ok:compF Tryz.prog Tryz.f142=some c142:=by kernel_rfl
theorem a142 {args:List AV} {σ:ASt} {R:AV->ASt->Prop} (hl:args.length<=24) (h:c142_16.wp Tryz.prog (RetQ [] R) (init args) σ):ACalls Tryz.prog 142 args σ R:=acalls_of Tryz.func142 c142_ok hl h
end Go.A
namespace Go.A
open Go.Proofs Go.Lib Go.Vint
def absN (r:Ref):Nat:=(if r.absRow=true then 1 else 0)+(if r.absCol=true then 2 else 0)
def rfB (r:Ref):List UInt8:=uintB (absN r+4*r.row.toNat)++uintB r.col.toNat
def restB (op n:Int) (s:List UInt8) (a b:Ref) (k:Nat):List UInt8:=
 if op=1\/op=3\/op=4 then uintB (foldI n).toNat else if op=2 then textB s else if op=5 then rfB a else if op=6 then rfB a++rfB b else if op=22 then textB s++uintB k else []
mutual
def Nd.bytes:Nd->List UInt8
 | .mk op n s a b kids=>uintB op.toNat++restB op n s a b kids.length++Nd.bytess kids
def Nd.bytess:List Nd->List UInt8
 | [] => []
 | x::xs=>x.bytes++Nd.bytess xs
end
def arity (op:Int):Nat:=if op=7\/op=8\/op=9 then 1 else if 10<=op/\op<=21 then 2 else 0
def nameOkP (s:List UInt8):Bool:=decide ((lexP s).2.2=0) && (decide ((lexP s).1.length=2) && match (lexP s).1 with
 | t::_=>decide (t.kind=3) && decide (t.text=s)
 | []=>false)
structure GdN (op n:Int) (s:List UInt8) (a b:Ref) (k:Nat):Prop where
 op1:1<=op
 op2:op<=23
 n1:op=1->0<=n/\n<=999999999999999999
 n3:op=3->n=0\/n=1
 n4:op=4->n.tmod 10000=0/\10000<=n/\n<=70000
 n0:op≠1->op≠3->op≠4->n=0
 s2:op=2->s.length<=2000/\(sgT s).isSome=true
 s22:op=22->s.length<=2000/\nameOkP s=true/\k<=2000
 s0:op≠2->op≠22->s = []
 ga:op=5\/op=6->a.good=true
 a0:op≠5->op≠6->a = .zero
 gb:op=6->b.good=true
 b0:op≠6->b = .zero
 ar:op≠22->k=arity op
mutual
def Nd.wd:Nd->Prop
 | .mk op n s a b kids=>GdN op n s a b kids.length/\Nd.wds kids
def Nd.wds:List Nd->Prop
 | []=>True
 | x::xs=>x.wd/\Nd.wds xs
end
theorem Nd.wds_mem:∀ {l:List Nd},Nd.wds l↔∀ x∈l,x.wd
 | []=>by simp [Nd.wds]
 | y::l=>by rw [Nd.wds,Nd.wds_mem (l:=l)];simp
theorem GdN.num {op n:Int} {s:List UInt8} {a b:Ref} {k:Nat} (h:GdN op n s a b k):0<=n/\n<=999999999999999999:=by
 have h1:=h.n1
 have h3:=h.n3
 have h4:=h.n4
 have h0:=h.n0
 by_cases e1:op=1
 ·exact h1 e1
 by_cases e3:op=3
 ·have:=h3 e3;omega
 by_cases e4:op=4
 ·have:=h4 e4;omega
 ·have:=h0 e1 e3 e4;omega
theorem arity_le (op:Int):arity op<=2:=by
 unfold arity
 repeat' split
 all_goals omega
theorem GdN.kids {op n:Int} {s:List UInt8} {a b:Ref} {k:Nat} (h:GdN op n s a b k):k<=2000:=by
 by_cases e:op=22
 ·exact (h.s22 e).2.2
 ·have:=h.ar e;have:=arity_le op;omega
theorem good_bd {r:Ref} (h:r.good=true):0<=r.row/\r.row<3000/\0<=r.col/\r.col<700:=by
 unfold Ref.good at h
 exact of_decide_eq_true h
theorem bytess_take {x:Nd}:∀ {l:List Nd} {i:Nat},l[i]? = some x->Nd.bytess (l.take (i+1))=Nd.bytess (l.take i)++x.bytes
 | [],i,h=>by simp at h
 | y::l,0,h=>by simp at h;subst h;simp [Nd.bytess]
 | y::l,i+1,h=>by
   simp only [List.getElem?_cons_succ] at h
   rw [List.take_succ_cons,List.take_succ_cons,Nd.bytess,Nd.bytess,bytess_take h,List.append_assoc]
theorem bytess_le:∀ (l:List Nd) (i:Nat),(Nd.bytess (l.take i)).length<=(Nd.bytess l).length
 | [],i=>by simp [Nd.bytess]
 | y::l,0=>by simp [Nd.bytess]
 | y::l,i+1=>by rw [List.take_succ_cons,Nd.bytess,Nd.bytess,List.length_append,List.length_append];have:=bytess_le l i;omega
theorem putref_ok (r:Ref) (hr:r.good=true) (σ0:ASt) (b:Nat) (l:List UInt8) (σ:ASt) (hW:W σ0 b l σ) (hl:l.length+(rfB r).length<=1000000) :
  ACalls Tryz.prog 142 [.ptr b 0,refAV r] σ fun v σ'=>v = .tuple []/\W σ0 b (l++rfB r) σ':=by
 obtain ⟨r1,r2,r3,r4⟩:=good_bd hr
 obtain ⟨row,col,ar,ac⟩:=r
 dsimp only at r1 r2 r3 r4
 have key:∀ q:Int,0<=q->q<=3->IntKind.wrap .u64 (q+4*row)=q+4*row/\IntKind.wrap .u64 (4*row)=4*row/\IntKind.wrap .u64 col=col:=fun q h0 h1=>by
  rw [IntKind.wrap_u64,IntKind.wrap_u64,IntKind.wrap_u64];omega
 obtain ⟨U,hU⟩:∃ U:Int,((absN ⟨row,col,ar,ac⟩:Nat):Int)+4*row=U:=⟨_,rfl⟩
 have hrf:rfB ⟨row,col,ar,ac⟩=uintB U.toNat++uintB col.toNat:=by
  unfold rfB
  rw [show absN ⟨row,col,ar,ac⟩+4*row.toNat=U.toNat by omega]
 rw [hrf] at hl ⊢
 rw [List.length_append] at hl
 have hadd:=fun (c:Nat) (hc:σ c=none) (r:Role)=>hW.add (r:=r) hc
 unfold refAV
 cases ar<;>cases ac
 all_goals
  have hU':=hU
  unfold absN at hU'
  simp only [Bool.false_eq_true,if_false,if_true,Nat.zero_add,Nat.add_zero,Nat.reduceAdd] at hU'
  clear hU hrf
  have hb:0<=U/\U<=20000:=by omega
  have hw0:=(key 0 (by omega) (by omega)).2.2
  refine a142 (by simp) ?_
  simp (disch:=first|assumption|omega) only [go_sem]
  refine boxC_by rfl fun c hc=>?_
  have hadd:=hadd c hc
  simp (disch:=first|assumption|omega) only [go_sem,reduceCtorEq,Nat.reduceEqDiff,↓reduceIte,Int.reduceAdd]
  refine ACalls.of_eq (congrArg (fun x => [AV.ptr b 0,AV.int .u64 x]) (show _=U by omega)) ?_
  refine (wuint_ok _ b U l _ (hadd _).1 (by omega) (by omega) (by omega)).mono ?_
  rintro v σ1 ⟨rfl,hW1⟩
  have hc1:=hW1.role (hadd (.obj [])).2.1
  simp (disch:=first|assumption|omega) only [go_sem,reduceCtorEq,Nat.reduceEqDiff,↓reduceIte,hc1,hw0]
  refine (wuint_ok _ b col _ _ hW1 (by omega) (by omega) (by rw [List.length_append];omega)).mono ?_
  rintro v σ2 ⟨rfl,hW2⟩
  rw [List.append_assoc] at hW2
  obtain ⟨σ3,hd,hW3,_⟩:=hW2.off (hadd (.obj [])).2.1 (hadd (.obj [])).2.2
  simp (disch:=first|assumption|omega) only [go_sem]
  exact retC_by hd (.refl _) ⟨rfl,hW3⟩
theorem ewrite_le:∀ (k:Nat) (n:Nd),n.size<=k->n.wd->∀ (σ0:ASt) (b:Nat) (l:List UInt8) (σ:ASt),W σ0 b l σ->l.length+n.bytes.length<=900000 →
  ACalls Tryz.prog 89 [.ptr b 0,n.av] σ fun v σ'=>v = .tuple []/\W σ0 b (l++n.bytes) σ'
 | 0,n,hk,_=>by have:=n.size_pos;omega
 | k+1,n,hk,hg=>by
   intro σ0 b l σ hW hl
   have ih:=ewrite_le k
   obtain ⟨op,m,s,a,d,kids⟩:=n
   rw [Nd.size] at hk
   rw [Nd.wd] at hg
   obtain ⟨hg,hgs⟩:=hg
   have hm:=hg.num
   have o1:=hg.op1
   have o2:=hg.op2
   have hkl:=hg.kids
   rw [Nd.bytes] at hl ⊢
   rw [Nd.av_cs]
   rw [List.length_append,List.length_append] at hl
   have hops:=uintB_le (u:=op) (by omega)
   have hms:=uintB_le (u:=foldI m) (by have:=foldI_bd (n:=m) (by omega) (by omega);omega)
   have hfold:=foldI_bd (n:=m) (by omega) (by omega)
   have hw64:IntKind.wrap .u64 op=op:=by rw [IntKind.wrap_u64];omega
   have hklw:IntKind.wrap .u64 (kids.length:Int)=kids.length:=by rw [IntKind.wrap_u64];omega
   obtain ⟨F,hF⟩:∃ F,F=ACode.wp Tryz.prog c89_48:=⟨_,rfl⟩
   obtain ⟨H,hH⟩:∃ H,uintB op.toNat++restB op m s a d kids.length=H:=⟨_,rfl⟩
   have hHl:H.length=(uintB op.toNat).length+(restB op m s a d kids.length).length:=by rw [<-hH,List.length_append]
   have hlH:l.length+H.length+(Nd.bytess kids).length<=900000:=by omega
   rw [hH]
   obtain ⟨Q,hQ⟩:∃ Q,Q=RetQ [] fun v σ'=>v=AV.tuple []/\W σ0 b (l++(H++Nd.bytess kids)) σ':=⟨_,rfl⟩
   have fin:∀ (c:Nat) (σ1:ASt) (a1:AFr),c≠b->σ0 c=none->W (σ0.set c (some (.obj (Nd.cs op m s a d (kids.map Nd.av))))) b (l++H) σ1->(a1 0 = .ptr b 0/\a1 3 = .ptr c 0)->F Q a1 σ1:=by
    intro c σ1 a1 hcb hc0 hW1 hf
    have hc1:=hW1.role hcb
    rw [hF]
    simp (disch:=first|assumption|omega) only [go_sem,↓reduceIte,hf,hc1]
    obtain ⟨σ3,hd3,hW3,_⟩:=hW1.off hcb hc0
    refine wp_loop_by (fun (i:Nat) a1 s2=>i<=kids.length/\(a1 0 = .ptr b 0/\a1 56 = .sl .shr (kids.map Nd.av)/\a1 57 = .int .i64 kids.length/\a1 58 = .int .i64 i)/\W σ0 b (l++H++Nd.bytess (kids.take i)) s2) (fun i=>kids.length-i) 0 (Dr.drop hd3 ⟨Nat.zero_le _,?_,by rw [List.take_zero,Nd.bytess,List.append_nil];exact hW3⟩) ?_
    ·simp (disch:=first|assumption|omega) only [go_sem,reduceCtorEq,Nat.reduceEqDiff,↓reduceIte,hf]
    rintro i a2 s2 ⟨hi,hf2,hW2⟩
    by_cases hlt:i<kids.length
    ·have hlt':(i:Int)<kids.length:=by omega
     have hx : kids[i]? = some (kids[i]'hlt) := List.getElem?_eq_getElem hlt
     have hmem:=List.getElem_mem hlt
     obtain ⟨x, hxe⟩ : ∃ x, kids[i]'hlt = x := ⟨_, rfl⟩
     rw [hxe] at hx hmem
     have hmx:=Nd.get hx
     have hsz:=Nd.size_kid hmem
     have hih:=ih x (by omega) (Nd.wds_mem.1 hgs x hmem)
     have hbt:=bytess_take hx
     have hbl:=bytess_le kids (i+1)
     rw [hbt,List.length_append] at hbl
     obtain ⟨xo,xm,xs,xa,xb,xk⟩:=x
     rw [Nd.av_cs] at hmx hih
     generalize xk.map Nd.av=XK at *
     generalize kids.map Nd.av=KL at *
     generalize Nd.bytes (.mk xo xm xs xa xb xk)=XB at *
     simp (disch:=first|assumption|omega) only [go_sem,Nat.reduceEqDiff,Nat.reduceLeDiff,↓reduceIte,hf2,hlt',hmx]
     refine allocC_by fun e he=>?_
     obtain ⟨hWe,heb,he0⟩:=hW2.add he (r := .obj (Nd.cs xo xm xs xa xb XK))
     simp (disch:=first|assumption|omega) only [go_sem,reduceCtorEq,Nat.reduceEqDiff,Nat.reduceAdd,Nat.reduceLeDiff,↓reduceIte,hf2,ASt.set_set]
     refine (hih _ b _ _ hWe (by rw [List.length_append,List.length_append];omega)).mono ?_
     rintro v σ4 ⟨rfl,hW4⟩
     obtain ⟨σ5,hd5,hW5,_⟩:=hW4.off heb he0
     simp (disch:=first|assumption|omega) only [go_sem,Nat.reduceEqDiff,↓reduceIte,hf2]
     refine ⟨i+1,by dsimp only;omega,Dr.drop hd5 ⟨by omega,?_,by rw [hbt,← List.append_assoc];exact hW5⟩⟩
     simp (disch:=first|assumption|omega) only [go_sem,reduceCtorEq,Nat.reduceEqDiff,↓reduceIte,hf2]
    ·have hlt':¬ (i:Int)<kids.length:=by omega
     rw [List.take_of_length_le (by omega)] at hW2
     rw [hQ]
     simp (disch:=first|assumption|omega) only [go_sem,↓reduceIte,hf2,hlt']
     exact retC_by (Drop.refl _) (.refl _) ⟨rfl,by rw [<-List.append_assoc];exact hW2⟩
   have hadd:=fun (c:Nat) (hc:σ c=none) (r:Role)=>hW.add (r:=r) hc
   refine a89 (by simp) ?_
   rw [<-hQ]
   simp (disch:=first|assumption|omega) only [go_sem]
   refine boxC_by rfl fun c hc=>?_
   obtain ⟨hWc,hcb,hc0⟩:=hW.add hc (r := .obj (Nd.cs op m s a d (kids.map Nd.av)))
   have hkm:(kids.map Nd.av).length=kids.length:=by simp
   generalize kids.map Nd.av=KL at *
   simp (disch:=first|assumption|omega) only [go_sem,reduceCtorEq,Nat.reduceEqDiff,↓reduceIte,hw64]
   refine (wuint_ok _ b op l _ hWc (by omega) (by omega) (by omega)).mono ?_
   rintro v σ1 ⟨rfl,hW1⟩
   have hc1:=hW1.role hcb
   have hcd:0<=op/\op<=23:=by omega
   by_cases h134:op=1\/op=3\/op=4
   ·have hrb:restB op m s a d kids.length=uintB (foldI m).toNat:=if_pos h134
    rw [hrb] at hH hHl
    have fin:=fin c
    rcases h134 with h1|h1|h1
    all_goals
     simp (disch:=first|assumption|omega) only [go_sem,reduceCtorEq,Nat.reduceEqDiff,Int.reduceEq,↓reduceIte,hc1,h1,←hF]
     refine (wint_ok _ b m _ _ hW1 (by omega) (by omega) (by rw [List.length_append];omega)).mono ?_
     rintro v σ2 ⟨rfl,hW2⟩
     rw [List.append_assoc,hH] at hW2
     simp (disch:=first|assumption|omega) only [go_sem]
     refine fin _ _ hcb hc0 hW2 ?_
     simp (disch:=first|assumption|omega) only [go_sem,reduceCtorEq,Nat.reduceEqDiff,↓reduceIte]
   have g1:op≠1:=by omega
   have g3:op≠3:=by omega
   have g4:op≠4:=by omega
   by_cases h2:op=2
   ·have hrb:restB op m s a d kids.length=textB s:=by unfold restB;rw [if_neg h134,if_pos h2]
    rw [hrb] at hH hHl
    have hsl:=(hg.s2 h2).1
    simp (disch:=first|assumption|omega) only [go_sem,reduceCtorEq,Nat.reduceEqDiff,Int.reduceEq,↓reduceIte,hc1,h2,←hF]
    refine (wtext_ok _ b s _ _ hW1 (by rw [List.length_append];omega)).mono ?_
    rintro v σ2 ⟨rfl,hW2⟩
    rw [List.append_assoc,hH] at hW2
    simp (disch:=first|assumption|omega) only [go_sem]
    refine fin c _ _ hcb hc0 hW2 ?_
    simp (disch:=first|assumption|omega) only [go_sem,reduceCtorEq,Nat.reduceEqDiff,↓reduceIte]
   by_cases h5:op=5
   ·have hrb:restB op m s a d kids.length=rfB a:=by unfold restB;rw [if_neg h134,if_neg h2,if_pos h5]
    rw [hrb] at hH hHl
    simp (disch:=first|assumption|omega) only [go_sem,reduceCtorEq,Nat.reduceEqDiff,Nat.reduceAdd,Nat.reduceLeDiff,Int.reduceEq,↓reduceIte,hc1,h5,←hF]
    refine (putref_ok a (hg.ga (.inl h5)) _ b _ _ hW1 (by rw [List.length_append];omega)).mono ?_
    rintro v σ2 ⟨rfl,hW2⟩
    rw [List.append_assoc,hH] at hW2
    simp (disch:=first|assumption|omega) only [go_sem]
    refine fin c _ _ hcb hc0 hW2 ?_
    simp (disch:=first|assumption|omega) only [go_sem,reduceCtorEq,Nat.reduceEqDiff,↓reduceIte]
   by_cases h6:op=6
   ·have hrb:restB op m s a d kids.length=rfB a++rfB d:=by unfold restB;rw [if_neg h134,if_neg h2,if_neg h5,if_pos h6]
    rw [hrb] at hH hHl
    rw [List.length_append] at hHl
    simp (disch:=first|assumption|omega) only [go_sem,reduceCtorEq,Nat.reduceEqDiff,Nat.reduceAdd,Nat.reduceLeDiff,Int.reduceEq,↓reduceIte,hc1,h6,←hF]
    refine (putref_ok a (hg.ga (.inr h6)) _ b _ _ hW1 (by rw [List.length_append];omega)).mono ?_
    rintro v σ2 ⟨rfl,hW2⟩
    have hc2:=hW2.role hcb
    simp (disch:=first|assumption|omega) only [go_sem,reduceCtorEq,Nat.reduceEqDiff,Nat.reduceAdd,Nat.reduceLeDiff,↓reduceIte,hc2]
    refine (putref_ok d (hg.gb h6) _ b _ _ hW2 (by rw [List.length_append,List.length_append];omega)).mono ?_
    rintro v σ3 ⟨rfl,hW3⟩
    rw [List.append_assoc,List.append_assoc,hH] at hW3
    simp (disch:=first|assumption|omega) only [go_sem]
    refine fin c _ _ hcb hc0 hW3 ?_
    simp (disch:=first|assumption|omega) only [go_sem,reduceCtorEq,Nat.reduceEqDiff,↓reduceIte]
   by_cases h22:op=22
   ·have hrb:restB op m s a d kids.length=textB s++uintB kids.length:=by unfold restB;rw [if_neg h134,if_neg h2,if_neg h5,if_neg h6,if_pos h22]
    rw [hrb] at hH hHl
    rw [List.length_append] at hHl
    have hsl:=(hg.s22 h22).1
    have e1:((kids.length:Int)).toNat=kids.length:=by omega
    simp (disch:=first|assumption|omega) only [go_sem,reduceCtorEq,Nat.reduceEqDiff,Int.reduceEq,↓reduceIte,hc1,h22,←hF]
    refine (wtext_ok _ b s _ _ hW1 (by rw [List.length_append];omega)).mono ?_
    rintro v σ2 ⟨rfl,hW2⟩
    have hc2:=hW2.role hcb
    simp (disch:=first|assumption|omega) only [go_sem,reduceCtorEq,Nat.reduceEqDiff,↓reduceIte,hc2,hkm]
    refine (wuint_ok _ b kids.length _ _ hW2 (by omega) (by omega) (by rw [e1,List.length_append,List.length_append];omega)).mono ?_
    rintro v σ3 ⟨rfl,hW3⟩
    rw [e1,List.append_assoc,List.append_assoc,hH] at hW3
    simp (disch:=first|assumption|omega) only [go_sem]
    refine fin c _ _ hcb hc0 hW3 ?_
    simp (disch:=first|assumption|omega) only [go_sem,reduceCtorEq,Nat.reduceEqDiff,↓reduceIte]
   have hrb:restB op m s a d kids.length = []:=by unfold restB;rw [if_neg h134,if_neg h2,if_neg h5,if_neg h6,if_neg h22]
   rw [hrb,List.append_nil] at hH
   rw [hH] at hW1
   simp (disch:=first|assumption|omega) only [go_sem,Nat.reduceEqDiff,↓reduceIte,hc1,g1,g3,g4,h2,h5,h6,h22,←hF]
   refine fin c _ _ hcb hc0 hW1 ?_
   simp (disch:=first|assumption|omega) only [go_sem,reduceCtorEq,Nat.reduceEqDiff,↓reduceIte]
theorem ewrite_ok (n:Nd) (hg:n.wd) (σ0:ASt) (b:Nat) (l:List UInt8) (σ:ASt) (hW:W σ0 b l σ) (hl:l.length+n.bytes.length<=900000) :
  ACalls Tryz.prog 89 [.ptr b 0,n.av] σ fun v σ'=>v = .tuple []/\W σ0 b (l++n.bytes) σ':=ewrite_le n.size n (Nat.le_refl _) hg σ0 b l σ hW hl
end Go.A
namespace Go.A
open Go.Proofs
/-! 14: (*tabular/tile.Tile).Count -/
def c14_15:ACode := .seq (.ops [ oq 6 (.bin .lss (.t 5) (.v (.int .i64 32)))]) (.seq (.cond (.t 6) .skip (.exit 0)) (.seq (.block 1 (.seq (.ops [ oq 7 (.mv (.t 5)),oq 4 (.mv (.t 7))]) (.seq (.ops [ oq 8 (.mv (.t 0)),oq 9 (.mv (.t 4)),oq 10 (.nc (.t 8)),oq 11 (.iaa 32 13 (.t 10) (.t 9)),oq 12 (.ld (some 13) (.t 11)),oe 13 (.call 12 [(.t 12)]),oq 14 (.un .not (.t 13))]) (.cond (.t 14) (.ops [ oq 15 (.mv (.t 3)),oq 16 (.bin .add (.t 15) (.v (.int .i64 1))),oq 3 (.mv (.t 16))]) .skip)))) (.ops [ oq 17 (.bin .add (.t 5) (.v (.int .i64 1))),oq 5 (.mv (.t 17))])))
def c14_23:ACode := .seq (.ops [ oq 2 (.mv (.v (.int .i64 0)))]) (.seq (.ops [ oq 3 (.mv (.v (.int .i64 0)))]) (.seq (.seq (.ops [ oq 5 (.mv (.v (.int .i64 0)))]) (.block 0 (.loop c14_15))) (.seq (.ops [ oq 18 (.mv (.t 3)),oq 2 (.mv (.t 18))]) .ret)))
@[go_sem] def c14_15_wp:=wp_of c14_15.eq_1
@[go_sem] def c14_23_wp:=wp_of c14_23.eq_1
def c14:AFn:=⟨19,[.t 2],c14_23⟩
theorem c14_ok:compF Tryz.prog Tryz.f14=some c14:=by kernel_rfl
theorem a14 {args:List AV} {σ:ASt} {R:AV->ASt->Prop} (hl:args.length<=19) (h:c14_23.wp Tryz.prog (RetQ [.t 2] R) (init args) σ):ACalls Tryz.prog 14 args σ R:=acalls_of Tryz.func14 c14_ok hl h
/-! 16: (*tabular/tile.Tile).Layout -/
def c16_15:ACode := .seq (.ops [ oq 4 (.mv (.v (.int .i64 0)))]) (.seq (.seq (.ops [ oq 5 (.mv (.t 1)),oq 6 (.bin .geq (.t 5) (.v (.int .i64 1))),oq 7 (.mv (.t 6)),⟨some 8,some (7,true),.q (.mv (.t 1)),[]⟩,⟨some 9,some (7,true),.q (.bin .leq (.t 8) (.v (.int .i64 3))),[]⟩,oq 10 (.pick (.t 7) (.t 9) (.v (.bool false)))]) (.cond (.t 10) (.seq (.ops [ oq 11 (.mv (.t 1)),oq 4 (.mv (.t 11))]) .ret) .skip)) (.seq (.seq (.ops [ oq 12 (.mv (.t 0)),oe 13 (.call 14 [(.t 12)]),oq 14 (.bin .lss (.t 13) (.v (.int .i64 10)))]) (.cond (.t 14) (.seq (.ops [ oq 4 (.mv (.v (.int .i64 3)))]) .ret) .skip)) (.seq (.ops [ oq 4 (.mv (.v (.int .i64 1)))]) .ret)))
@[go_sem] def c16_15_wp:=wp_of c16_15.eq_1
def c16:AFn:=⟨15,[.t 4],c16_15⟩
theorem c16_ok:compF Tryz.prog Tryz.f16=some c16:=by kernel_rfl
theorem a16 {args:List AV} {σ:ASt} {R:AV->ASt->Prop} (hl:args.length<=15) (h:c16_15.wp Tryz.prog (RetQ [.t 4] R) (init args) σ):ACalls Tryz.prog 16 args σ R:=acalls_of Tryz.func16 c16_ok hl h
/-! 41: tabular/tile.put -/
def c41_17:ACode := .seq (.ops [ oe 3 (.box (.t 1))]) (.block 0 (.seq (.ops [ oq 11 (.ld (some 13) (.t 3)),oe 12 (.call 12 [(.t 11)]),oq 10 (.mv (.t 12))]) (.cond (.t 10) (.ops [ oq 13 (.mv (.t 0)),oe 14 (.call 40 [(.t 13),(.v (.int .u64 0))])]) (.seq (.ops [ oq 16 (.ld (some 13) (.t 3)),oe 17 (.call 11 [(.t 16)]),oq 15 (.mv (.t 17))]) (.cond (.t 15) (.seq (.ops [ oq 18 (.mv (.t 0)),oe 19 (.call 40 [(.t 18),(.v (.int .u64 2))])]) (.seq (.ops [ oq 20 (.mv (.t 0)),oq 21 (.fa 0 (.t 3)),oq 22 (.ld (some 12) (.t 21)),oe 23 (.call 89 [(.t 20),(.t 22)])]) (.ops [ oq 24 (.mv (.t 0)),oq 25 (.ld (some 13) (.t 3)),oe 26 (.call 31 [(.t 25)]),oe 27 (.call 71 [(.t 24),(.t 26)])]))) (.seq (.ops [ oq 4 (.mv (.t 0)),oe 5 (.call 40 [(.t 4),(.v (.int .u64 1))])]) (.ops [ oq 6 (.mv (.t 0)),oq 7 (.ld (some 13) (.t 3)),oe 8 (.call 31 [(.t 7)]),oe 9 (.call 71 [(.t 6),(.t 8)])])))))))
@[go_sem] def c41_17_wp:=wp_of c41_17.eq_1
def c41:AFn:=⟨28,[],c41_17⟩
theorem c41_ok:compF Tryz.prog Tryz.f41=some c41:=by kernel_rfl
theorem a41 {args:List AV} {σ:ASt} {R:AV->ASt->Prop} (hl:args.length<=28) (h:c41_17.wp Tryz.prog (RetQ [] R) (init args) σ):ACalls Tryz.prog 41 args σ R:=acalls_of Tryz.func41 c41_ok hl h
/-! 42: tabular/tile.place -/
def c42_9:ACode := .seq (.ops [ oq 4 (.mv (.v (.int .i64 0)))]) (.seq (.seq (.ops [ oq 5 (.mv (.t 0)),oq 6 (.bin .eql (.t 5) (.v (.int .i64 2)))]) (.cond (.t 6) (.seq (.ops [ oq 7 (.mv (.t 1)),oq 8 (.bin .rem (.t 7) (.v (.int .i64 8))),oq 9 (.bin .mul (.t 8) (.v (.int .i64 4))),oq 10 (.mv (.t 1)),oq 11 (.bin .quo (.t 10) (.v (.int .i64 8))),oq 12 (.bin .add (.t 9) (.t 11)),oq 4 (.mv (.t 12))]) .ret) .skip)) (.seq (.ops [ oq 13 (.mv (.t 1)),oq 4 (.mv (.t 13))]) .ret))
@[go_sem] def c42_9_wp:=wp_of c42_9.eq_1
def c42:AFn:=⟨14,[.t 4],c42_9⟩
theorem c42_ok:compF Tryz.prog Tryz.f42=some c42:=by kernel_rfl
theorem a42 {args:List AV} {σ:ASt} {R:AV->ASt->Prop} (hl:args.length<=14) (h:c42_9.wp Tryz.prog (RetQ [.t 4] R) (init args) σ):ACalls Tryz.prog 42 args σ R:=acalls_of Tryz.func42 c42_ok hl h
end Go.A
namespace Go.A
open Go.Proofs Go.Lib Go.Vint
def TC.bytes (c:TC):List UInt8:=if c.empty=true then uintB 0 else if c.isF=true then uintB 2++c.t.bytes++putB c.val else uintB 1++putB c.val
structure TileAt (T:List TC) (p:Nat) (σ:ASt):Prop where
 len:T.length=32
 ex:∃ cs,σ p=some (.obj cs)
 cell:∀ (i:Nat) (c:TC),T[i]? = some c->objC (i*13) (some 13) (kn (σ p))=some c.av
theorem TileAt.to {T:List TC} {p:Nat} {σ σ':ASt} (h:TileAt T p σ) (e:σ' p=σ p):TileAt T p σ':=⟨h.len,by rw [e];exact h.ex,fun i c hc=>by rw [e];exact h.cell i c hc⟩
def countT (T:List TC):Nat:=(T.filter fun c => !c.empty).length
theorem countT_step {T:List TC} {i:Nat} {c:TC} (h:T[i]? = some c):countT (T.take (i+1))=countT (T.take i)+if c.empty=true then 0 else 1:=by
 unfold countT
 rw [List.take_add_one,h,List.filter_append,List.length_append]
 cases hce:c.empty<;>simp [hce]
theorem countT_le (T:List TC):countT T<=T.length:=List.length_filter_le _ _
theorem tcount_ok {T:List TC} {p:Nat} {σ:ASt} (h:TileAt T p σ):ACalls Tryz.prog 14 [.ptr p 0] σ fun v σ'=>v = .int .i64 (countT T:Nat)/\σ'=σ:=by
 have hlen:=h.len
 refine a14 (by simp) ?_
 simp (disch:=first|assumption|omega|(simp only [List.length_append,List.length_cons,List.length_nil];omega)) only [go_sem,reduceCtorEq,Nat.reduceEqDiff,Nat.reduceAdd,Nat.reduceSub,Nat.reduceMul,Nat.reduceLeDiff,Int.reduceLT,Int.reduceLE,Int.reduceEq,↓reduceIte,Int.reduceNeg,Int.reduceAdd,Int.reduceSub,Int.reduceMul,true_imp_iff,forall_const,Nat.mul_one,Int.reduceToNat,Nat.reducePow,Int.reducePow,Bool.true_and,Bool.false_and,Bool.and_false]
 refine wp_loop_on (fun (i:Nat) a1 s2=>i<=32/\(a1 0 = .ptr p 0/\a1 3 = .int .i64 (countT (T.take i):Nat)/\a1 5 = .int .i64 i)/\s2=σ) (fun i=>32-i) 0 ⟨Nat.zero_le _,?_,rfl⟩ ?_
 ·simp (disch:=first|assumption|omega|(simp only [List.length_append,List.length_cons,List.length_nil];omega)) only [go_sem,reduceCtorEq,Nat.reduceEqDiff,Nat.reduceAdd,Nat.reduceSub,Nat.reduceMul,Nat.reduceLeDiff,Int.reduceLT,Int.reduceLE,Int.reduceEq,↓reduceIte,Int.reduceNeg,Int.reduceAdd,Int.reduceSub,Int.reduceMul,true_imp_iff,forall_const,Nat.mul_one,Int.reduceToNat,Nat.reducePow,Int.reducePow,Bool.true_and,Bool.false_and,Bool.and_false]
  simp [countT]
 rintro i a1 s2 ⟨hi,hf,rfl⟩
 by_cases hlt:i<32
 ·have hlt':(i:Int)<32:=by omega
  obtain ⟨c,hc⟩:∃ c,T[i]? = some c:=⟨_,List.getElem?_eq_getElem (by omega)⟩
  have hld:=h.cell i c hc
  have hst:=countT_step hc
  have hle:=countT_le (T.take i)
  rw [List.length_take] at hle
  have hE:=tcEmpty_ok c
  have hn0:((i:Nat):Int).toNat=i:=rfl
  generalize c.av=cv at *
  generalize c.empty=ce at *
  simp (disch:=first|assumption|omega|(simp only [List.length_append,List.length_cons,List.length_nil];omega)) only [go_sem,reduceCtorEq,Nat.reduceEqDiff,Nat.reduceAdd,Nat.reduceSub,Nat.reduceMul,Nat.reduceLeDiff,Int.reduceLT,Int.reduceLE,Int.reduceEq,↓reduceIte,Int.reduceNeg,Int.reduceAdd,Int.reduceSub,Int.reduceMul,true_imp_iff,forall_const,Nat.mul_one,Int.reduceToNat,Nat.reducePow,Int.reducePow,Bool.true_and,Bool.false_and,Bool.and_false,hf,hlt',hld,hn0]
  refine hE.use ?_
  cases ce with
  | true=>
    simp (disch:=first|assumption|omega|(simp only [List.length_append,List.length_cons,List.length_nil];omega)) only [go_sem,reduceCtorEq,Nat.reduceEqDiff,Nat.reduceAdd,Nat.reduceSub,Nat.reduceMul,Nat.reduceLeDiff,Int.reduceLT,Int.reduceLE,Int.reduceEq,↓reduceIte,Int.reduceNeg,Int.reduceAdd,Int.reduceSub,Int.reduceMul,true_imp_iff,forall_const,Nat.mul_one,Int.reduceToNat,Nat.reducePow,Int.reducePow,Bool.true_and,Bool.false_and,Bool.and_false,hf,hlt',hld,hn0]
    refine ⟨i+1,by omega,by omega,?_,rfl⟩
    rw [hst]
    simp (disch:=first|assumption|omega|(simp only [List.length_append,List.length_cons,List.length_nil];omega)) only [go_sem,reduceCtorEq,Nat.reduceEqDiff,Nat.reduceAdd,Nat.reduceSub,Nat.reduceMul,Nat.reduceLeDiff,Int.reduceLT,Int.reduceLE,Int.reduceEq,↓reduceIte,Int.reduceNeg,Int.reduceAdd,Int.reduceSub,Int.reduceMul,true_imp_iff,forall_const,Nat.mul_one,Int.reduceToNat,Nat.reducePow,Int.reducePow,Bool.true_and,Bool.false_and,Bool.and_false,hf]
  | false=>
    simp (disch:=first|assumption|omega|(simp only [List.length_append,List.length_cons,List.length_nil];omega)) only [go_sem,reduceCtorEq,Nat.reduceEqDiff,Nat.reduceAdd,Nat.reduceSub,Nat.reduceMul,Nat.reduceLeDiff,Int.reduceLT,Int.reduceLE,Int.reduceEq,↓reduceIte,Int.reduceNeg,Int.reduceAdd,Int.reduceSub,Int.reduceMul,true_imp_iff,forall_const,Nat.mul_one,Int.reduceToNat,Nat.reducePow,Int.reducePow,Bool.true_and,Bool.false_and,Bool.and_false,hf,hlt',hld,hn0]
    refine ⟨i+1,by omega,by omega,?_,rfl⟩
    rw [hst]
    simp (disch:=first|assumption|omega|(simp only [List.length_append,List.length_cons,List.length_nil];omega)) only [go_sem,reduceCtorEq,Nat.reduceEqDiff,Nat.reduceAdd,Nat.reduceSub,Nat.reduceMul,Nat.reduceLeDiff,Int.reduceLT,Int.reduceLE,Int.reduceEq,↓reduceIte,Int.reduceNeg,Int.reduceAdd,Int.reduceSub,Int.reduceMul,true_imp_iff,forall_const,Nat.mul_one,Int.reduceToNat,Nat.reducePow,Int.reducePow,Bool.true_and,Bool.false_and,Bool.and_false,hf]
 ·have hlt':¬ (i:Int)<32:=by omega
  have hT:T.take i=T:=List.take_of_length_le (by omega)
  rw [hT] at hf
  simp (disch:=first|assumption|omega|(simp only [List.length_append,List.length_cons,List.length_nil];omega)) only [go_sem,reduceCtorEq,Nat.reduceEqDiff,Nat.reduceAdd,Nat.reduceSub,Nat.reduceMul,Nat.reduceLeDiff,Int.reduceLT,Int.reduceLE,Int.reduceEq,↓reduceIte,Int.reduceNeg,Int.reduceAdd,Int.reduceSub,Int.reduceMul,true_imp_iff,forall_const,Nat.mul_one,Int.reduceToNat,Nat.reducePow,Int.reducePow,Bool.true_and,Bool.false_and,Bool.and_false,hf,hlt']
  exact retC_by (.refl _) (.refl _) ⟨rfl,rfl⟩
def layT (T:List TC) (policy:Int):Int:=if 1<=policy/\policy<=3 then policy else if countT T<10 then 3 else 1
theorem tlayout_ok {T:List TC} {p:Nat} {σ:ASt} (h:TileAt T p σ) (k:Int):ACalls Tryz.prog 16 [.ptr p 0,.int .i64 k] σ fun v σ'=>v = .int .i64 (layT T k)/\σ'=σ:=by
 have hC:=tcount_ok h
 have hle:=countT_le T
 unfold layT
 by_cases h1:1<=k
 ·by_cases h3:k<=3
  ·rw [if_pos ⟨h1,h3⟩]
   refine a16 (by simp) ?_
   simp (disch:=first|assumption|omega|(simp only [List.length_append,List.length_cons,List.length_nil];omega)) only [go_sem,reduceCtorEq,Nat.reduceEqDiff,Nat.reduceAdd,Nat.reduceSub,Nat.reduceMul,Nat.reduceLeDiff,Int.reduceLT,Int.reduceLE,Int.reduceEq,↓reduceIte,Int.reduceNeg,Int.reduceAdd,Int.reduceSub,Int.reduceMul,true_imp_iff,forall_const,Nat.mul_one,Int.reduceToNat,Nat.reducePow,Int.reducePow,Bool.true_and,Bool.false_and,Bool.and_false,h1,h3]
   exact retC_by (.refl _) (.refl _) ⟨rfl,rfl⟩
  ·rw [if_neg (fun hh=>h3 hh.2)]
   refine a16 (by simp) ?_
   simp (disch:=first|assumption|omega|(simp only [List.length_append,List.length_cons,List.length_nil];omega)) only [go_sem,reduceCtorEq,Nat.reduceEqDiff,Nat.reduceAdd,Nat.reduceSub,Nat.reduceMul,Nat.reduceLeDiff,Int.reduceLT,Int.reduceLE,Int.reduceEq,↓reduceIte,Int.reduceNeg,Int.reduceAdd,Int.reduceSub,Int.reduceMul,true_imp_iff,forall_const,Nat.mul_one,Int.reduceToNat,Nat.reducePow,Int.reducePow,Bool.true_and,Bool.false_and,Bool.and_false,h1,h3]
   refine hC.mono ?_
   rintro v σ' ⟨rfl,rfl⟩
   by_cases h10:countT T<10
   ·have h10':((countT T:Nat):Int)<10:=by omega
    rw [if_pos h10]
    simp (disch:=first|assumption|omega|(simp only [List.length_append,List.length_cons,List.length_nil];omega)) only [go_sem,reduceCtorEq,Nat.reduceEqDiff,Nat.reduceAdd,Nat.reduceSub,Nat.reduceMul,Nat.reduceLeDiff,Int.reduceLT,Int.reduceLE,Int.reduceEq,↓reduceIte,Int.reduceNeg,Int.reduceAdd,Int.reduceSub,Int.reduceMul,true_imp_iff,forall_const,Nat.mul_one,Int.reduceToNat,Nat.reducePow,Int.reducePow,Bool.true_and,Bool.false_and,Bool.and_false,h10']
    exact retC_by (.refl _) (.refl _) ⟨rfl,rfl⟩
   ·have h10':¬ ((countT T:Nat):Int)<10:=by omega
    rw [if_neg h10]
    simp (disch:=first|assumption|omega|(simp only [List.length_append,List.length_cons,List.length_nil];omega)) only [go_sem,reduceCtorEq,Nat.reduceEqDiff,Nat.reduceAdd,Nat.reduceSub,Nat.reduceMul,Nat.reduceLeDiff,Int.reduceLT,Int.reduceLE,Int.reduceEq,↓reduceIte,Int.reduceNeg,Int.reduceAdd,Int.reduceSub,Int.reduceMul,true_imp_iff,forall_const,Nat.mul_one,Int.reduceToNat,Nat.reducePow,Int.reducePow,Bool.true_and,Bool.false_and,Bool.and_false,h10']
    exact retC_by (.refl _) (.refl _) ⟨rfl,rfl⟩
 ·rw [if_neg (fun hh=>h1 hh.1)]
  refine a16 (by simp) ?_
  simp (disch:=first|assumption|omega|(simp only [List.length_append,List.length_cons,List.length_nil];omega)) only [go_sem,reduceCtorEq,Nat.reduceEqDiff,Nat.reduceAdd,Nat.reduceSub,Nat.reduceMul,Nat.reduceLeDiff,Int.reduceLT,Int.reduceLE,Int.reduceEq,↓reduceIte,Int.reduceNeg,Int.reduceAdd,Int.reduceSub,Int.reduceMul,true_imp_iff,forall_const,Nat.mul_one,Int.reduceToNat,Nat.reducePow,Int.reducePow,Bool.true_and,Bool.false_and,Bool.and_false,h1]
  refine hC.mono ?_
  rintro v σ' ⟨rfl,rfl⟩
  by_cases h10:countT T<10
  ·have h10':((countT T:Nat):Int)<10:=by omega
   rw [if_pos h10]
   simp (disch:=first|assumption|omega|(simp only [List.length_append,List.length_cons,List.length_nil];omega)) only [go_sem,reduceCtorEq,Nat.reduceEqDiff,Nat.reduceAdd,Nat.reduceSub,Nat.reduceMul,Nat.reduceLeDiff,Int.reduceLT,Int.reduceLE,Int.reduceEq,↓reduceIte,Int.reduceNeg,Int.reduceAdd,Int.reduceSub,Int.reduceMul,true_imp_iff,forall_const,Nat.mul_one,Int.reduceToNat,Nat.reducePow,Int.reducePow,Bool.true_and,Bool.false_and,Bool.and_false,h10']
   exact retC_by (.refl _) (.refl _) ⟨rfl,rfl⟩
  ·have h10':¬ ((countT T:Nat):Int)<10:=by omega
   rw [if_neg h10]
   simp (disch:=first|assumption|omega|(simp only [List.length_append,List.length_cons,List.length_nil];omega)) only [go_sem,reduceCtorEq,Nat.reduceEqDiff,Nat.reduceAdd,Nat.reduceSub,Nat.reduceMul,Nat.reduceLeDiff,Int.reduceLT,Int.reduceLE,Int.reduceEq,↓reduceIte,Int.reduceNeg,Int.reduceAdd,Int.reduceSub,Int.reduceMul,true_imp_iff,forall_const,Nat.mul_one,Int.reduceToNat,Nat.reducePow,Int.reducePow,Bool.true_and,Bool.false_and,Bool.and_false,h10']
   exact retC_by (.refl _) (.refl _) ⟨rfl,rfl⟩
def placeN (k:Int) (i:Nat):Nat:=if k=2 then i % 8*4+i / 8 else i
theorem place_ok (k:Int) (i:Nat) (hi:i<32):Pure Tryz.prog 42 [.int .i64 k,.int .i64 i] (.int .i64 (placeN k i:Nat)):=by
 intro σ
 unfold placeN
 by_cases h:k=2
 ·rw [if_pos h]
  have e1:((i:Nat):Int).tmod 8=((i % 8:Nat):Int):=by rw [Int.tmod_eq_emod_of_nonneg (by omega)];omega
  have e2:((i:Nat):Int).tdiv 8=((i / 8:Nat):Int):=by rw [Int.tdiv_eq_ediv_of_nonneg (by omega)];omega
  refine a42 (by simp) ?_
  simp (disch:=first|assumption|omega|(simp only [List.length_append,List.length_cons,List.length_nil];omega)) only [go_sem,reduceCtorEq,Nat.reduceEqDiff,Nat.reduceAdd,Nat.reduceSub,Nat.reduceMul,Nat.reduceLeDiff,Int.reduceLT,Int.reduceLE,Int.reduceEq,↓reduceIte,Int.reduceNeg,Int.reduceAdd,Int.reduceSub,Int.reduceMul,true_imp_iff,forall_const,Nat.mul_one,Int.reduceToNat,Nat.reducePow,Int.reducePow,Bool.true_and,Bool.false_and,Bool.and_false,h,e1,e2]
  exact retC_by (.refl _) (.refl _) ⟨by simp only [resV_one];simp,rfl⟩
 ·rw [if_neg h]
  refine a42 (by simp) ?_
  simp (disch:=first|assumption|omega|(simp only [List.length_append,List.length_cons,List.length_nil];omega)) only [go_sem,reduceCtorEq,Nat.reduceEqDiff,Nat.reduceAdd,Nat.reduceSub,Nat.reduceMul,Nat.reduceLeDiff,Int.reduceLT,Int.reduceLE,Int.reduceEq,↓reduceIte,Int.reduceNeg,Int.reduceAdd,Int.reduceSub,Int.reduceMul,true_imp_iff,forall_const,Nat.mul_one,Int.reduceToNat,Nat.reducePow,Int.reducePow,Bool.true_and,Bool.false_and,Bool.and_false,h]
  exact retC_by (.refl _) (.refl _) ⟨rfl,rfl⟩
theorem placeN_lt {k:Int} {i:Nat} (h:i<32):placeN k i<32:=by
 unfold placeN
 split<;>omega
structure TC.wfine (c:TC):Prop where
 wd:c.isF=true->c.t.wd
 nb:c.isF=true->c.t.bytes.length<=10000
 good:c.val.good
 short:∀ t,c.val = .text t->t.length<=2000
theorem tput_ok (σ0:ASt) (b:Nat) (c:TC) (hc:c.wfine) (l:List UInt8) (σ:ASt) (hW:W σ0 b l σ) (hl:l.length<=700000) :
  ACalls Tryz.prog 41 [.ptr b 0,c.av] σ fun v σ'=>v = .tuple []/\W σ0 b (l++c.bytes) σ':=by
 have hE:=tcEmpty_ok c
 have hF:=tcIsFormula_ok c
 have hV:=tcValue_ok c
 have u0:(uintB 0).length=1:=by rw [uintB_small (by decide)];rfl
 have u1:(uintB 1).length=1:=by rw [uintB_small (by decide)];rfl
 have u2:(uintB 2).length=1:=by rw [uintB_small (by decide)];rfl
 have hwr:=fun (h:c.isF=true) (σ0:ASt) (l:List UInt8) (σ:ASt) (hW:W σ0 b l σ) (hl:l.length<=800000)=>ewrite_ok c.t (hc.wd h) σ0 b l σ hW (by have:=hc.nb h;omega)
 have hnb:=hc.nb
 have hpv:=fun (σ0:ASt) (l:List UInt8) (σ:ASt) (hW:W σ0 b l σ) (hl:l.length<=900000)=>vput_ok σ0 b c.val l σ hW hc.good hc.short hl
 have hx:c.bytes=if c.empty=true then uintB 0 else if c.isF=true then uintB 2++c.t.bytes++putB c.val else uintB 1++putB c.val:=rfl
 rw [hx]
 clear hx hc
 generalize putB c.val=pv at *
 generalize c.val.av=va at *
 obtain ⟨⟨op,n,t,x,y,ks⟩,v⟩:=c
 generalize hem:TC.empty ⟨.mk op n t x y ks,v⟩=em at *
 generalize hq:TC.isF ⟨.mk op n t x y ks,v⟩=q at *
 dsimp only at hwr hnb ⊢
 rw [TC.av] at *
 rw [Nd.av_cs] at hwr
 generalize (Nd.mk op n t x y ks).bytes=NB at *
 generalize ks.map Nd.av=L at *
 generalize voAV v=vv at *
 clear hem hq
 refine a41 (by simp) ?_
 simp (disch:=first|assumption|omega|(simp only [List.length_append,List.length_cons,List.length_nil];omega)) only [go_sem,reduceCtorEq,Nat.reduceEqDiff,Nat.reduceAdd,Nat.reduceSub,Nat.reduceMul,Nat.reduceLeDiff,Int.reduceLT,Int.reduceLE,Int.reduceEq,↓reduceIte,Int.reduceNeg,Int.reduceAdd,Int.reduceSub,Int.reduceMul,true_imp_iff,forall_const,Nat.mul_one,Int.reduceToNat,Nat.reducePow,Int.reducePow,Bool.true_and,Bool.false_and,Bool.and_false]
 refine boxC_by rfl fun c hc=>?_
 obtain ⟨hW1,hcb,hc0⟩:=hW.add hc (r := .obj (cellCs op n t x y L vv))
 have hc1:=hW1.role hcb
 simp (disch:=first|assumption|omega|(simp only [List.length_append,List.length_cons,List.length_nil];omega)) only [go_sem,reduceCtorEq,Nat.reduceEqDiff,Nat.reduceAdd,Nat.reduceSub,Nat.reduceMul,Nat.reduceLeDiff,Int.reduceLT,Int.reduceLE,Int.reduceEq,↓reduceIte,Int.reduceNeg,Int.reduceAdd,Int.reduceSub,Int.reduceMul,true_imp_iff,forall_const,Nat.mul_one,Int.reduceToNat,Nat.reducePow,Int.reducePow,Bool.true_and,Bool.false_and,Bool.and_false,hc1]
 refine hE.use ?_
 cases em with
 | true=>
   simp (disch:=first|assumption|omega|(simp only [List.length_append,List.length_cons,List.length_nil];omega)) only [go_sem,reduceCtorEq,Nat.reduceEqDiff,Nat.reduceAdd,Nat.reduceSub,Nat.reduceMul,Nat.reduceLeDiff,Int.reduceLT,Int.reduceLE,Int.reduceEq,↓reduceIte,Int.reduceNeg,Int.reduceAdd,Int.reduceSub,Int.reduceMul,true_imp_iff,forall_const,Nat.mul_one,Int.reduceToNat,Nat.reducePow,Int.reducePow,Bool.true_and,Bool.false_and,Bool.and_false,hc1]
   refine (wuint_ok _ b 0 l _ hW1 (by omega) (by omega) (by rw [show (0:Int).toNat=0 from rfl];omega)).mono ?_
   rintro r σ1 ⟨rfl,hW2⟩
   obtain ⟨σ3,hd,hW4,_⟩:=hW2.off hcb hc0
   simp (disch:=first|assumption|omega|(simp only [List.length_append,List.length_cons,List.length_nil];omega)) only [go_sem,reduceCtorEq,Nat.reduceEqDiff,Nat.reduceAdd,Nat.reduceSub,Nat.reduceMul,Nat.reduceLeDiff,Int.reduceLT,Int.reduceLE,Int.reduceEq,↓reduceIte,Int.reduceNeg,Int.reduceAdd,Int.reduceSub,Int.reduceMul,true_imp_iff,forall_const,Nat.mul_one,Int.reduceToNat,Nat.reducePow,Int.reducePow,Bool.true_and,Bool.false_and,Bool.and_false]
   exact retC_by hd (.refl _) ⟨rfl,hW4⟩
 | false=>
   rw [if_neg (by simp)]
   simp (disch:=first|assumption|omega|(simp only [List.length_append,List.length_cons,List.length_nil];omega)) only [go_sem,reduceCtorEq,Nat.reduceEqDiff,Nat.reduceAdd,Nat.reduceSub,Nat.reduceMul,Nat.reduceLeDiff,Int.reduceLT,Int.reduceLE,Int.reduceEq,↓reduceIte,Int.reduceNeg,Int.reduceAdd,Int.reduceSub,Int.reduceMul,true_imp_iff,forall_const,Nat.mul_one,Int.reduceToNat,Nat.reducePow,Int.reducePow,Bool.true_and,Bool.false_and,Bool.and_false,hc1]
   refine hF.use ?_
   cases q with
   | true=>
     have hwr:=hwr rfl
     have hnb:=hnb rfl
     rw [if_pos rfl]
     simp (disch:=first|assumption|omega|(simp only [List.length_append,List.length_cons,List.length_nil];omega)) only [go_sem,reduceCtorEq,Nat.reduceEqDiff,Nat.reduceAdd,Nat.reduceSub,Nat.reduceMul,Nat.reduceLeDiff,Int.reduceLT,Int.reduceLE,Int.reduceEq,↓reduceIte,Int.reduceNeg,Int.reduceAdd,Int.reduceSub,Int.reduceMul,true_imp_iff,forall_const,Nat.mul_one,Int.reduceToNat,Nat.reducePow,Int.reducePow,Bool.true_and,Bool.false_and,Bool.and_false,hc1]
     refine (wuint_ok _ b 2 l _ hW1 (by omega) (by omega) (by rw [show (2:Int).toNat=2 from rfl];omega)).mono ?_
     rintro r σ1 ⟨rfl,hW2⟩
     have hc2:=hW2.role hcb
     rw [show (2:Int).toNat=2 from rfl] at hW2
     simp (disch:=first|assumption|omega|(simp only [List.length_append,List.length_cons,List.length_nil];omega)) only [go_sem,reduceCtorEq,Nat.reduceEqDiff,Nat.reduceAdd,Nat.reduceSub,Nat.reduceMul,Nat.reduceLeDiff,Int.reduceLT,Int.reduceLE,Int.reduceEq,↓reduceIte,Int.reduceNeg,Int.reduceAdd,Int.reduceSub,Int.reduceMul,true_imp_iff,forall_const,Nat.mul_one,Int.reduceToNat,Nat.reducePow,Int.reducePow,Bool.true_and,Bool.false_and,Bool.and_false,hc2]
     refine (hwr _ _ _ hW2 (by rw [List.length_append];omega)).mono ?_
     rintro r σ2 ⟨rfl,hW3⟩
     have hc3:=hW3.role hcb
     simp (disch:=first|assumption|omega|(simp only [List.length_append,List.length_cons,List.length_nil];omega)) only [go_sem,reduceCtorEq,Nat.reduceEqDiff,Nat.reduceAdd,Nat.reduceSub,Nat.reduceMul,Nat.reduceLeDiff,Int.reduceLT,Int.reduceLE,Int.reduceEq,↓reduceIte,Int.reduceNeg,Int.reduceAdd,Int.reduceSub,Int.reduceMul,true_imp_iff,forall_const,Nat.mul_one,Int.reduceToNat,Nat.reducePow,Int.reducePow,Bool.true_and,Bool.false_and,Bool.and_false,hc3]
     refine hV.use ?_
     simp (disch:=first|assumption|omega|(simp only [List.length_append,List.length_cons,List.length_nil];omega)) only [go_sem,reduceCtorEq,Nat.reduceEqDiff,Nat.reduceAdd,Nat.reduceSub,Nat.reduceMul,Nat.reduceLeDiff,Int.reduceLT,Int.reduceLE,Int.reduceEq,↓reduceIte,Int.reduceNeg,Int.reduceAdd,Int.reduceSub,Int.reduceMul,true_imp_iff,forall_const,Nat.mul_one,Int.reduceToNat,Nat.reducePow,Int.reducePow,Bool.true_and,Bool.false_and,Bool.and_false,hc3]
     refine (hpv _ _ _ hW3 (by rw [List.length_append,List.length_append];omega)).mono ?_
     rintro r σ3 ⟨rfl,hW4⟩
     obtain ⟨σ4,hd,hW5,_⟩:=hW4.off hcb hc0
     rw [List.append_assoc,List.append_assoc] at hW5
     simp (disch:=first|assumption|omega|(simp only [List.length_append,List.length_cons,List.length_nil];omega)) only [go_sem,reduceCtorEq,Nat.reduceEqDiff,Nat.reduceAdd,Nat.reduceSub,Nat.reduceMul,Nat.reduceLeDiff,Int.reduceLT,Int.reduceLE,Int.reduceEq,↓reduceIte,Int.reduceNeg,Int.reduceAdd,Int.reduceSub,Int.reduceMul,true_imp_iff,forall_const,Nat.mul_one,Int.reduceToNat,Nat.reducePow,Int.reducePow,Bool.true_and,Bool.false_and,Bool.and_false]
     exact retC_by hd (.refl _) ⟨rfl,by rw [List.append_assoc];exact hW5⟩
   | false=>
     rw [if_neg (by simp)]
     simp (disch:=first|assumption|omega|(simp only [List.length_append,List.length_cons,List.length_nil];omega)) only [go_sem,reduceCtorEq,Nat.reduceEqDiff,Nat.reduceAdd,Nat.reduceSub,Nat.reduceMul,Nat.reduceLeDiff,Int.reduceLT,Int.reduceLE,Int.reduceEq,↓reduceIte,Int.reduceNeg,Int.reduceAdd,Int.reduceSub,Int.reduceMul,true_imp_iff,forall_const,Nat.mul_one,Int.reduceToNat,Nat.reducePow,Int.reducePow,Bool.true_and,Bool.false_and,Bool.and_false,hc1]
     refine (wuint_ok _ b 1 l _ hW1 (by omega) (by omega) (by rw [show (1:Int).toNat=1 from rfl];omega)).mono ?_
     rintro r σ1 ⟨rfl,hW2⟩
     have hc2:=hW2.role hcb
     rw [show (1:Int).toNat=1 from rfl] at hW2
     simp (disch:=first|assumption|omega|(simp only [List.length_append,List.length_cons,List.length_nil];omega)) only [go_sem,reduceCtorEq,Nat.reduceEqDiff,Nat.reduceAdd,Nat.reduceSub,Nat.reduceMul,Nat.reduceLeDiff,Int.reduceLT,Int.reduceLE,Int.reduceEq,↓reduceIte,Int.reduceNeg,Int.reduceAdd,Int.reduceSub,Int.reduceMul,true_imp_iff,forall_const,Nat.mul_one,Int.reduceToNat,Nat.reducePow,Int.reducePow,Bool.true_and,Bool.false_and,Bool.and_false,hc2]
     refine hV.use ?_
     simp (disch:=first|assumption|omega|(simp only [List.length_append,List.length_cons,List.length_nil];omega)) only [go_sem,reduceCtorEq,Nat.reduceEqDiff,Nat.reduceAdd,Nat.reduceSub,Nat.reduceMul,Nat.reduceLeDiff,Int.reduceLT,Int.reduceLE,Int.reduceEq,↓reduceIte,Int.reduceNeg,Int.reduceAdd,Int.reduceSub,Int.reduceMul,true_imp_iff,forall_const,Nat.mul_one,Int.reduceToNat,Nat.reducePow,Int.reducePow,Bool.true_and,Bool.false_and,Bool.and_false,hc2]
     refine (hpv _ _ _ hW2 (by rw [List.length_append];omega)).mono ?_
     rintro r σ2 ⟨rfl,hW3⟩
     obtain ⟨σ4,hd,hW5,_⟩:=hW3.off hcb hc0
     rw [List.append_assoc] at hW5
     simp (disch:=first|assumption|omega|(simp only [List.length_append,List.length_cons,List.length_nil];omega)) only [go_sem,reduceCtorEq,Nat.reduceEqDiff,Nat.reduceAdd,Nat.reduceSub,Nat.reduceMul,Nat.reduceLeDiff,Int.reduceLT,Int.reduceLE,Int.reduceEq,↓reduceIte,Int.reduceNeg,Int.reduceAdd,Int.reduceSub,Int.reduceMul,true_imp_iff,forall_const,Nat.mul_one,Int.reduceToNat,Nat.reducePow,Int.reducePow,Bool.true_and,Bool.false_and,Bool.and_false]
     exact retC_by hd (.refl _) ⟨rfl,hW5⟩
end Go.A
namespace Go.A
open Go.Proofs
/-! 185: tabular/expr.kids -/
/-! 186: tabular/expr.value -/
/-! 187: tabular/expr.getRef -/
/-! 188: tabular/expr.name -/
end Go.A
namespace Go.A
open Go.Proofs Go.Lib Go.Vint
def zNd:Nd := .mk 0 0 [] .zero .zero []
end Go.A
namespace Go.A
open Go.Proofs
/-! 146: tabular/expr.read -/
end Go.A
namespace Go.A
open Go.Proofs
/-! 96: tabular/expr.Read -/
end Go.A
namespace Go.A
open Go.Proofs Go.Lib Go.Vint
theorem W.new {σ:ASt} {b:Nat} (hb:σ b=none):W σ b [] (σ.set b (some (.obj [.sl .full []]))):=⟨.full,.inl ⟨rfl,rfl,rfl⟩⟩
theorem W.at {σ0 σ:ASt} {b x:Nat} {l:List UInt8} {r:Role} (h:W σ0 b l σ) (hx:x≠b) (h0:σ0 x=some r):σ x=some r:=by
 obtain ⟨k,hg⟩:=h
 exact hg.at (by rw [ASt.set_ne hx];exact h0)
theorem W.drop {σ0 σ:ASt} {b:Nat} {l:List UInt8} (h:W σ0 b l σ) (hb:σ0 b=none):Drop σ σ0:=by
 obtain ⟨k,hg⟩:=h
 exact Drop.trans hg.drop (Drop.set hb)
end Go.A
namespace Go.A
open Go.Proofs
/-! 20: (*tabular/tile.Tile).Write -/
def c20_14:ACode := .seq (.ops [ oq 17 (.bin .lss (.t 16) (.v (.int .i64 32)))]) (.seq (.cond (.t 17) .skip (.exit 0)) (.seq (.block 1 (.seq (.ops [ oq 18 (.mv (.t 16)),oq 6 (.mv (.t 18))]) (.ops [ oq 19 (.mv (.t 0)),oq 20 (.mv (.t 1)),oq 21 (.mv (.t 6)),oq 23 (.nc (.t 19)),oe 22 (.call 42 [(.t 20),(.t 21)]),oq 24 (.iaa 32 13 (.t 23) (.t 22)),oq 25 (.ld (some 13) (.t 24)),oe 26 (.call 41 [(.t 5),(.t 25)])]))) (.ops [ oq 27 (.bin .add (.t 16) (.v (.int .i64 1))),oq 16 (.mv (.t 27))])))
def c20_37:ACode := .seq (.ops [ oq 30 (.bin .lss (.t 29) (.v (.int .i64 32)))]) (.seq (.cond (.t 30) .skip (.exit 2)) (.seq (.block 3 (.seq (.ops [ oq 31 (.mv (.t 29)),oq 8 (.mv (.t 31))]) (.seq (.ops [ oq 32 (.mv (.t 0)),oq 33 (.mv (.t 8)),oq 34 (.nc (.t 32)),oq 35 (.iaa 32 13 (.t 34) (.t 33)),oq 36 (.ld (some 13) (.t 35)),oe 37 (.call 12 [(.t 36)]),oq 38 (.un .not (.t 37))]) (.cond (.t 38) (.ops [ oq 39 (.mv (.t 7)),oq 40 (.mv (.t 8)),oq 41 (.conv .u64 (.t 40)),oq 42 (.bsl 1 [(.t 41)]),oe 43 (.app 94 1 8 [(.int .u64 0)] (.t 39) (.t 42)),oq 7 (.mv (.t 43))]) .skip)))) (.ops [ oq 44 (.bin .add (.t 29) (.v (.int .i64 1))),oq 29 (.mv (.t 44))])))
def c20_52:ACode := .seq (.ops [ oq 50 (.bin .lss (.t 49) (.t 48))]) (.seq (.cond (.t 50) .skip (.exit 4)) (.seq (.block 5 (.seq (.ops [ oq 51 (.ia 1 (.t 47) (.t 49)),oq 52 (.ld none (.t 51)),oq 10 (.mv (.t 52))]) (.ops [ oq 53 (.mv (.t 0)),oq 54 (.mv (.t 10)),oq 55 (.nc (.t 53)),oq 56 (.iaa 32 13 (.t 55) (.t 54)),oq 57 (.ld (some 13) (.t 56)),oe 58 (.call 41 [(.t 5),(.t 57)])]))) (.ops [ oq 59 (.bin .add (.t 49) (.v (.int .i64 1))),oq 49 (.mv (.t 59))])))
def c20_65:ACode := .seq (.ops [ oq 4 (.mv (.v (.str [])))]) (.seq (.ops [ oe 5 (.alloc [(.sl .full [])])]) (.seq (.ops [ oq 11 (.mv (.t 1)),oq 12 (.conv .u64 (.t 11)),oe 13 (.call 40 [(.t 5),(.t 12)])]) (.seq (.seq (.ops [ oq 14 (.mv (.t 1)),oq 15 (.bin .neq (.t 14) (.v (.int .i64 3)))]) (.cond (.t 15) (.seq (.seq (.ops [ oq 16 (.mv (.v (.int .i64 0)))]) (.block 0 (.loop c20_14))) (.seq (.ops [ oe 28 (.call 43 [(.t 5)]),oq 4 (.mv (.t 28))]) .ret)) .skip)) (.seq (.ops [ oq 7 (.mv (.v (.sl .full [])))]) (.seq (.seq (.ops [ oq 29 (.mv (.v (.int .i64 0)))]) (.block 2 (.loop c20_37))) (.seq (.ops [ oq 45 (.mv (.t 7)),oe 46 (.call 44 [(.t 5),(.t 45)])]) (.seq (.seq (.ops [ oq 47 (.mv (.t 7)),oq 48 (.len (.t 47)),oq 49 (.mv (.v (.int .i64 0)))]) (.block 4 (.loop c20_52))) (.seq (.ops [ oe 60 (.call 43 [(.t 5)]),oq 4 (.mv (.t 60))]) .ret))))))))
@[go_sem] def c20_14_wp:=wp_of c20_14.eq_1
@[go_sem] def c20_37_wp:=wp_of c20_37.eq_1
@[go_sem] def c20_52_wp:=wp_of c20_52.eq_1
@[go_sem] def c20_65_wp:=wp_of c20_65.eq_1
def c20:AFn:=⟨61,[.t 4],c20_65⟩
theorem c20_ok:compF Tryz.prog Tryz.f20=some c20:=by kernel_rfl
theorem a20 {args:List AV} {σ:ASt} {R:AV->ASt->Prop} (hl:args.length<=61) (h:c20_65.wp Tryz.prog (RetQ [.t 4] R) (init args) σ):ACalls Tryz.prog 20 args σ R:=acalls_of Tryz.func20 c20_ok hl h
end Go.A
namespace Go.A
open Go.Proofs Go.Lib Go.Vint
theorem putB_le (v:PV) (hg:v.good) (ht:∀ t,v = .text t->t.length<=2000):(putB v).length<=2020:=by
 obtain ⟨k,y,z,hp,hB,hy,hz,hk⟩:=put_pl v hg ht
 have hu:=uintB_le (u:=k) (by omega)
 have hf:=foldI_bd (n:=y) (by omega) (by omega)
 have hu2:=uintB_le (u:=foldI y) (by omega)
 have hu3:=uintB_le (u:=(z.length:Int)) (by omega)
 rw [Int.toNat_natCast] at hu3
 rw [hB]
 unfold plB
 split
 ·rw [List.length_append];omega
 ·split
  ·unfold textB
   rw [List.length_append,List.length_append];omega
  ·rw [List.length_append,List.length_nil];omega
theorem TC.bytes_le {c:TC} (h:c.wfine):c.bytes.length<=12500:=by
 have u0:(uintB 0).length=1:=by rw [uintB_small (by decide)];rfl
 have u1:(uintB 1).length=1:=by rw [uintB_small (by decide)];rfl
 have u2:(uintB 2).length=1:=by rw [uintB_small (by decide)];rfl
 have hp:=putB_le c.val h.good h.short
 unfold TC.bytes
 split
 ·omega
 ·split
  ·rename_i hf
   have:=h.nb hf
   rw [List.length_append,List.length_append];omega
  ·rw [List.length_append];omega
def cellB (T:List TC) (i:Nat):List UInt8:=((T[i]?).map TC.bytes).getD []
theorem cellB_at {T:List TC} {i:Nat} {c:TC} (h:T[i]? = some c):cellB T i=c.bytes:=by unfold cellB;rw [h];rfl
theorem cellB_le {T:List TC} (h:∀ c∈T,c.wfine) (i:Nat):(cellB T i).length<=12500:=by
 unfold cellB
 cases hc:T[i]? with
 | none=>simp
 | some c=>exact TC.bytes_le (h c (List.mem_of_getElem? hc))
def wrT (T:List TC) (k:Int) (n:Nat):List UInt8:=(List.range n).flatMap fun j=>cellB T (placeN k j)
theorem wrT_succ {T:List TC} {k:Int} (n:Nat):wrT T k (n+1)=wrT T k n++cellB T (placeN k n):=by
 unfold wrT
 rw [List.range_succ,List.flatMap_append]
 simp
theorem wrT_le {T:List TC} (h:∀ c∈T,c.wfine) (k:Int) (n:Nat):(wrT T k n).length<=12500*n:=by
 induction n with
 | zero=>simp [wrT]
 | succ n ih=>
   rw [wrT_succ,List.length_append]
   have:=cellB_le h (placeN k n)
   omega
def hasT (T:List TC) (j:Nat):Bool:=((T[j]?).map fun c => !c.empty).getD false
def fullN (T:List TC) (n:Nat):List Nat:=(List.range n).filter (hasT T)
theorem fullN_succ {T:List TC} {n:Nat} {c:TC} (h:T[n]? = some c):fullN T (n+1)=fullN T n++if c.empty=true then [] else [n]:=by
 unfold fullN
 have e:hasT T n = !c.empty:=by unfold hasT;rw [h];rfl
 rw [List.range_succ,List.filter_append]
 congr 1
 cases hc:c.empty<;>simp [e,hc]
theorem fullN_le (T:List TC) (n:Nat):(fullN T n).length<=n:=by
 have:=List.length_filter_le (hasT T) (List.range n)
 rw [List.length_range] at this
 exact this
theorem fullN_lt {T:List TC} {n j:Nat} (h:j∈fullN T n):j<n:=by
 unfold fullN at h
 exact List.mem_range.1 (List.mem_filter.1 h).1
def natsI (l:List Nat):List Int:=l.map fun (n:Nat)=>(n:Int)
theorem natsI_u64 (l:List Nat):(natsI l).map (AV.int .u64)=l.map fun (n:Nat)=>AV.int .u64 (n:Int):=by unfold natsI;rw [List.map_map];rfl
theorem fullN_rises (T:List TC) (n:Nat) (hn:n<=32):Rises (natsI (fullN T n)):=by
 have hp:(fullN T n).Pairwise (· < ·):=List.Pairwise.filter _ List.pairwise_lt_range
 constructor
 ·intro x hx
  unfold natsI at hx
  obtain ⟨j,hj,rfl⟩:=List.mem_map.1 hx
  have:=fullN_lt hj
  omega
 ·intro k x y hx hy
  unfold natsI at hx hy
  rw [List.getElem?_map] at hx hy
  generalize fullN T n=l at *
  cases h1:l[k]? with
  | none=>rw [h1] at hx;cases hx
  | some u=>
    cases h2:l[k+1]? with
    | none=>rw [h2] at hy;cases hy
    | some v=>
      rw [h1] at hx
      rw [h2] at hy
      simp only [Option.map_some,Option.some.injEq] at hx hy
      obtain ⟨hk1,e1⟩:=List.getElem?_eq_some_iff.1 h1
      obtain ⟨hk2,e2⟩:=List.getElem?_eq_some_iff.1 h2
      have:=List.pairwise_iff_getElem.1 hp k (k+1) hk1 hk2 (by omega)
      rw [e1,e2] at this
      omega
def spB (T:List TC) (l:List Nat):List UInt8:=l.flatMap (cellB T)
theorem spB_step {T:List TC} {l:List Nat} {i j:Nat} (h:l[i]? = some j):spB T (l.take (i+1))=spB T (l.take i)++cellB T j:=by
 unfold spB
 rw [List.take_add_one,h,List.flatMap_append]
 simp
theorem spB_le {T:List TC} (h:∀ c∈T,c.wfine) (l:List Nat):(spB T l).length<=12500*l.length:=by
 induction l with
 | nil=>simp [spB]
 | cons j l ih=>
   have:=cellB_le h j
   unfold spB at ih ⊢
   rw [List.flatMap_cons,List.length_append,List.length_cons]
   omega
def tileB (T:List TC) (k:Int):List UInt8:=if k=3 then uintB 3++risingB (natsI (fullN T 32))++spB T (fullN T 32) else uintB k.toNat++wrT T k 32
theorem W.grown {σ0 σ1 s2:ASt} {w:Nat} {l:List UInt8} {q:SK} {n s:Nat} (hW:W σ0 w l σ1) (hg:Grown σ1 s2 q n s) (hw:σ0 w=none):∃ σb,W σb w l s2/\Drop σb σ0/\σb w=none/\∀ x r,σ0 x=some r->σb x=some r:=by
 rcases hg with ⟨_,_,rfl⟩|⟨t,T,_,hn,rfl⟩
 ·exact ⟨σ0,hW,Drop.refl _,hw,fun _ _ h=>h⟩
 ·obtain ⟨h1,h2,h3⟩:=hW.add hn (r := .tok (n*s))
  exact ⟨_,h1,Drop.set h3,by rw [ASt.set_ne (Ne.symm h2)];exact hw,fun x r hx=>by rw [ASt.set_ne (by rintro rfl;rw [h3] at hx;cases hx)];exact hx⟩
theorem twrite_ok {T:List TC} {p:Nat} {σ:ASt} (h:TileAt T p σ) (hw:∀ c∈T,c.wfine) (k:Int) (hk:1<=k/\k<=3) :
  ACalls Tryz.prog 20 [.ptr p 0,.int .i64 k] σ fun v σ'=>v = .str (tileB T k)/\σ'=σ:=by
 obtain ⟨cs,hp⟩:=h.ex
 have hlen:=h.len
 have hwk:IntKind.wrap .u64 k=k:=by rw [IntKind.wrap_u64,Int.emod_eq_of_lt (by omega) (by omega)]
 have hu:=uintB_le (u:=k) (by omega)
 refine a20 (by simp) ?_
 simp (disch:=first|assumption|omega|(simp only [List.length_append,List.length_cons,List.length_nil];omega)) only [go_sem,reduceCtorEq,Nat.reduceEqDiff,Nat.reduceAdd,Nat.reduceSub,Nat.reduceMul,Nat.reduceLeDiff,Int.reduceLT,Int.reduceLE,Int.reduceEq,↓reduceIte,Int.reduceNeg,Int.reduceAdd,Int.reduceSub,Int.reduceMul,true_imp_iff,forall_const,Nat.mul_one,Int.reduceToNat,Nat.reducePow,Int.reducePow,Bool.true_and,Bool.false_and,Bool.and_false]
 refine allocC_by fun w hwn=>?_
 have hpw:p≠w:=by rintro rfl;rw [hp] at hwn;cases hwn
 have hW0:=W.new hwn
 simp (disch:=first|assumption|omega|(simp only [List.length_append,List.length_cons,List.length_nil];omega)) only [go_sem,reduceCtorEq,Nat.reduceEqDiff,Nat.reduceAdd,Nat.reduceSub,Nat.reduceMul,Nat.reduceLeDiff,Int.reduceLT,Int.reduceLE,Int.reduceEq,↓reduceIte,Int.reduceNeg,Int.reduceAdd,Int.reduceSub,Int.reduceMul,true_imp_iff,forall_const,Nat.mul_one,Int.reduceToNat,Nat.reducePow,Int.reducePow,Bool.true_and,Bool.false_and,Bool.and_false,hwk]
 refine (wuint_ok _ w k [] _ hW0 (by omega) (by omega) (by rw [List.length_nil];omega)).mono ?_
 rintro r σ1 ⟨rfl,hW1⟩
 rw [List.nil_append] at hW1
 by_cases h3:k=3
 ·subst h3
  have hB:tileB T 3=uintB 3++risingB (natsI (fullN T 32))++spB T (fullN T 32):=if_pos rfl
  rw [hB]
  rw [show (3:Int).toNat=3 from rfl] at hW1 hu
  simp (disch:=first|assumption|omega|(simp only [List.length_append,List.length_cons,List.length_nil];omega)) only [go_sem,reduceCtorEq,Nat.reduceEqDiff,Nat.reduceAdd,Nat.reduceSub,Nat.reduceMul,Nat.reduceLeDiff,Int.reduceLT,Int.reduceLE,Int.reduceEq,↓reduceIte,Int.reduceNeg,Int.reduceAdd,Int.reduceSub,Int.reduceMul,true_imp_iff,forall_const,Nat.mul_one,Int.reduceToNat,Nat.reducePow,Int.reducePow,Bool.true_and,Bool.false_and,Bool.and_false]
  refine wp_loop_on (fun (i:Nat) a1 s2=>i<=32/\∃ q,(a1 0 = .ptr p 0/\a1 5 = .ptr w 0/\a1 7 = .sl q ((fullN T i).map fun (n:Nat)=>AV.int .u64 (n:Int))/\a1 29 = .int .i64 i)/\Grown σ1 s2 q ((fullN T i).map fun (n:Nat)=>AV.int .u64 (n:Int)).length 1) (fun i=>32-i) 0 ⟨Nat.zero_le _,.full,?_,.inl ⟨rfl,rfl,rfl⟩⟩ ?_
  ·simp (disch:=first|assumption|omega|(simp only [List.length_append,List.length_cons,List.length_nil];omega)) only [go_sem,reduceCtorEq,Nat.reduceEqDiff,Nat.reduceAdd,Nat.reduceSub,Nat.reduceMul,Nat.reduceLeDiff,Int.reduceLT,Int.reduceLE,Int.reduceEq,↓reduceIte,Int.reduceNeg,Int.reduceAdd,Int.reduceSub,Int.reduceMul,true_imp_iff,forall_const,Nat.mul_one,Int.reduceToNat,Nat.reducePow,Int.reducePow,Bool.true_and,Bool.false_and,Bool.and_false]
   all_goals rfl
  rintro i a1 s2 ⟨hi,q,hf,hg⟩
  by_cases hlt:i<32
  ·have hlt':(i:Int)<32:=by omega
   obtain ⟨c,hc⟩:∃ c,T[i]? = some c:=⟨_,List.getElem?_eq_getElem (by omega)⟩
   have hld:=(h.to (σ':=s2) ((hg.at (W.at hW1 hpw hp)).trans hp.symm)).cell i c hc
   have hst:=fullN_succ hc
   have hle:=fullN_le T i
   have hE:=tcEmpty_ok c
   have hn0:((i:Nat):Int).toNat=i:=rfl
   have hwi:IntKind.wrap .u64 (i:Int)=i:=by rw [IntKind.wrap_u64,Int.emod_eq_of_lt (by omega) (by omega)]
   generalize c.av=cv at *
   generalize c.empty=ce at *
   simp (disch:=first|assumption|omega|(simp only [List.length_append,List.length_cons,List.length_nil];omega)) only [go_sem,reduceCtorEq,Nat.reduceEqDiff,Nat.reduceAdd,Nat.reduceSub,Nat.reduceMul,Nat.reduceLeDiff,Int.reduceLT,Int.reduceLE,Int.reduceEq,↓reduceIte,Int.reduceNeg,Int.reduceAdd,Int.reduceSub,Int.reduceMul,true_imp_iff,forall_const,Nat.mul_one,Int.reduceToNat,Nat.reducePow,Int.reducePow,Bool.true_and,Bool.false_and,Bool.and_false,hf,hlt',hld,hn0]
   refine hE.use ?_
   cases ce with
   | true=>
     have hst:fullN T (i+1)=fullN T i:=by rw [hst];simp
     simp (disch:=first|assumption|omega|(simp only [List.length_append,List.length_cons,List.length_nil];omega)) only [go_sem,reduceCtorEq,Nat.reduceEqDiff,Nat.reduceAdd,Nat.reduceSub,Nat.reduceMul,Nat.reduceLeDiff,Int.reduceLT,Int.reduceLE,Int.reduceEq,↓reduceIte,Int.reduceNeg,Int.reduceAdd,Int.reduceSub,Int.reduceMul,true_imp_iff,forall_const,Nat.mul_one,Int.reduceToNat,Nat.reducePow,Int.reducePow,Bool.true_and,Bool.false_and,Bool.and_false,hf,hlt',hld,hn0]
     refine ⟨i+1,by omega,by omega,q,?_,by rw [hst];simpa using hg⟩
     rw [hst]
     simp (disch:=first|assumption|omega|(simp only [List.length_append,List.length_cons,List.length_nil];omega)) only [go_sem,reduceCtorEq,Nat.reduceEqDiff,Nat.reduceAdd,Nat.reduceSub,Nat.reduceMul,Nat.reduceLeDiff,Int.reduceLT,Int.reduceLE,Int.reduceEq,↓reduceIte,Int.reduceNeg,Int.reduceAdd,Int.reduceSub,Int.reduceMul,true_imp_iff,forall_const,Nat.mul_one,Int.reduceToNat,Nat.reducePow,Int.reducePow,Bool.true_and,Bool.false_and,Bool.and_false,hf]
     all_goals simp
   | false=>
     have hst:fullN T (i+1)=fullN T i ++ [i]:=by rw [hst];simp
     simp (disch:=first|assumption|omega|(simp only [List.length_append,List.length_cons,List.length_nil];omega)) only [go_sem,reduceCtorEq,Nat.reduceEqDiff,Nat.reduceAdd,Nat.reduceSub,Nat.reduceMul,Nat.reduceLeDiff,Int.reduceLT,Int.reduceLE,Int.reduceEq,↓reduceIte,Int.reduceNeg,Int.reduceAdd,Int.reduceSub,Int.reduceMul,true_imp_iff,forall_const,Nat.mul_one,Int.reduceToNat,Nat.reducePow,Int.reducePow,Bool.true_and,Bool.false_and,Bool.and_false,hf,hlt',hld,hn0,hwi]
     refine appC_by hg rfl rfl (by rw [List.length_map];simp;omega) (by rw [List.length_map];simp;omega) fun q' s3 hg'=>?_
     simp (disch:=first|assumption|omega|(simp only [List.length_append,List.length_cons,List.length_nil];omega)) only [go_sem,reduceCtorEq,Nat.reduceEqDiff,Nat.reduceAdd,Nat.reduceSub,Nat.reduceMul,Nat.reduceLeDiff,Int.reduceLT,Int.reduceLE,Int.reduceEq,↓reduceIte,Int.reduceNeg,Int.reduceAdd,Int.reduceSub,Int.reduceMul,true_imp_iff,forall_const,Nat.mul_one,Int.reduceToNat,Nat.reducePow,Int.reducePow,Bool.true_and,Bool.false_and,Bool.and_false,hf]
     refine ⟨i+1,by omega,by omega,q',?_,by rw [hst];simpa using hg'⟩
     rw [hst,List.map_append]
     simp (disch:=first|assumption|omega|(simp only [List.length_append,List.length_cons,List.length_nil];omega)) only [go_sem,reduceCtorEq,Nat.reduceEqDiff,Nat.reduceAdd,Nat.reduceSub,Nat.reduceMul,Nat.reduceLeDiff,Int.reduceLT,Int.reduceLE,Int.reduceEq,↓reduceIte,Int.reduceNeg,Int.reduceAdd,Int.reduceSub,Int.reduceMul,true_imp_iff,forall_const,Nat.mul_one,Int.reduceToNat,Nat.reducePow,Int.reducePow,Bool.true_and,Bool.false_and,Bool.and_false,hf]
     all_goals simp
  ·have hi32:i=32:=by omega
   subst hi32
   have hfl:=fullN_le T 32
   have hfr:=fullN_rises T 32 (Nat.le_refl _)
   have hfm:∀ j∈fullN T 32,j<32:=fun j hj=>fullN_lt hj
   have hrl:(natsI (fullN T 32)).length=(fullN T 32).length:=List.length_map _
   obtain ⟨σb,hWb,hdb,hbw,hbx⟩:=hW1.grown hg hwn
   have hpb:=hbx p _ hp
   generalize fullN T 32=F at *
   have hxs:(natsI F).map (AV.int .u64)=F.map fun (n:Nat)=>AV.int .u64 (n:Int):=natsI_u64 F
   have hxl:(F.map fun (n:Nat)=>AV.int .u64 (n:Int)).length=F.length:=List.length_map _
   have hxg:∀ (m j:Nat),F[m]? = some j->(F.map fun (n:Nat)=>AV.int .u64 (n:Int))[m]? = some (.int .u64 (j:Int)):=fun m j hm=>by rw [List.getElem?_map,hm];rfl
   have hrlen:(risingB (natsI F)).length<=400:=by
    unfold risingB
    have h1:=uintB_le (u:=((natsI F).length:Int)) (by omega)
    rw [Int.toNat_natCast] at h1
    have h2:=numsB_len (gaps (natsI F)) (fun x hx=>gaps_bd hfr x hx)
    rw [gaps_length] at h2
    rw [List.length_append]
    omega
   generalize (F.map fun (n:Nat)=>AV.int .u64 (n:Int))=xs at *
   simp (disch:=first|assumption|omega|(simp only [List.length_append,List.length_cons,List.length_nil];omega)) only [go_sem,reduceCtorEq,Nat.reduceEqDiff,Nat.reduceAdd,Nat.reduceSub,Nat.reduceMul,Nat.reduceLeDiff,Int.reduceLT,Int.reduceLE,Int.reduceEq,↓reduceIte,Int.reduceNeg,Int.reduceAdd,Int.reduceSub,Int.reduceMul,true_imp_iff,forall_const,Nat.mul_one,Int.reduceToNat,Nat.reducePow,Int.reducePow,Bool.true_and,Bool.false_and,Bool.and_false,hf]
   refine ACalls.shr (args' := [.ptr w 0,u64sAV (natsI F)]) (by unfold u64sAV;rw [hxs];rfl) ?_
   refine (wrising_ok σb w (natsI F) _ _ hWb hfr (by omega) (by omega)).mono ?_
   rintro r σ3 ⟨rfl,hW3⟩
   generalize risingB (natsI F)=RB at *
   simp (disch:=first|assumption|omega|(simp only [List.length_append,List.length_cons,List.length_nil];omega)) only [go_sem,reduceCtorEq,Nat.reduceEqDiff,Nat.reduceAdd,Nat.reduceSub,Nat.reduceMul,Nat.reduceLeDiff,Int.reduceLT,Int.reduceLE,Int.reduceEq,↓reduceIte,Int.reduceNeg,Int.reduceAdd,Int.reduceSub,Int.reduceMul,true_imp_iff,forall_const,Nat.mul_one,Int.reduceToNat,Nat.reducePow,Int.reducePow,Bool.true_and,Bool.false_and,Bool.and_false,hf]
   refine wp_loop_on (fun (i:Nat) a1 s2=>i<=F.length/\(a1 0 = .ptr p 0/\a1 5 = .ptr w 0/\a1 47 = .sl q xs/\a1 48 = .int .i64 F.length/\a1 49 = .int .i64 i)/\W σb w (uintB 3++RB++spB T (F.take i)) s2) (fun i=>F.length-i) 0 ⟨Nat.zero_le _,?_,?_⟩ ?_
   ·simp (disch:=first|assumption|omega|(simp only [List.length_append,List.length_cons,List.length_nil];omega)) only [go_sem,reduceCtorEq,Nat.reduceEqDiff,Nat.reduceAdd,Nat.reduceSub,Nat.reduceMul,Nat.reduceLeDiff,Int.reduceLT,Int.reduceLE,Int.reduceEq,↓reduceIte,Int.reduceNeg,Int.reduceAdd,Int.reduceSub,Int.reduceMul,true_imp_iff,forall_const,Nat.mul_one,Int.reduceToNat,Nat.reducePow,Int.reducePow,Bool.true_and,Bool.false_and,Bool.and_false,hf,hxl]
   ·simpa [spB] using hW3
   rintro i a1 s2 ⟨hi,hf,hW2⟩
   have hsl:=spB_le hw (F.take i)
   rw [List.length_take] at hsl
   by_cases hlt:i<F.length
   ·have hlt':(i:Int)<F.length:=by omega
    obtain ⟨j,hj⟩:∃ j,F[i]? = some j:=⟨_,List.getElem?_eq_getElem hlt⟩
    have hx:=hxg i j hj
    have hj32:=hfm j (List.mem_of_getElem? hj)
    have hj32':(j:Int)<32:=by omega
    obtain ⟨c,hc⟩:∃ c,T[j]? = some c:=⟨_,List.getElem?_eq_getElem (by omega)⟩
    have hld:=(h.to (σ':=s2) ((W.at hW2 hpw hpb).trans hp.symm)).cell j c hc
    have hst:=spB_step (T:=T) hj
    rw [cellB_at hc] at hst
    have hput:=tput_ok σb w c (hw c (List.mem_of_getElem? hc)) _ _ hW2 (by rw [List.length_append,List.length_append];omega)
    have hn0:((j:Nat):Int).toNat=j:=rfl
    have hn1:((i:Nat):Int).toNat=i:=rfl
    generalize c.av=cv at *
    simp (disch:=first|assumption|omega|(simp only [List.length_append,List.length_cons,List.length_nil];omega)) only [go_sem,reduceCtorEq,Nat.reduceEqDiff,Nat.reduceAdd,Nat.reduceSub,Nat.reduceMul,Nat.reduceLeDiff,Int.reduceLT,Int.reduceLE,Int.reduceEq,↓reduceIte,Int.reduceNeg,Int.reduceAdd,Int.reduceSub,Int.reduceMul,true_imp_iff,forall_const,Nat.mul_one,Int.reduceToNat,Nat.reducePow,Int.reducePow,Bool.true_and,Bool.false_and,Bool.and_false,hf,hlt',hx,hld,hn0,hn1]
    refine hput.mono ?_
    rintro r s3 ⟨rfl,hW4⟩
    simp (disch:=first|assumption|omega|(simp only [List.length_append,List.length_cons,List.length_nil];omega)) only [go_sem,reduceCtorEq,Nat.reduceEqDiff,Nat.reduceAdd,Nat.reduceSub,Nat.reduceMul,Nat.reduceLeDiff,Int.reduceLT,Int.reduceLE,Int.reduceEq,↓reduceIte,Int.reduceNeg,Int.reduceAdd,Int.reduceSub,Int.reduceMul,true_imp_iff,forall_const,Nat.mul_one,Int.reduceToNat,Nat.reducePow,Int.reducePow,Bool.true_and,Bool.false_and,Bool.and_false,hf]
    refine ⟨i+1,by omega,by omega,?_,by rw [hst,← List.append_assoc];exact hW4⟩
    simp (disch:=first|assumption|omega|(simp only [List.length_append,List.length_cons,List.length_nil];omega)) only [go_sem,reduceCtorEq,Nat.reduceEqDiff,Nat.reduceAdd,Nat.reduceSub,Nat.reduceMul,Nat.reduceLeDiff,Int.reduceLT,Int.reduceLE,Int.reduceEq,↓reduceIte,Int.reduceNeg,Int.reduceAdd,Int.reduceSub,Int.reduceMul,true_imp_iff,forall_const,Nat.mul_one,Int.reduceToNat,Nat.reducePow,Int.reducePow,Bool.true_and,Bool.false_and,Bool.and_false,hf]
    all_goals simp
   ·have hlt':¬ (i:Int)<F.length:=by omega
    have hFt:F.take i=F:=List.take_of_length_le (by omega)
    rw [hFt] at hW2
    simp (disch:=first|assumption|omega|(simp only [List.length_append,List.length_cons,List.length_nil];omega)) only [go_sem,reduceCtorEq,Nat.reduceEqDiff,Nat.reduceAdd,Nat.reduceSub,Nat.reduceMul,Nat.reduceLeDiff,Int.reduceLT,Int.reduceLE,Int.reduceEq,↓reduceIte,Int.reduceNeg,Int.reduceAdd,Int.reduceSub,Int.reduceMul,true_imp_iff,forall_const,Nat.mul_one,Int.reduceToNat,Nat.reducePow,Int.reducePow,Bool.true_and,Bool.false_and,Bool.and_false,hf,hlt']
    refine (wbytes_ok σb w _ _ hW2).mono ?_
    rintro r s3 ⟨rfl,rfl⟩
    simp (disch:=first|assumption|omega|(simp only [List.length_append,List.length_cons,List.length_nil];omega)) only [go_sem,reduceCtorEq,Nat.reduceEqDiff,Nat.reduceAdd,Nat.reduceSub,Nat.reduceMul,Nat.reduceLeDiff,Int.reduceLT,Int.reduceLE,Int.reduceEq,↓reduceIte,Int.reduceNeg,Int.reduceAdd,Int.reduceSub,Int.reduceMul,true_imp_iff,forall_const,Nat.mul_one,Int.reduceToNat,Nat.reducePow,Int.reducePow,Bool.true_and,Bool.false_and,Bool.and_false]
    exact retC_by ((W.drop hW2 hbw).trans hdb) (.refl _) ⟨rfl,rfl⟩
 ·have hB:tileB T k=uintB k.toNat++wrT T k 32:=if_neg h3
  rw [hB]
  simp (disch:=first|assumption|omega|(simp only [List.length_append,List.length_cons,List.length_nil];omega)) only [go_sem,reduceCtorEq,Nat.reduceEqDiff,Nat.reduceAdd,Nat.reduceSub,Nat.reduceMul,Nat.reduceLeDiff,Int.reduceLT,Int.reduceLE,Int.reduceEq,↓reduceIte,Int.reduceNeg,Int.reduceAdd,Int.reduceSub,Int.reduceMul,true_imp_iff,forall_const,Nat.mul_one,Int.reduceToNat,Nat.reducePow,Int.reducePow,Bool.true_and,Bool.false_and,Bool.and_false,h3]
  refine wp_loop_on (fun (i:Nat) a1 s2=>i<=32/\(a1 0 = .ptr p 0/\a1 1 = .int .i64 k/\a1 5 = .ptr w 0/\a1 16 = .int .i64 i)/\W σ w (uintB k.toNat++wrT T k i) s2) (fun i=>32-i) 0 ⟨Nat.zero_le _,?_,?_⟩ ?_
  ·simp (disch:=first|assumption|omega|(simp only [List.length_append,List.length_cons,List.length_nil];omega)) only [go_sem,reduceCtorEq,Nat.reduceEqDiff,Nat.reduceAdd,Nat.reduceSub,Nat.reduceMul,Nat.reduceLeDiff,Int.reduceLT,Int.reduceLE,Int.reduceEq,↓reduceIte,Int.reduceNeg,Int.reduceAdd,Int.reduceSub,Int.reduceMul,true_imp_iff,forall_const,Nat.mul_one,Int.reduceToNat,Nat.reducePow,Int.reducePow,Bool.true_and,Bool.false_and,Bool.and_false]
  ·simpa [wrT] using hW1
  rintro i a1 s2 ⟨hi,hf,hW2⟩
  have hle:=wrT_le hw k i
  by_cases hlt:i<32
  ·have hlt':(i:Int)<32:=by omega
   have hP:=place_ok k i hlt
   have hj:=placeN_lt (k:=k) hlt
   obtain ⟨c,hc⟩:∃ c,T[placeN k i]? = some c:=⟨_,List.getElem?_eq_getElem (by omega)⟩
   have hld:=(h.to (σ':=s2) ((W.at hW2 hpw hp).trans hp.symm)).cell _ c hc
   have hst:=wrT_succ (T:=T) (k:=k) i
   rw [cellB_at hc] at hst
   have hput:=tput_ok σ w c (hw c (List.mem_of_getElem? hc)) _ _ hW2 (by rw [List.length_append];omega)
   generalize placeN k i=j at *
   have hj':(j:Int)<32:=by omega
   have hn0:((j:Nat):Int).toNat=j:=rfl
   generalize c.av=cv at *
   simp (disch:=first|assumption|omega|(simp only [List.length_append,List.length_cons,List.length_nil];omega)) only [go_sem,reduceCtorEq,Nat.reduceEqDiff,Nat.reduceAdd,Nat.reduceSub,Nat.reduceMul,Nat.reduceLeDiff,Int.reduceLT,Int.reduceLE,Int.reduceEq,↓reduceIte,Int.reduceNeg,Int.reduceAdd,Int.reduceSub,Int.reduceMul,true_imp_iff,forall_const,Nat.mul_one,Int.reduceToNat,Nat.reducePow,Int.reducePow,Bool.true_and,Bool.false_and,Bool.and_false,hf,hlt']
   refine hP.use ?_
   simp (disch:=first|assumption|omega|(simp only [List.length_append,List.length_cons,List.length_nil];omega)) only [go_sem,reduceCtorEq,Nat.reduceEqDiff,Nat.reduceAdd,Nat.reduceSub,Nat.reduceMul,Nat.reduceLeDiff,Int.reduceLT,Int.reduceLE,Int.reduceEq,↓reduceIte,Int.reduceNeg,Int.reduceAdd,Int.reduceSub,Int.reduceMul,true_imp_iff,forall_const,Nat.mul_one,Int.reduceToNat,Nat.reducePow,Int.reducePow,Bool.true_and,Bool.false_and,Bool.and_false,hf,hlt',hld,hn0]
   refine hput.mono ?_
   rintro r s3 ⟨rfl,hW4⟩
   simp (disch:=first|assumption|omega|(simp only [List.length_append,List.length_cons,List.length_nil];omega)) only [go_sem,reduceCtorEq,Nat.reduceEqDiff,Nat.reduceAdd,Nat.reduceSub,Nat.reduceMul,Nat.reduceLeDiff,Int.reduceLT,Int.reduceLE,Int.reduceEq,↓reduceIte,Int.reduceNeg,Int.reduceAdd,Int.reduceSub,Int.reduceMul,true_imp_iff,forall_const,Nat.mul_one,Int.reduceToNat,Nat.reducePow,Int.reducePow,Bool.true_and,Bool.false_and,Bool.and_false,hf]
   refine ⟨i+1,by omega,by omega,?_,by rw [hst,← List.append_assoc];exact hW4⟩
   simp (disch:=first|assumption|omega|(simp only [List.length_append,List.length_cons,List.length_nil];omega)) only [go_sem,reduceCtorEq,Nat.reduceEqDiff,Nat.reduceAdd,Nat.reduceSub,Nat.reduceMul,Nat.reduceLeDiff,Int.reduceLT,Int.reduceLE,Int.reduceEq,↓reduceIte,Int.reduceNeg,Int.reduceAdd,Int.reduceSub,Int.reduceMul,true_imp_iff,forall_const,Nat.mul_one,Int.reduceToNat,Nat.reducePow,Int.reducePow,Bool.true_and,Bool.false_and,Bool.and_false,hf]
   all_goals simp
  ·have hi32:i=32:=by omega
   subst hi32
   have hlt':¬ ((32:Nat):Int)<32:=by omega
   simp (disch:=first|assumption|omega|(simp only [List.length_append,List.length_cons,List.length_nil];omega)) only [go_sem,reduceCtorEq,Nat.reduceEqDiff,Nat.reduceAdd,Nat.reduceSub,Nat.reduceMul,Nat.reduceLeDiff,Int.reduceLT,Int.reduceLE,Int.reduceEq,↓reduceIte,Int.reduceNeg,Int.reduceAdd,Int.reduceSub,Int.reduceMul,true_imp_iff,forall_const,Nat.mul_one,Int.reduceToNat,Nat.reducePow,Int.reducePow,Bool.true_and,Bool.false_and,Bool.and_false,hf,hlt']
   refine (wbytes_ok σ w _ _ hW2).mono ?_
   rintro r s3 ⟨rfl,rfl⟩
   simp (disch:=first|assumption|omega|(simp only [List.length_append,List.length_cons,List.length_nil];omega)) only [go_sem,reduceCtorEq,Nat.reduceEqDiff,Nat.reduceAdd,Nat.reduceSub,Nat.reduceMul,Nat.reduceLeDiff,Int.reduceLT,Int.reduceLE,Int.reduceEq,↓reduceIte,Int.reduceNeg,Int.reduceAdd,Int.reduceSub,Int.reduceMul,true_imp_iff,forall_const,Nat.mul_one,Int.reduceToNat,Nat.reducePow,Int.reducePow,Bool.true_and,Bool.false_and,Bool.and_false]
   exact retC_by (W.drop hW2 hwn) (.refl _) ⟨rfl,rfl⟩
end Go.A
