/- Part 7 of what TabularTiles leans on: CodeZg Zg CodeZw Zw CodeEb Eb CodeEc Ec CodeEd Ed CodeEe Ee CodeOa Oa CodeEh Eh Ej CodeZk. -/
import Derived.Test.YtfnhdjigeedieaaGreatDoorProg
import Derived.KernelRfl
import Derived.Test.YtfnhdjigeedieaaGreatDoorZTabularTilesf
set_option linter.defProp false
set_option linter.unusedSimpArgs false
set_option linter.unusedVariables false
set_option maxRecDepth 100000
namespace Go.A
open Go.Proofs
/-! 127: (*strings.Builder).WriteByte -/
def c127_7:ACode := .seq (.ops [ oq 4 (.mv (.v .nili))]) (.seq (.ops [ oq 5 (.mv (.t 0)),oe 6 (.call 173 [(.t 5)])]) (.seq (.ops [ oq 7 (.mv (.t 0)),oq 8 (.mv (.t 0)),oq 9 (.nc (.t 8)),oq 10 (.fa 1 (.t 9)),oq 11 (.ld none (.t 10)),oq 12 (.mv (.t 1)),oq 13 (.bsl 1 [(.t 12)]),oe 14 (.app 5 1 1 [(.int .u8 0)] (.t 11) (.t 13)),oq 15 (.nc (.t 7)),oq 16 (.fa 1 (.t 15)),oz (.store 1 (.t 16) (.t 14))]) (.seq (.ops [ oq 4 (.mv (.v .nili))]) .ret)))
@[go_sem] def c127_7_wp:=wp_of c127_7.eq_1
def c127:AFn:=⟨17,[.t 4],c127_7⟩
theorem c127_ok:compF Tryz.prog Tryz.f127=some c127:=by kernel_rfl
theorem a127 {args:List AV} {σ:ASt} {R:AV->ASt->Prop} (hl:args.length<=17) (h:c127_7.wp Tryz.prog (RetQ [.t 4] R) (init args) σ):ACalls Tryz.prog 127 args σ R:=aFq Tryz.func127 c127_ok hl h
/-! 195: (*strings.Builder).WriteRune -/
def c195_9:ACode := .seq (.ops [ oq 4 (.mv (.v (.int .i64 0))),oq 5 (.mv (.v .nili))]) (.seq (.ops [ oq 7 (.mv (.t 0)),oe 8 (.call 173 [(.t 7)])]) (.seq (.ops [ oq 9 (.mv (.t 0)),oq 10 (.nc (.t 9)),oq 11 (.fa 1 (.t 10)),oq 12 (.ld none (.t 11)),oq 13 (.len (.t 12)),oq 6 (.mv (.t 13))]) (.seq (.ops [ oq 14 (.mv (.t 0)),oq 15 (.mv (.t 0)),oq 16 (.nc (.t 15)),oq 17 (.fa 1 (.t 16)),oq 18 (.ld none (.t 17)),oq 19 (.mv (.t 1)),oe 20 (.call 216 [(.t 18),(.t 19)]),oq 21 (.nc (.t 14)),oq 22 (.fa 1 (.t 21)),oz (.store 1 (.t 22) (.t 20))]) (.seq (.ops [ oq 23 (.mv (.t 0)),oq 24 (.nc (.t 23)),oq 25 (.fa 1 (.t 24)),oq 26 (.ld none (.t 25)),oq 27 (.len (.t 26)),oq 28 (.mv (.t 6)),oq 29 (.bin .sub (.t 27) (.t 28)),oq 4 (.mv (.t 29)),oq 5 (.mv (.v .nili))]) .ret))))
@[go_sem] def c195_9_wp:=wp_of c195_9.eq_1
def c195:AFn:=⟨30,[.t 4,.t 5],c195_9⟩
theorem c195_ok:compF Tryz.prog Tryz.f195=some c195:=by kernel_rfl
theorem a195 {args:List AV} {σ:ASt} {R:AV->ASt->Prop} (hl:args.length<=30) (h:c195_9.wp Tryz.prog (RetQ [.t 4,.t 5] R) (init args) σ):ACalls Tryz.prog 195 args σ R:=aFq Tryz.func195 c195_ok hl h
/-! 216: unicode/utf8.AppendRune -/
def c216_9:ACode := .seq (.ops [ oq 4 (.mv (.v (.sl .full [])))]) (.seq (.seq (.ops [ oq 5 (.mv (.t 1)),oq 6 (.conv .u32 (.t 5)),oq 7 (.bin .leq (.t 6) (.v (.int .u32 127)))]) (.cond (.t 7) (.seq (.ops [ oq 8 (.mv (.t 0)),oq 9 (.mv (.t 1)),oq 10 (.conv .u8 (.t 9)),oq 11 (.bsl 1 [(.t 10)]),oe 12 (.app 5 1 1 [(.int .u8 0)] (.t 8) (.t 11)),oq 4 (.mv (.t 12))]) .ret) .skip)) (.seq (.ops [ oq 13 (.mv (.t 0)),oq 14 (.mv (.t 1)),oe 15 (.call 233 [(.t 13),(.t 14)]),oq 4 (.mv (.t 15))]) .ret))
@[go_sem] def c216_9_wp:=wp_of c216_9.eq_1
def c216:AFn:=⟨16,[.t 4],c216_9⟩
theorem c216_ok:compF Tryz.prog Tryz.f216=some c216:=by kernel_rfl
theorem a216 {args:List AV} {σ:ASt} {R:AV->ASt->Prop} (hl:args.length<=16) (h:c216_9.wp Tryz.prog (RetQ [.t 4] R) (init args) σ):ACalls Tryz.prog 216 args σ R:=aFq Tryz.func216 c216_ok hl h
/-! 233: unicode/utf8.appendRuneNonASCII -/
def c233_20:ACode := .cond (.t 11) (.seq (.ops [ oq 14 (.mv (.t 0)),oq 15 (.mv (.t 1)),oq 16 (.bin .shr (.t 15) (.v (.int .u64 6))),oq 17 (.conv .u8 (.t 16)),oq 18 (.bin .or (.v (.int .u8 192)) (.t 17)),oq 19 (.mv (.t 1)),oq 20 (.conv .u8 (.t 19)),oq 21 (.bin .and (.t 20) (.v (.int .u8 63))),oq 22 (.bin .or (.v (.int .u8 128)) (.t 21)),oq 23 (.bsl 1 [(.t 18),(.t 22)]),oe 24 (.app 5 1 1 [(.int .u8 0)] (.t 14) (.t 23)),oq 4 (.mv (.t 24))]) .ret) (.seq (.seq (.ops [ oq 26 (.mv (.t 5)),oq 27 (.bin .lss (.t 26) (.v (.int .u32 55296))),oq 25 (.mv (.t 27))]) (.cond (.t 25) .skip (.ops [ oq 28 (.mv (.t 5)),oq 29 (.bin .lss (.v (.int .u32 57343)) (.t 28)),oq 30 (.mv (.t 29)),⟨some 31,some (30,true),.q (.mv (.t 5)),[]⟩,⟨some 32,some (30,true),.q (.bin .leq (.t 31) (.v (.int .u32 65535))),[]⟩,oq 33 (.pick (.t 30) (.t 32) (.v (.bool false))),oq 25 (.mv (.t 33))]))) (.cond (.t 25) (.seq (.ops [ oq 34 (.mv (.t 0)),oq 35 (.mv (.t 1)),oq 36 (.bin .shr (.t 35) (.v (.int .u64 12))),oq 37 (.conv .u8 (.t 36)),oq 38 (.bin .or (.v (.int .u8 224)) (.t 37)),oq 39 (.mv (.t 1)),oq 40 (.bin .shr (.t 39) (.v (.int .u64 6))),oq 41 (.conv .u8 (.t 40)),oq 42 (.bin .and (.t 41) (.v (.int .u8 63))),oq 43 (.bin .or (.v (.int .u8 128)) (.t 42)),oq 44 (.mv (.t 1)),oq 45 (.conv .u8 (.t 44)),oq 46 (.bin .and (.t 45) (.v (.int .u8 63))),oq 47 (.bin .or (.v (.int .u8 128)) (.t 46)),oq 48 (.bsl 1 [(.t 38),(.t 43),(.t 47)]),oe 49 (.app 5 1 1 [(.int .u8 0)] (.t 34) (.t 48)),oq 4 (.mv (.t 49))]) .ret) (.seq (.ops [ oq 51 (.mv (.t 5)),oq 52 (.bin .gtr (.t 51) (.v (.int .u32 65535))),oq 53 (.mv (.t 52)),⟨some 54,some (53,true),.q (.mv (.t 5)),[]⟩,⟨some 55,some (53,true),.q (.bin .leq (.t 54) (.v (.int .u32 1114111))),[]⟩,oq 56 (.pick (.t 53) (.t 55) (.v (.bool false))),oq 50 (.mv (.t 56))]) (.cond (.t 50) (.seq (.ops [ oq 57 (.mv (.t 0)),oq 58 (.mv (.t 1)),oq 59 (.bin .shr (.t 58) (.v (.int .u64 18))),oq 60 (.conv .u8 (.t 59)),oq 61 (.bin .or (.v (.int .u8 240)) (.t 60)),oq 62 (.mv (.t 1)),oq 63 (.bin .shr (.t 62) (.v (.int .u64 12))),oq 64 (.conv .u8 (.t 63)),oq 65 (.bin .and (.t 64) (.v (.int .u8 63))),oq 66 (.bin .or (.v (.int .u8 128)) (.t 65)),oq 67 (.mv (.t 1)),oq 68 (.bin .shr (.t 67) (.v (.int .u64 6))),oq 69 (.conv .u8 (.t 68)),oq 70 (.bin .and (.t 69) (.v (.int .u8 63))),oq 71 (.bin .or (.v (.int .u8 128)) (.t 70)),oq 72 (.mv (.t 1)),oq 73 (.conv .u8 (.t 72)),oq 74 (.bin .and (.t 73) (.v (.int .u8 63))),oq 75 (.bin .or (.v (.int .u8 128)) (.t 74)),oq 76 (.bsl 1 [(.t 61),(.t 66),(.t 71),(.t 75)]),oe 77 (.app 5 1 1 [(.int .u8 0)] (.t 57) (.t 76)),oq 4 (.mv (.t 77))]) .ret) (.seq (.ops [ oq 8 (.mv (.t 0)),oq 9 (.bsl 1 [(.v (.int .u8 239)),(.v (.int .u8 191)),(.v (.int .u8 189))]),oe 10 (.app 5 1 1 [(.int .u8 0)] (.t 8) (.t 9)),oq 4 (.mv (.t 10))]) .ret)))))
def c233_24:ACode := .seq (.ops [ oq 4 (.mv (.v (.sl .full [])))]) (.seq (.ops [ oq 6 (.mv (.t 1)),oq 7 (.conv .u32 (.t 6)),oq 5 (.mv (.t 7))]) (.block 0 (.seq (.ops [ oq 12 (.mv (.t 5)),oq 13 (.bin .leq (.t 12) (.v (.int .u32 2047))),oq 11 (.mv (.t 13))]) c233_20)))
@[go_sem] def c233_20_wp:=wp_of c233_20.eq_1
@[go_sem] def c233_24_wp:=wp_of c233_24.eq_1
def c233:AFn:=⟨78,[.t 4],c233_24⟩
theorem c233_ok:compF Tryz.prog Tryz.f233=some c233:=by kernel_rfl
theorem a233 {args:List AV} {σ:ASt} {R:AV->ASt->Prop} (hl:args.length<=78) (h:c233_24.wp Tryz.prog (RetQ [.t 4] R) (init args) σ):ACalls Tryz.prog 233 args σ R:=aFq Tryz.func233 c233_ok hl h
end Go.A
section
attribute [local go_sem] reduceCtorEq Nat.reduceEqDiff Nat.reduceAdd Nat.reduceSub Nat.reduceMul Nat.reduceLeDiff Int.reduceLT Int.reduceLE Int.reduceEq Int.reduceNeg Int.reduceAdd Int.reduceSub Int.reduceMul true_imp_iff forall_const Nat.mul_one Int.reduceToNat Nat.reducePow Int.reducePow Bool.true_and Bool.false_and Bool.and_false
attribute [local go_sem ↓] reduceIte
namespace Go.A
theorem ne_of_role {σ:ASt} {b c:Nat} {r:Role} (h:σ b=some r) (k:σ c=none):b≠c/\c≠b:=by
 constructor<;>rintro rfl<;>rw [h] at k<;>cases k
def GO (σ0:ASt) (b:Nat) (cs:SK->List AV) (n s:Nat) (σ:ASt):Prop:=∃ k,Grown (σ0.set b (some (.obj (cs k)))) σ k n s
theorem GO.cell {σ0 σ:ASt} {b n s:Nat} {k:SK} {cs:SK->List AV} (h:Grown (σ0.set b (some (.obj (cs k)))) σ k n s):σ b=some (.obj (cs k)):=h.at (ASt.set_same _ _ _)
theorem GO.add {σ0 σ:ASt} {b c n s:Nat} {cs:SK->List AV} {r:Role} (h:GO σ0 b cs n s σ) (hc:σ c=none):GO (σ0.set c (some r)) b cs n s (σ.set c (some r))/\c≠b/\σ0 c=none:=by
 obtain ⟨k,hg⟩:=h
 have hb:=GO.cell hg
 have hcb:c≠b:=by rintro rfl;rw [hb] at hc;cases hc
 have h0:σ0 c=none:=by
  rcases hg with ⟨_,_,rfl⟩|⟨t,T,_,_,rfl⟩
  ·rwa [ASt.set_ne hcb] at hc
  ·obtain ⟨_,_,hc⟩:=set_none hc
   rwa [ASt.set_ne hcb] at hc
 refine ⟨⟨k,?_⟩,hcb,h0⟩
 rcases hg with ⟨h1,h2,rfl⟩|⟨t,T,h1,h2,rfl⟩
 ·exact .inl ⟨h1,h2,set_swap (Ne.symm hcb)⟩
 ·obtain ⟨h3,h4,_⟩:=set_none hc
  obtain ⟨h5,h6,h7⟩:=set_none h2
  refine .inr ⟨t,T,h1,?_,?_⟩
  ·rw [ASt.set_ne h5,ASt.set_ne (Ne.symm h3)];exact h7
  ·rw [set_swap h4,set_swap (Ne.symm hcb)]
theorem GO.off {σ0 σ:ASt} {b c n s:Nat} {cs:SK->List AV} {r:Role} (h:GO (σ0.set c (some r)) b cs n s σ) (hcb:c≠b) (hc:σ0 c=none):∃ σ',Drop σ σ'/\GO σ0 b cs n s σ':=by
 obtain ⟨k,hg⟩:=h
 rcases hg with ⟨h1,h2,rfl⟩|⟨t,T,h1,h2,rfl⟩
 ·refine ⟨σ0.set b (some (.obj (cs k))),?_,⟨k,.inl ⟨h1,h2,rfl⟩⟩⟩
  rw [set_swap hcb]
  exact Drop.set (by rw [ASt.set_ne hcb];exact hc)
 ·obtain ⟨h3,h4,h5⟩:=set_none h2
  obtain ⟨h6,h7,h8⟩:=set_none h5
  have e:((σ0.set c (some r)).set b (some (.obj (cs k)))).set t (some (.tok (n*s)))=((σ0.set b (some (.obj (cs k)))).set t (some (.tok (n*s)))).set c (some r):=by
   rw [set_swap hcb,set_swap h7]
  refine ⟨(σ0.set b (some (.obj (cs k)))).set t (some (.tok (n*s))),?_,⟨k,.inr ⟨t,T,h1,?_,rfl⟩⟩⟩
  ·rw [e]
   exact Drop.set (by rw [ASt.set_ne h7,ASt.set_ne hcb];exact hc)
  ·rw [ASt.set_ne h3];exact h8
theorem GO.at {σ0 σ:ASt} {b n s x:Nat} {cs:SK->List AV} {r:Role} (h:GO σ0 b cs n s σ) (hx:x≠b) (h0:σ0 x=some r):σ x=some r:=by
 obtain ⟨k,hg⟩:=h
 exact hg.at (by rw [ASt.set_ne hx];exact h0)
inductive Over (τ:ASt):ASt->Prop
 | refl:Over τ τ
 | set {σ:ASt} (c:Nat) (r:Role):Over τ σ->σ c=none->Over τ (σ.set c (some r))
theorem Over.at {τ σ:ASt} (h:Over τ σ) {x:Nat} {r:Role} (hx:τ x=some r):σ x=some r:=by
 induction h with
 | refl=>exact hx
 | set c q h hc ih=>
   have:x≠c:=by rintro rfl;rw [ih] at hc;cases hc
   rw [ASt.set_ne this];exact ih
theorem Over.drop {τ σ:ASt} (h:Over τ σ):Drop σ τ:=by
 induction h with
 | refl=>exact Drop.refl _
 | set c q h hc ih=>
   intro x
   by_cases hx:x=c
   ·subst hx
    rcases ih x with h1|h1
    ·exact .inr (h1.trans hc)
    ·exact .inr h1
   ·rcases ih x with h1|h1
    ·exact .inl (by rw [ASt.set_ne hx];exact h1)
    ·exact .inr h1
theorem Over.trans {τ σ ρ:ASt} (h:Over τ σ) (k:Over σ ρ):Over τ ρ:=by
 induction k with
 | refl=>exact h
 | set c r _ hc ih=>exact .set c r ih hc
theorem GO.over {σ0 τ σ:ASt} {b n s:Nat} {cs:SK->List AV} (h:GO σ0 b cs n s τ) (ho:Over τ σ) :
  ∃ σ0',GO σ0' b cs n s σ/\Over σ0 σ0'/\∀ cs' n' σ',GO σ0' b cs' n' s σ'->∃ σ'',Drop σ' σ''/\GO σ0 b cs' n' s σ'':=by
 induction ho with
 | refl=>exact ⟨σ0,h,.refl,fun cs' n' σ' h'=>⟨σ',Drop.refl _,h'⟩⟩
 | set c r ho hc ih=>
   obtain ⟨σ0',h1,h2,h3⟩:=ih
   obtain ⟨h4,h5,h6⟩:=h1.add (r:=r) hc
   refine ⟨σ0'.set c (some r),h4,.set c r h2 h6,fun cs' n' σ' h'=>?_⟩
   obtain ⟨σ1,h7,h8⟩:=h'.off h5 h6
   obtain ⟨σ2,h9,h10⟩:=h3 _ _ _ h8
   exact ⟨σ2,h7.trans h9,h10⟩
def BW (T U:TypeId) (σ0:ASt) (b:Nat) (l:List UInt8) (σ:ASt):Prop:=
 (l = []/\σ=σ0.set b (some (.typ T [.pointer none,.slice none 0 0])))\/(l ≠ []/\∃ k,GrownT U (σ0.set b (some (.obj [.ptr b 0,.sl k (bytesAV l)]))) σ k l.length 1)
theorem BW.over {T U:TypeId} {σ0 σ:ASt} {b:Nat} {l:List UInt8} (h:BW T U σ0 b l σ) (hb:σ0 b=none):Over σ0 σ:=by
 rcases h with ⟨_,rfl⟩|⟨_,k,h1|⟨g,_,hg,rfl⟩⟩
 ·exact .set b _ .refl hb
 ·obtain ⟨_,_,rfl⟩:=h1
  exact .set b _ .refl hb
 ·exact .set g _ (.set b _ .refl hb) hg
theorem BW.iter {T U:TypeId} {σ0 σ:ASt} {b it:Nat} {l:List UInt8} {r r':Role} (h:BW T U (σ0.set it (some r)) b l σ) (hb:it≠b):BW T U (σ0.set it (some r')) b l (σ.set it (some r'))/\σ it=some r:=by
 rcases h with ⟨h0,rfl⟩|⟨h0,k,h1|⟨g,h1,hg,rfl⟩⟩
 ·refine ⟨.inl ⟨h0,?_⟩,by rw [ASt.set_ne hb,ASt.set_same]⟩
  rw [<-set_swap hb,ASt.set_set]
 ·obtain ⟨h1,h2,rfl⟩:=h1
  refine ⟨.inr ⟨h0,k,.inl ⟨h1,h2,?_⟩⟩,by rw [ASt.set_ne hb,ASt.set_same]⟩
  rw [<-set_swap hb,ASt.set_set]
 ·obtain ⟨h3,h4,h5⟩:=set_none hg
  obtain ⟨h6,h7,h8⟩:=set_none h5
  refine ⟨.inr ⟨h0,k,.inr ⟨g,h1,?_,?_⟩⟩,by rw [ASt.set_ne h7,ASt.set_ne hb,ASt.set_same]⟩
  ·rw [ASt.set_ne h3,ASt.set_ne h6];exact h8
  ·rw [<-set_swap h7,← set_swap hb,ASt.set_set]
end Go.A
namespace Go.A
open Go.Proofs Go.Lib
abbrev BD:=BW 149 5
abbrev GT:=GrownT 5
theorem cc_ok {σ0 σ:ASt} {b:Nat} {l:List UInt8} (h:BD σ0 b l σ):ACalls Tryz.prog 173 [.ptr b 0] σ fun v σ'=>v = .tuple []/\∃ k,GT (σ0.set b (some (.obj [.ptr b 0,.sl k (bytesAV l)]))) σ' k l.length 1:=by
 rcases h with ⟨rfl,rfl⟩|⟨h0,k,hg⟩
 ·refine (copyCheck_typ (ASt.set_same _ _ _)).mono ?_
  rintro v σ' ⟨rfl,rfl⟩
  exact ⟨rfl,.full,.inl ⟨rfl,rfl,by rw [ASt.set_set];rfl⟩⟩
 ·refine (copyCheck_used (hg.at (ASt.set_same _ _ _))).mono ?_
  rintro v σ' ⟨rfl,rfl⟩
  exact ⟨rfl,k,hg⟩
theorem bytesAV_app (l m:List UInt8):bytesAV l++bytesAV m=bytesAV (l++m):=by simp [bytesAV]
theorem bytesAV_len (l:List UInt8):(bytesAV l).length=l.length:=by simp [bytesAV]
theorem bytes_leaves (l:List UInt8):leaves ((bytesAV l).flatMap AV.cells)=true:=by unfold bytesAV;exact leaves_map (fun _=>rfl) l
theorem bytes_well (l:List UInt8):wellSz 1 (bytesAV l)=true:=by unfold bytesAV;exact wellSz_map (f:=fun c:UInt8=>AV.int .u8 c.toNat) (fun _=>⟨rfl,rfl⟩) l
theorem appB_by {σ σ0:ASt} {k k2:SK} {l m:List UInt8} {ys z:List AV} {K:AV->ASt->Prop} (h:GT σ0 σ k l.length 1) (hy:ys=bytesAV m) (hl:l.length+m.length<=4611686018427)
  (hK:∀ k' σ',GT σ0 σ' k' (l++m).length 1->K (.sl k' (bytesAV (l++m))) σ'):appC 5 1 1 z (.sl k (bytesAV l)) (.sl k2 ys) σ K:=by
 subst hy
 refine appCT_by (by rw [bytesAV_len];exact h) (bytes_well m) (bytes_leaves m) (by simp only [bytesAV_len];omega) (by simp only [bytesAV_len];omega) fun k' σ' hg=>?_
 rw [bytesAV_app] at hg ⊢
 rw [bytesAV_len] at hg
 exact hK k' σ' hg
theorem writeByte_ok {σ0 σ:ASt} {b:Nat} {l:List UInt8} (h:BD σ0 b l σ) (c:UInt8) (hl:l.length<=1000000000) :
  ACalls Tryz.prog 127 [.ptr b 0,.int .u8 c.toNat] σ fun v σ'=>v = .nili/\BD σ0 b (l ++ [c]) σ':=by
 refine a127 (by simp) ?_
 simp (disch:=first|assumption|omega) only [go_sem]
 refine (cc_ok h).mono ?_
 rintro v σ1 ⟨rfl,k,hg⟩
 have hb:=hg.at (ASt.set_same _ _ _)
 simp (disch:=first|assumption|omega) only [go_sem,hb]
 refine appB_by (m := [c]) hg rfl (by simp;omega) fun k' σ' hg'=>?_
 have hb':=hg'.at (ASt.set_same _ _ _)
 simp (disch:=first|assumption|omega) only [go_sem,hb']
 exact retC_by (Drop.refl _) (.refl _) ⟨rfl,.inr ⟨by simp,k',hg'.obj⟩⟩
theorem or_a:∀ y:Int,0<=y->y<64->((BitVec.ofInt 8 128 ||| BitVec.ofInt 8 y).toNat:Int)=128+y:=by
 have key:∀ n:Fin 64,((BitVec.ofInt 8 128 ||| BitVec.ofInt 8 ((n.val:Nat):Int)).toNat:Int)=128+((n.val:Nat):Int):=by decide
 intro y h0 h1
 have:=key ⟨y.toNat,by omega⟩
 rwa [Int.toNat_of_nonneg h0] at this
theorem or_b:∀ y:Int,0<=y->y<32->((BitVec.ofInt 8 192 ||| BitVec.ofInt 8 y).toNat:Int)=192+y:=by
 have key:∀ n:Fin 32,((BitVec.ofInt 8 192 ||| BitVec.ofInt 8 ((n.val:Nat):Int)).toNat:Int)=192+((n.val:Nat):Int):=by decide
 intro y h0 h1
 have:=key ⟨y.toNat,by omega⟩
 rwa [Int.toNat_of_nonneg h0] at this
theorem or_c:∀ y:Int,0<=y->y<16->((BitVec.ofInt 8 224 ||| BitVec.ofInt 8 y).toNat:Int)=224+y:=by
 have key:∀ n:Fin 16,((BitVec.ofInt 8 224 ||| BitVec.ofInt 8 ((n.val:Nat):Int)).toNat:Int)=224+((n.val:Nat):Int):=by decide
 intro y h0 h1
 have:=key ⟨y.toNat,by omega⟩
 rwa [Int.toNat_of_nonneg h0] at this
theorem or_d:∀ y:Int,0<=y->y<8->((BitVec.ofInt 8 240 ||| BitVec.ofInt 8 y).toNat:Int)=240+y:=by
 have key:∀ n:Fin 8,((BitVec.ofInt 8 240 ||| BitVec.ofInt 8 ((n.val:Nat):Int)).toNat:Int)=240+((n.val:Nat):Int):=by decide
 intro y h0 h1
 have:=key ⟨y.toNat,by omega⟩
 rwa [Int.toNat_of_nonneg h0] at this
theorem and_63 (y:Int):((BitVec.ofInt 8 (y % 256) &&& BitVec.ofInt 8 63).toNat:Int)=y % 64:=by
 have key:∀ n:Fin 256,((BitVec.ofInt 8 ((n.val:Nat):Int) &&& BitVec.ofInt 8 63).toNat:Int)=((n.val:Nat):Int) % 64:=by decide
 have:=key ⟨(y % 256).toNat,by omega⟩
 rw [Int.toNat_of_nonneg (by omega)] at this
 rw [this]
 omega
theorem wrap_8 (y:Int):IntKind.wrap .u8 y=y % 256:=IntKind.wrap_u8 y
theorem encAV (r:Int):(encodeRuneZ r).map (AV.int .u8)=bytesAV (encodeRune r):=by
 unfold bytesAV encodeRune
 rw [List.map_map]
 apply List.map_congr_left
 intro x hx
 obtain ⟨h0,h1⟩:=encodeRuneZ_byte r x hx
 simp [Function.comp]
 omega
theorem enc_len (r:Int):(encodeRune r).length<=4:=by
 have:=encodeRuneZ_length r
 simp [encodeRune]
 omega
def RuneOk (r:Int):Prop:=0<=r/\r<=1114111/\¬ (55296<=r/\r<=57343)
set_option maxHeartbeats 1000000 in
theorem appendRuneN_ok {σ0 σ:ASt} {k:SK} {l:List UInt8} (h:GT σ0 σ k l.length 1) {r:Int} (hr:RuneOk r) (h128:127<r) (hl:l.length<=1000000000) :
  ACalls Tryz.prog 233 [.sl k (bytesAV l),.int .i32 r] σ fun v σ'=>∃ k',v = .sl k' (bytesAV (l++encodeRune r))/\GT σ0 σ' k' (l++encodeRune r).length 1:=by
 obtain ⟨r0,r1,r2⟩:=hr
 have hel:=enc_len r
 have hea:=encAV r
 have w1:=wrap_8 r
 have w2:=wrap_8 (r / 64)
 have w3:=wrap_8 (r / 4096)
 have a1:=and_63 r
 have a2:=and_63 (r / 64)
 have a3:=and_63 (r / 4096)
 have o1:=or_a (r % 64) (by omega) (by omega)
 have o2:=or_a (r / 64 % 64) (by omega) (by omega)
 have o3:=or_a (r / 4096 % 64) (by omega) (by omega)
 refine a233 (by simp) ?_
 by_cases c1:r<=2047
 ·have o4:=or_b (r / 64) (by omega) (by omega)
  have e : [AV.int .u8 ((BitVec.ofInt 8 192 ||| BitVec.ofInt 8 (r / 64)).toNat:Int),AV.int .u8 ((BitVec.ofInt 8 128 ||| BitVec.ofInt 8 ((BitVec.ofInt 8 (r % 256) &&& BitVec.ofInt 8 63).toNat:Int)).toNat:Int)] = [192+r / 64,128+r % 64].map (AV.int .u8):=by
   rw [a1,o1,o4];rfl
  rw [encodeRuneZ_two (by omega) c1] at hea
  simp (disch:=first|assumption|omega) only [go_sem,c1,w1]
  refine appB_by (m:=encodeRune r) h (e.trans hea) (by omega) fun k' σ' hg'=>?_
  rw [List.length_append] at hg'
  simp (disch:=first|assumption|omega) only [go_sem]
  exact retC_by (Drop.refl _) (.refl _) ⟨k',rfl,hg'⟩
 by_cases c2:r<55296
 ·have o4:=or_c (r / 4096) (by omega) (by omega)
  have e : [AV.int .u8 ((BitVec.ofInt 8 224 ||| BitVec.ofInt 8 (r / 4096)).toNat:Int),AV.int .u8 ((BitVec.ofInt 8 128 ||| BitVec.ofInt 8 ((BitVec.ofInt 8 (r / 64 % 256) &&& BitVec.ofInt 8 63).toNat:Int)).toNat:Int),
   AV.int .u8 ((BitVec.ofInt 8 128 ||| BitVec.ofInt 8 ((BitVec.ofInt 8 (r % 256) &&& BitVec.ofInt 8 63).toNat:Int)).toNat:Int)] = [224+r / 4096,128+r / 64 % 64,128+r % 64].map (AV.int .u8):=by
   rw [a1,a2,o1,o2,o4];rfl
  rw [encodeRuneZ_three (by omega)] at hea
  simp (disch:=first|assumption|omega) only [go_sem,c1,c2,w1,w2]
  refine appB_by (m:=encodeRune r) h (e.trans hea) (by omega) fun k' σ' hg'=>?_
  rw [List.length_append] at hg'
  simp (disch:=first|assumption|omega) only [go_sem]
  exact retC_by (Drop.refl _) (.refl _) ⟨k',rfl,hg'⟩
 have c3:57343<r:=by omega
 by_cases c4:r<=65535
 ·have o4:=or_c (r / 4096) (by omega) (by omega)
  have e : [AV.int .u8 ((BitVec.ofInt 8 224 ||| BitVec.ofInt 8 (r / 4096)).toNat:Int),AV.int .u8 ((BitVec.ofInt 8 128 ||| BitVec.ofInt 8 ((BitVec.ofInt 8 (r / 64 % 256) &&& BitVec.ofInt 8 63).toNat:Int)).toNat:Int),
   AV.int .u8 ((BitVec.ofInt 8 128 ||| BitVec.ofInt 8 ((BitVec.ofInt 8 (r % 256) &&& BitVec.ofInt 8 63).toNat:Int)).toNat:Int)] = [224+r / 4096,128+r / 64 % 64,128+r % 64].map (AV.int .u8):=by
   rw [a1,a2,o1,o2,o4];rfl
  rw [encodeRuneZ_three (by omega)] at hea
  simp (disch:=first|assumption|omega) only [go_sem,c1,c2,c3,c4,w1,w2]
  refine appB_by (m:=encodeRune r) h (e.trans hea) (by omega) fun k' σ' hg'=>?_
  rw [List.length_append] at hg'
  simp (disch:=first|assumption|omega) only [go_sem]
  exact retC_by (Drop.refl _) (.refl _) ⟨k',rfl,hg'⟩
 ·have c5:65535<r:=by omega
  have o4:=or_d (r / 262144) (by omega) (by omega)
  have e : [AV.int .u8 ((BitVec.ofInt 8 240 ||| BitVec.ofInt 8 (r / 262144)).toNat:Int),AV.int .u8 ((BitVec.ofInt 8 128 ||| BitVec.ofInt 8 ((BitVec.ofInt 8 (r / 4096 % 256) &&& BitVec.ofInt 8 63).toNat:Int)).toNat:Int),
   AV.int .u8 ((BitVec.ofInt 8 128 ||| BitVec.ofInt 8 ((BitVec.ofInt 8 (r / 64 % 256) &&& BitVec.ofInt 8 63).toNat:Int)).toNat:Int),AV.int .u8 ((BitVec.ofInt 8 128 ||| BitVec.ofInt 8 ((BitVec.ofInt 8 (r % 256) &&& BitVec.ofInt 8 63).toNat:Int)).toNat:Int)] = [240+r / 262144,128+r / 4096 % 64,128+r / 64 % 64,128+r % 64].map (AV.int .u8):=by
   rw [a1,a2,a3,o1,o2,o3,o4];rfl
  rw [encodeRuneZ_four (by omega) (by omega)] at hea
  simp (disch:=first|assumption|omega) only [go_sem,c1,c2,c3,c4,c5,w1,w2,w3]
  refine appB_by (m:=encodeRune r) h (e.trans hea) (by omega) fun k' σ' hg'=>?_
  rw [List.length_append] at hg'
  simp (disch:=first|assumption|omega) only [go_sem]
  exact retC_by (Drop.refl _) (.refl _) ⟨k',rfl,hg'⟩
theorem appendRune_ok {σ0 σ:ASt} {k:SK} {l:List UInt8} (h:GT σ0 σ k l.length 1) {r:Int} (hr:RuneOk r) (hl:l.length<=1000000000) :
  ACalls Tryz.prog 216 [.sl k (bytesAV l),.int .i32 r] σ fun v σ'=>∃ k',v = .sl k' (bytesAV (l++encodeRune r))/\GT σ0 σ' k' (l++encodeRune r).length 1:=by
 obtain ⟨r0,r1,r2⟩:=hr
 have hel:=enc_len r
 have hea:=encAV r
 refine a216 (by simp) ?_
 by_cases c1:r<=127
 ·rw [encodeRuneZ_one r0 c1] at hea
  simp (disch:=first|assumption|omega) only [go_sem,c1]
  refine appB_by (m:=encodeRune r) h hea (by omega) fun k' σ' hg'=>?_
  rw [List.length_append] at hg'
  simp (disch:=first|assumption|omega) only [go_sem]
  exact retC_by (Drop.refl _) (.refl _) ⟨k',rfl,hg'⟩
 ·simp (disch:=first|assumption|omega) only [go_sem,c1]
  refine (appendRuneN_ok h ⟨r0,r1,r2⟩ (by omega) hl).mono ?_
  rintro v σ' ⟨k',rfl,hg'⟩
  rw [List.length_append] at hg'
  simp (disch:=first|assumption|omega) only [go_sem]
  exact retC_by (Drop.refl _) (.refl _) ⟨k',rfl,hg'⟩
theorem writeRune_ok {σ0 σ:ASt} {b:Nat} {l:List UInt8} (h:BD σ0 b l σ) {r:Int} (hr:RuneOk r) (hl:l.length<=1000000000) :
  ACalls Tryz.prog 195 [.ptr b 0,.int .i32 r] σ fun v σ'=>BD σ0 b (l++encodeRune r) σ':=by
 refine a195 (by simp) ?_
 have hel:=enc_len r
 have hne:encodeRune r ≠ []:=by
  intro h
  have:=encodeRuneZ_length r
  have h2:=congrArg List.length h
  simp [encodeRune] at h2
  rw [h2] at this
  simp at this
 simp (disch:=first|assumption|omega) only [go_sem]
 refine (cc_ok h).mono ?_
 rintro v σ1 ⟨rfl,k,hg⟩
 have hb:=hg.at (ASt.set_same _ _ _)
 have hbl:=bytesAV_len l
 simp (disch:=first|assumption|omega) only [go_sem,hb,hbl]
 refine (appendRune_ok hg hr hl).mono ?_
 rintro v σ' ⟨k',rfl,hg'⟩
 have hb':=hg'.at (ASt.set_same _ _ _)
 have hbl':=bytesAV_len (l++encodeRune r)
 have hll:(l++encodeRune r).length<=1000000004:=by simp;omega
 simp (disch:=first|assumption|omega) only [go_sem,hb',hbl']
 exact retC_by (Drop.refl _) (.refl _) (.inr ⟨by simp [hne],k',hg'.obj⟩)
theorem bstring_ok {σ0 σ:ASt} {b:Nat} {l:List UInt8} (h:BD σ0 b l σ) (hl:l.length<=1000000000):ACalls Tryz.prog 76 [.ptr b 0] σ fun v σ'=>v = .str l/\σ'=σ:=by
 rcases h with ⟨rfl,rfl⟩|⟨h0,k,hg⟩
 ·exact bstring_typ (ASt.set_same _ _ _)
 ·have hb:=hg.at (ASt.set_same _ _ _)
  rcases hg with ⟨_,h1,_⟩|⟨g,rfl,hg,rfl⟩
  ·exact absurd (List.eq_nil_of_length_eq_zero h1) h0
  ·refine bstring_used h0 (by omega) hb (by rw [ASt.set_same,Nat.mul_one])
end Go.A
namespace Go.A
open Go.Proofs
/-! 120: (*strings.Builder).WriteString -/
def c120_7:ACode := .seq (.ops [ oq 4 (.mv (.v (.int .i64 0))),oq 5 (.mv (.v .nili))]) (.seq (.ops [ oq 6 (.mv (.t 0)),oe 7 (.call 173 [(.t 6)])]) (.seq (.ops [ oq 8 (.mv (.t 0)),oq 9 (.mv (.t 0)),oq 10 (.nc (.t 9)),oq 11 (.fa 1 (.t 10)),oq 12 (.ld none (.t 11)),oq 13 (.mv (.t 1)),oe 14 (.apps 5 (.t 12) (.t 13)),oq 15 (.nc (.t 8)),oq 16 (.fa 1 (.t 15)),oz (.store 1 (.t 16) (.t 14))]) (.seq (.ops [ oq 17 (.mv (.t 1)),oq 18 (.lenS (.t 17)),oq 4 (.mv (.t 18)),oq 5 (.mv (.v .nili))]) .ret)))
@[go_sem] def c120_7_wp:=wp_of c120_7.eq_1
def c120:AFn:=⟨19,[.t 4,.t 5],c120_7⟩
theorem c120_ok:compF Tryz.prog Tryz.f120=some c120:=by kernel_rfl
theorem a120 {args:List AV} {σ:ASt} {R:AV->ASt->Prop} (hl:args.length<=19) (h:c120_7.wp Tryz.prog (RetQ [.t 4,.t 5] R) (init args) σ):ACalls Tryz.prog 120 args σ R:=aFq Tryz.func120 c120_ok hl h
end Go.A
namespace Go.A
open Go.Proofs Go.Lib
section
variable {T U:TypeId} {σ0 σ:ASt} {b c x:Nat} {l:List UInt8} {r:Role}
theorem BW.role (h:BW T U σ0 b l σ):σ b≠none:=by
 rcases h with ⟨_,rfl⟩|⟨_,k,hg⟩
 ·rw [ASt.set_same];simp
 ·rw [hg.at (ASt.set_same _ _ _)];simp
theorem BW.at (h:BW T U σ0 b l σ) (hx:x≠b) (h0:σ0 x=some r):σ x=some r:=by
 rcases h with ⟨_,rfl⟩|⟨_,k,hg⟩
 ·rw [ASt.set_ne hx];exact h0
 ·exact hg.at (by rw [ASt.set_ne hx];exact h0)
theorem BW.add (h:BW T U σ0 b l σ) (hc:σ c=none):BW T U (σ0.set c (some r)) b l (σ.set c (some r))/\c≠b/\σ0 c=none:=by
 have hcb:c≠b:=by rintro rfl;exact h.role hc
 rcases h with ⟨h0,rfl⟩|⟨h0,k,h1|⟨t,h1,h2,rfl⟩⟩
 ·rw [ASt.set_ne hcb] at hc
  exact ⟨.inl ⟨h0,set_swap (Ne.symm hcb)⟩,hcb,hc⟩
 ·obtain ⟨h1,h2,rfl⟩:=h1
  rw [ASt.set_ne hcb] at hc
  exact ⟨.inr ⟨h0,k,.inl ⟨h1,h2,set_swap (Ne.symm hcb)⟩⟩,hcb,hc⟩
 ·obtain ⟨h3,h4,hc⟩:=set_none hc
  rw [ASt.set_ne hcb] at hc
  obtain ⟨h5,h6,h7⟩:=set_none h2
  refine ⟨.inr ⟨h0,k,.inr ⟨t,h1,?_,?_⟩⟩,hcb,hc⟩
  ·rw [ASt.set_ne h5,ASt.set_ne (Ne.symm h3)];exact h7
  ·rw [set_swap h4,set_swap (Ne.symm hcb)]
theorem BW.off (h:BW T U (σ0.set c (some r)) b l σ) (hcb:c≠b) (hc:σ0 c=none):∃ σ',Drop σ σ'/\BW T U σ0 b l σ':=by
 rcases h with ⟨h0,rfl⟩|⟨h0,k,h1|⟨t,h1,h2,rfl⟩⟩
 ·refine ⟨_,?_,.inl ⟨h0,rfl⟩⟩
  rw [set_swap hcb]
  exact Drop.set (by rw [ASt.set_ne hcb];exact hc)
 ·obtain ⟨h1,h2,rfl⟩:=h1
  refine ⟨_,?_,.inr ⟨h0,k,.inl ⟨h1,h2,rfl⟩⟩⟩
  rw [set_swap hcb]
  exact Drop.set (by rw [ASt.set_ne hcb];exact hc)
 ·obtain ⟨h3,h4,h5⟩:=set_none h2
  obtain ⟨h6,h7,h8⟩:=set_none h5
  refine ⟨(σ0.set b (some (.obj [.ptr b 0,.sl k (bytesAV l)]))).set t (some (.tok (l.length*1))),?_,.inr ⟨h0,k,.inr ⟨t,h1,?_,rfl⟩⟩⟩
  ·rw [set_swap hcb,set_swap h7]
   exact Drop.set (by rw [ASt.set_ne h7,ASt.set_ne hcb];exact hc)
  ·rw [ASt.set_ne h3];exact h8
end
theorem appsB_by {σ σ0:ASt} {k:SK} {l m:List UInt8} {K:AV->ASt->Prop} (h:GT σ0 σ k l.length 1) (hl:l.length+m.length<=4611686018427)
  (hK:∀ k' σ',GT σ0 σ' k' (l++m).length 1->K (.sl k' (bytesAV (l++m))) σ'):appsC 5 (.sl k (bytesAV l)) (.str m) σ K:=by
 refine appsCT_by (by rw [bytesAV_len];exact h) (by rw [bytesAV_len];omega) fun k' σ' hg=>?_
 rw [bytesAV_app]
 rw [bytesAV_len] at hg
 exact hK k' σ' (by rw [List.length_append];exact hg)
theorem writes_ok {σ0 σ:ASt} {b:Nat} {l:List UInt8} (h:BD σ0 b l σ) (m:List UInt8) (hl:l.length+m.length<=1000000000) :
  ACalls Tryz.prog 120 [.ptr b 0,.str m] σ fun v σ'=>v = .tuple [.int .i64 m.length,.nili]/\((l++m = []/\∃ k,GT (σ0.set b (some (.obj [.ptr b 0,.sl k []]))) σ' k 0 1)\/BD σ0 b (l++m) σ'):=by
 refine a120 (by simp) ?_
 simp (disch:=first|assumption|omega) only [go_sem]
 refine (cc_ok h).mono ?_
 rintro v σ1 ⟨rfl,k,hg⟩
 have hb:=hg.at (ASt.set_same _ _ _)
 simp (disch:=first|assumption|omega) only [go_sem,hb]
 refine appsB_by hg (by omega) fun k' σ' hg'=>?_
 have hb':=hg'.at (ASt.set_same _ _ _)
 simp (disch:=first|assumption|omega) only [go_sem,hb']
 refine retC_by (Drop.refl _) (.refl _) ⟨rfl,?_⟩
 by_cases he:l++m = []
 ·refine .inl ⟨he,k',?_⟩
  have:=hg'.obj (r' := .obj [.ptr b 0,.sl k' (bytesAV (l++m))])
  rw [he] at this
  rw [he]
  exact this
 ·exact .inr (.inr ⟨he,k',hg'.obj⟩)
theorem writes1_ok {σ0 σ:ASt} {b:Nat} {l:List UInt8} (h:BD σ0 b l σ) (m:List UInt8) (hm:m ≠ []) (hl:l.length+m.length<=1000000000) :
  ACalls Tryz.prog 120 [.ptr b 0,.str m] σ fun v σ'=>v = .tuple [.int .i64 m.length,.nili]/\BD σ0 b (l++m) σ':=
 (writes_ok h m hl).mono fun _ _ ⟨h1,h2⟩=>⟨h1,h2.resolve_left fun h=>hm (List.append_eq_nil_iff.1 h.1).2⟩
end Go.A
namespace Go.A
open Go.Proofs
/-! 112: tabular/expr.Signs -/
def c112_3:ACode := .seq (.ops [ oq 0 (.mv (.v (.sl .full [])))]) (.seq (.ops [ oq 1 (.bsl 1 [(.v (.str [43])),(.v (.str [45])),(.v (.str [42])),(.v (.str [47])),(.v (.str [94])),(.v (.str [38])),(.v (.str [61])),(.v (.str [60,62])),(.v (.str [60])),(.v (.str [60,61])),(.v (.str [62])),(.v (.str [62,61]))]),oq 0 (.mv (.t 1))]) .ret)
@[go_sem] def c112_3_wp:=wp_of c112_3.eq_1
def c112:AFn:=⟨2,[.t 0],c112_3⟩
theorem c112_ok:compF Tryz.prog Tryz.f112=some c112:=by kernel_rfl
theorem a112 {args:List AV} {σ:ASt} {R:AV->ASt->Prop} (hl:args.length<=2) (h:c112_3.wp Tryz.prog (RetQ [.t 0] R) (init args) σ):ACalls Tryz.prog 112 args σ R:=aFq Tryz.func112 c112_ok hl h
/-! 123: tabular/expr.truth -/
def c123_9:ACode := .seq (.ops [ oq 2 (.mv (.v (.str [])))]) (.seq (.seq (.ops [ oq 3 (.mv (.t 0))]) (.cond (.t 3) (.seq (.ops [ oq 2 (.mv (.v (.str [84,82,85,69])))]) .ret) .skip)) (.seq (.ops [ oq 2 (.mv (.v (.str [70,65,76,83,69])))]) .ret))
@[go_sem] def c123_9_wp:=wp_of c123_9.eq_1
def c123:AFn:=⟨4,[.t 2],c123_9⟩
theorem c123_ok:compF Tryz.prog Tryz.f123=some c123:=by kernel_rfl
theorem a123 {args:List AV} {σ:ASt} {R:AV->ASt->Prop} (hl:args.length<=4) (h:c123_9.wp Tryz.prog (RetQ [.t 2] R) (init args) σ):ACalls Tryz.prog 123 args σ R:=aFq Tryz.func123 c123_ok hl h
/-! 129: tabular/expr.level -/
def c129_20:ACode := .seq (.ops [ oq 2 (.mv (.v (.int .i64 0)))]) (.seq (.block 0 (.seq (.ops [ oq 4 (.mv (.t 0)),oq 5 (.bin .eql (.t 4) (.v (.int .i64 7))),oq 6 (.mv (.t 5)),⟨some 7,some (6,false),.q (.mv (.t 0)),[]⟩,⟨some 8,some (6,false),.q (.bin .eql (.t 7) (.v (.int .i64 8))),[]⟩,oq 9 (.pick (.t 6) (.v (.bool true)) (.t 8)),oq 3 (.mv (.t 9))]) (.cond (.t 3) (.seq (.ops [ oq 2 (.mv (.v (.int .i64 6)))]) .ret) (.seq (.ops [ oq 11 (.mv (.t 0)),oq 12 (.bin .eql (.t 11) (.v (.int .i64 9))),oq 10 (.mv (.t 12))]) (.cond (.t 10) (.seq (.ops [ oq 2 (.mv (.v (.int .i64 7)))]) .ret) (.seq (.ops [ oq 14 (.mv (.t 0)),oq 15 (.bin .lss (.t 14) (.v (.int .i64 10))),oq 16 (.mv (.t 15)),⟨some 17,some (16,false),.q (.mv (.t 0)),[]⟩,⟨some 18,some (16,false),.q (.bin .geq (.t 17) (.v (.int .i64 22))),[]⟩,oq 19 (.pick (.t 16) (.v (.bool true)) (.t 18)),oq 13 (.mv (.t 19))]) (.cond (.t 13) (.seq (.ops [ oq 2 (.mv (.v (.int .i64 8)))]) .ret) .skip))))))) (.seq (.ops [ oq 20 (.bsl 1 [(.v (.int .i64 3)),(.v (.int .i64 3)),(.v (.int .i64 4)),(.v (.int .i64 4)),(.v (.int .i64 5)),(.v (.int .i64 2)),(.v (.int .i64 1)),(.v (.int .i64 1)),(.v (.int .i64 1)),(.v (.int .i64 1)),(.v (.int .i64 1)),(.v (.int .i64 1))]),oq 21 (.mv (.t 0)),oq 22 (.bin .sub (.t 21) (.v (.int .i64 10))),oq 23 (.ia 1 (.t 20) (.t 22)),oq 24 (.ld none (.t 23)),oq 2 (.mv (.t 24))]) .ret))
@[go_sem] def c129_20_wp:=wp_of c129_20.eq_1
def c129:AFn:=⟨25,[.t 2],c129_20⟩
theorem c129_ok:compF Tryz.prog Tryz.f129=some c129:=by kernel_rfl
theorem a129 {args:List AV} {σ:ASt} {R:AV->ASt->Prop} (hl:args.length<=25) (h:c129_20.wp Tryz.prog (RetQ [.t 2] R) (init args) σ):ACalls Tryz.prog 129 args σ R:=aFq Tryz.func129 c129_ok hl h
end Go.A
namespace Go.A
open Go.Proofs Go.Lib
theorem esigns_ok:Pure Tryz.prog 112 [] (.sl .shr (signL.map AV.str)):=by
 intro σ
 refine a112 (by simp) ?_
 simp (disch:=first|assumption|omega) only [go_sem]
 exact retC_by (by repeat' (first|exact Drop.refl _|with_reducible refine Drop.off ?_ (by assumption))) (.sl _ _) ⟨rfl,rfl⟩
theorem tenames_ok:Pure Tryz.prog 70 [] (.sl .shr (errL.map AV.str)):=by
 intro σ
 refine a70 (by simp) ?_
 simp (disch:=first|assumption|omega) only [go_sem]
 exact retC_by (by repeat' (first|exact Drop.refl _|with_reducible refine Drop.off ?_ (by assumption))) (.sl _ _) ⟨rfl,rfl⟩
theorem level_ok (op:Int) (h0 : -1000<=op) (h1:op<=1000):Pure Tryz.prog 129 [.int .i64 op] (.int .i64 (levelP op)):=by
 intro σ
 obtain ⟨q,hq⟩:∃ q,levelP op=q:=⟨_,rfl⟩
 rw [hq]
 unfold levelP at hq
 refine a129 (by simp) ?_
 by_cases h7:op=7
 ·rw [if_pos (.inl h7)] at hq
  subst hq
  simp (disch:=first|assumption|omega) only [go_sem,h7]
  exact retC_by (by repeat' (first|exact Drop.refl _|with_reducible refine Drop.off ?_ (by assumption))) (.refl _) ⟨rfl,rfl⟩
 by_cases h8:op=8
 ·rw [if_pos (.inr h8)] at hq
  subst hq
  simp (disch:=first|assumption|omega) only [go_sem,h8]
  exact retC_by (by repeat' (first|exact Drop.refl _|with_reducible refine Drop.off ?_ (by assumption))) (.refl _) ⟨rfl,rfl⟩
 rw [if_neg (by omega)] at hq
 by_cases h9:op=9
 ·rw [if_pos h9] at hq
  subst hq
  simp (disch:=first|assumption|omega) only [go_sem,h9]
  exact retC_by (by repeat' (first|exact Drop.refl _|with_reducible refine Drop.off ?_ (by assumption))) (.refl _) ⟨rfl,rfl⟩
 rw [if_neg h9] at hq
 by_cases ha:op<10
 ·rw [if_pos (.inl ha)] at hq
  subst hq
  simp (disch:=first|assumption|omega) only [go_sem,h7,h8,h9,ha]
  exact retC_by (by repeat' (first|exact Drop.refl _|with_reducible refine Drop.off ?_ (by assumption))) (.refl _) ⟨rfl,rfl⟩
 by_cases hb:22<=op
 ·rw [if_pos (.inr hb)] at hq
  subst hq
  simp (disch:=first|assumption|omega) only [go_sem,h7,h8,h9,ha,hb]
  exact retC_by (by repeat' (first|exact Drop.refl _|with_reducible refine Drop.off ?_ (by assumption))) (.refl _) ⟨rfl,rfl⟩
 rw [if_neg (by omega)] at hq
 have hc:op=10\/op=11\/op=12\/op=13\/op=14\/op=15\/op=16\/op=17\/op=18\/op=19\/op=20\/op=21:=by omega
 rcases hc with rfl|rfl|rfl|rfl|rfl|rfl|rfl|rfl|rfl|rfl|rfl|rfl
 all_goals
  simp at hq
  subst hq
  simp (disch:=first|assumption|omega) only [go_sem]
  exact retC_by (by repeat' (first|exact Drop.refl _|with_reducible refine Drop.off ?_ (by assumption))) (.refl _) ⟨rfl,rfl⟩
theorem truth_ok (b:Bool):Pure Tryz.prog 123 [.bool b] (.str (truthP b)):=by
 intro σ
 refine a123 (by simp) ?_
 cases b<;>simp (disch:=first|assumption|omega) only [go_sem]
 all_goals exact retC_by (by repeat' (first|exact Drop.refl _|with_reducible refine Drop.off ?_ (by assumption))) (.refl _) ⟨rfl,rfl⟩
end Go.A
namespace Go.A
open Go.Proofs
/-! 124: tabular/expr.Failure -/
def c124_11:ACode := .seq (.ops [ oe 1 (.box (.t 0)),oq 2 (.mv (.v (.str [])))]) (.seq (.ops [ oq 4 (.fa 1 (.t 1)),oq 5 (.ld none (.t 4)),oe 6 (.call 178 [(.t 5)]),oq 3 (.mv (.t 6))]) (.seq (.seq (.ops [ oq 7 (.fa 0 (.t 1)),oq 8 (.ld none (.t 7)),oq 9 (.bin .neq (.t 8) (.v (.int .i64 4))),oq 10 (.mv (.t 9)),⟨some 11,some (10,false),.q (.mv (.t 3)),[]⟩,⟨some 12,some (10,false),.q (.bin .lss (.t 11) (.v (.int .i64 1))),[]⟩,oq 13 (.pick (.t 10) (.v (.bool true)) (.t 12)),oq 14 (.mv (.t 13)),⟨some 15,some (14,false),.q (.mv (.t 3)),[]⟩,⟨some 16,some (14,false),.e (.call 70 []),[]⟩,⟨some 17,some (14,false),.q (.len (.t 16)),[]⟩,⟨some 18,some (14,false),.q (.bin .gtr (.t 15) (.t 17)),[]⟩,oq 19 (.pick (.t 14) (.v (.bool true)) (.t 18))]) (.cond (.t 19) (.seq (.ops [ oq 2 (.mv (.v (.str [])))]) .ret) .skip)) (.seq (.ops [ oe 20 (.call 70 []),oq 21 (.mv (.t 3)),oq 22 (.bin .sub (.t 21) (.v (.int .i64 1))),oq 23 (.ia 1 (.t 20) (.t 22)),oq 24 (.ld none (.t 23)),oq 2 (.mv (.t 24))]) .ret)))
@[go_sem] def c124_11_wp:=wp_of c124_11.eq_1
def c124:AFn:=⟨25,[.t 2],c124_11⟩
theorem c124_ok:compF Tryz.prog Tryz.f124=some c124:=by kernel_rfl
theorem a124 {args:List AV} {σ:ASt} {R:AV->ASt->Prop} (hl:args.length<=25) (h:c124_11.wp Tryz.prog (RetQ [.t 2] R) (init args) σ):ACalls Tryz.prog 124 args σ R:=aFq Tryz.func124 c124_ok hl h
end Go.A
namespace Go.A
open Go.Proofs Go.Lib
theorem failure_ok (op n:Int) (s:List UInt8) (a b:Ref) (kids:List Nd) (hn:n.natAbs<=999999999999999999):Pure Tryz.prog 124 [(Nd.mk op n s a b kids).av] (.str (failT op n)):=by
 intro σ
 have hW:=whole_ok hn
 have hE:=tenames_ok
 obtain ⟨q,hq⟩:∃ q,failT op n=q:=⟨_,rfl⟩
 rw [hq]
 unfold failT at hq
 rw [Nd.av_cs]
 generalize n.tdiv 10000=i at *
 refine a124 (by simp) ?_
 simp (disch:=first|assumption|omega) only [go_sem]
 refine boxC_by rfl fun c hc=>?_
 simp (disch:=first|assumption|omega) only [go_sem]
 refine hW.use ?_
 by_cases h4:op=4
 ·by_cases h2:i<1
  ·rw [if_pos (.inr (.inl h2))] at hq
   subst hq
   simp (disch:=first|assumption|omega) only [go_sem,h4,h2]
   exact retC_by (by repeat' (first|exact Drop.refl _|with_reducible refine Drop.off ?_ (by assumption))) (.refl _) ⟨rfl,rfl⟩
  ·by_cases h3:7<i
   ·rw [if_pos (.inr (.inr h3))] at hq
    subst hq
    simp (disch:=first|assumption|omega) only [go_sem,h4,h2]
    refine hE.use ?_
    unfold errL
    simp (disch:=first|assumption|omega) only [go_sem,h3]
    exact retC_by (by repeat' (first|exact Drop.refl _|with_reducible refine Drop.off ?_ (by assumption))) (.refl _) ⟨rfl,rfl⟩
   ·rw [if_neg (by omega)] at hq
    have hc:i=1\/i=2\/i=3\/i=4\/i=5\/i=6\/i=7:=by omega
    subst hq
    rcases hc with rfl|rfl|rfl|rfl|rfl|rfl|rfl
    all_goals
     simp (disch:=first|assumption|omega) only [go_sem,h4]
     refine hE.use ?_
     unfold errL
     simp (disch:=first|assumption|omega) only [go_sem]
     refine hE.use ?_
     unfold errL
     simp (disch:=first|assumption|omega) only [go_sem]
     exact retC_by (by repeat' (first|exact Drop.refl _|with_reducible refine Drop.off ?_ (by assumption))) (.refl _) ⟨rfl,rfl⟩
 ·rw [if_pos (.inl h4)] at hq
  subst hq
  simp (disch:=first|assumption|omega) only [go_sem,h4]
  exact retC_by (by repeat' (first|exact Drop.refl _|with_reducible refine Drop.off ?_ (by assumption))) (.refl _) ⟨rfl,rfl⟩
theorem sizes_len:∀ l:List Nd,l.length<=Nd.sizes l
 | []=>by simp
 | x::l=>by have:=x.size_pos;have:=sizes_len l;rw [Nd.sizes,List.length_cons];omega
end Go.A
namespace Go.A
open Go.Proofs
/-! 75: tabular/expr.spell -/
def c75_43:ACode := .seq (.ops [ oq 117 (.bin .lss (.t 116) (.t 115))]) (.seq (.cond (.t 117) .skip (.exit 1)) (.seq (.block 2 (.seq (.ops [ oq 118 (.mv (.t 116)),oq 119 (.ia 12 (.t 114) (.t 116)),oq 120 (.ld (some 12) (.t 119)),oe 5 (.alloc [(.int .i64 0),(.int .i64 0),(.str []),(.int .i64 0),(.int .i64 0),(.bool false),(.bool false),(.int .i64 0),(.int .i64 0),(.bool false),(.bool false),(.sl .full [])]),oq 4 (.mv (.t 118)),oz (.store 12 (.t 5) (.t 120))]) (.seq (.seq (.ops [ oq 121 (.mv (.t 4)),oq 122 (.bin .gtr (.t 121) (.v (.int .i64 0)))]) (.cond (.t 122) (.ops [ oq 123 (.mv (.t 0)),oe 124 (.call 127 [(.t 123),(.v (.int .u8 44))])]) .skip)) (.ops [ oq 125 (.mv (.t 0)),oq 126 (.ld (some 12) (.t 5)),oe 127 (.call 75 [(.t 125),(.t 126)])])))) (.ops [ oq 128 (.bin .add (.t 116) (.v (.int .i64 1))),oq 116 (.mv (.t 128))])))
def c75_47:ACode := .ops [ oq 129 (.mv (.t 0)),oe 130 (.call 127 [(.t 129),(.v (.int .u8 41))])]
def c75_67:ACode := .cond (.t 70) (.ops [ oq 72 (.mv (.t 0)),oq 73 (.fa 3 (.t 3)),oq 74 (.ld (some 4) (.t 73)),oq 75 (.fa 7 (.t 3)),oq 76 (.ld (some 4) (.t 75)),oq 77 (.build [(.int .i64 0),(.int .i64 0),(.bool false),(.bool false),(.int .i64 0),(.int .i64 0),(.bool false),(.bool false)] [(0,4,(.t 74)),(4,4,(.t 76))]),oe 78 (.call 126 [(.t 77)]),oe 79 (.call 120 [(.t 72),(.t 78)])]) (.seq (.seq (.ops [ oq 81 (.bin .eql (.t 8) (.v (.int .i64 7))),oq 80 (.mv (.t 81))]) (.cond (.t 80) .skip (.ops [ oq 82 (.bin .eql (.t 8) (.v (.int .i64 8))),oq 80 (.mv (.t 82))]))) (.cond (.t 80) (.seq (.ops [ oq 83 (.mv (.t 0)),oq 84 (.fa 0 (.t 3)),oq 85 (.ld none (.t 84)),oq 86 (.bin .sub (.t 85) (.v (.int .i64 7))),oq 87 (.idx (.v (.str [45,43])) (.t 86)),oe 88 (.call 127 [(.t 83),(.t 87)])]) (.ops [ oq 89 (.mv (.t 0)),oq 90 (.fa 11 (.t 3)),oq 91 (.ld none (.t 90)),oq 92 (.ia 12 (.t 91) (.v (.int .i64 0))),oq 93 (.ld (some 12) (.t 92)),oe 94 (.call 128 [(.t 89),(.t 93),(.v (.int .i64 6))])])) (.seq (.ops [ oq 96 (.bin .eql (.t 8) (.v (.int .i64 9))),oq 95 (.mv (.t 96))]) (.cond (.t 95) (.seq (.ops [ oq 97 (.mv (.t 0)),oq 98 (.fa 11 (.t 3)),oq 99 (.ld none (.t 98)),oq 100 (.ia 12 (.t 99) (.v (.int .i64 0))),oq 101 (.ld (some 12) (.t 100)),oe 102 (.call 128 [(.t 97),(.t 101),(.v (.int .i64 7))])]) (.ops [ oq 103 (.mv (.t 0)),oe 104 (.call 127 [(.t 103),(.v (.int .u8 37))])])) (.seq (.ops [ oq 106 (.bin .eql (.t 8) (.v (.int .i64 22))),oq 105 (.mv (.t 106))]) (.cond (.t 105) (.seq (.ops [ oq 107 (.mv (.t 0)),oq 108 (.fa 2 (.t 3)),oq 109 (.ld none (.t 108)),oe 110 (.call 120 [(.t 107),(.t 109)])]) (.seq (.ops [ oq 111 (.mv (.t 0)),oe 112 (.call 127 [(.t 111),(.v (.int .u8 40))])]) (.seq (.seq (.ops [ oq 113 (.fa 11 (.t 3)),oq 114 (.ld none (.t 113)),oq 115 (.len (.t 114)),oq 116 (.mv (.v (.int .i64 0)))]) (.block 1 (.loop c75_43))) c75_47))) (.seq (.ops [ oq 132 (.bin .eql (.t 8) (.v (.int .i64 23))),oq 131 (.mv (.t 132))]) (.cond (.t 131) .skip (.seq (.ops [ oq 9 (.fa 0 (.t 3)),oq 10 (.ld none (.t 9)),oe 11 (.call 129 [(.t 10)]),oq 6 (.mv (.t 11))]) (.seq (.ops [ oq 12 (.mv (.t 0)),oq 13 (.fa 11 (.t 3)),oq 14 (.ld none (.t 13)),oq 15 (.ia 12 (.t 14) (.v (.int .i64 0))),oq 16 (.ld (some 12) (.t 15)),oq 17 (.mv (.t 6)),oe 18 (.call 128 [(.t 12),(.t 16),(.t 17)])]) (.seq (.ops [ oq 19 (.mv (.t 0)),oq 21 (.fa 0 (.t 3)),oq 22 (.ld none (.t 21)),oq 23 (.bin .sub (.t 22) (.v (.int .i64 10))),⟨some 20,none,.e (.call 112 []),[⟨none,.ld none (.t 21),22⟩]⟩,oq 24 (.ia 1 (.t 20) (.t 23)),oq 25 (.ld none (.t 24)),oe 26 (.call 120 [(.t 19),(.t 25)])]) (.ops [ oq 27 (.mv (.t 0)),oq 28 (.fa 11 (.t 3)),oq 29 (.ld none (.t 28)),oq 30 (.ia 12 (.t 29) (.v (.int .i64 1))),oq 31 (.ld (some 12) (.t 30)),oq 32 (.mv (.t 6)),oq 33 (.bin .add (.t 32) (.v (.int .i64 1))),oe 34 (.call 128 [(.t 27),(.t 31),(.t 33)])]))))))))))))
def c75_81:ACode := .seq (.ops [ oe 3 (.box (.t 1))]) (.seq (.ops [ oq 7 (.fa 0 (.t 3)),oq 8 (.ld none (.t 7))]) (.block 0 (.seq (.ops [ oq 36 (.bin .eql (.t 8) (.v (.int .i64 1))),oq 35 (.mv (.t 36))]) (.cond (.t 35) (.ops [ oq 37 (.mv (.t 0)),oq 38 (.fa 1 (.t 3)),oq 39 (.ld none (.t 38)),oe 40 (.call 121 [(.t 39)]),oe 41 (.call 120 [(.t 37),(.t 40)])]) (.seq (.ops [ oq 43 (.bin .eql (.t 8) (.v (.int .i64 2))),oq 42 (.mv (.t 43))]) (.cond (.t 42) (.ops [ oq 44 (.mv (.t 0)),oq 45 (.fa 2 (.t 3)),oq 46 (.ld none (.t 45)),oe 47 (.call 122 [(.t 46)]),oe 48 (.call 120 [(.t 44),(.t 47)])]) (.seq (.ops [ oq 50 (.bin .eql (.t 8) (.v (.int .i64 3))),oq 49 (.mv (.t 50))]) (.cond (.t 49) (.ops [ oq 51 (.mv (.t 0)),oq 52 (.fa 1 (.t 3)),oq 53 (.ld none (.t 52)),oq 54 (.bin .neq (.t 53) (.v (.int .i64 0))),oe 55 (.call 123 [(.t 54)]),oe 56 (.call 120 [(.t 51),(.t 55)])]) (.seq (.ops [ oq 58 (.bin .eql (.t 8) (.v (.int .i64 4))),oq 57 (.mv (.t 58))]) (.cond (.t 57) (.ops [ oq 59 (.mv (.t 0)),oq 60 (.ld (some 12) (.t 3)),oe 61 (.call 124 [(.t 60)]),oe 62 (.call 120 [(.t 59),(.t 61)])]) (.seq (.ops [ oq 64 (.bin .eql (.t 8) (.v (.int .i64 5))),oq 63 (.mv (.t 64))]) (.cond (.t 63) (.ops [ oq 65 (.mv (.t 0)),oq 66 (.fa 3 (.t 3)),oq 67 (.ld (some 4) (.t 66)),oe 68 (.call 125 [(.t 67)]),oe 69 (.call 120 [(.t 65),(.t 68)])]) (.seq (.ops [ oq 71 (.bin .eql (.t 8) (.v (.int .i64 6))),oq 70 (.mv (.t 71))]) c75_67)))))))))))))
@[go_sem] def c75_43_wp:=wp_of c75_43.eq_1
@[go_sem] def c75_47_wp:=wp_of c75_47.eq_1
@[go_sem] def c75_67_wp:=wp_of c75_67.eq_1
@[go_sem] def c75_81_wp:=wp_of c75_81.eq_1
def c75:AFn:=⟨133,[],c75_81⟩
theorem c75_ok:compF Tryz.prog Tryz.f75=some c75:=by kernel_rfl
theorem a75 {args:List AV} {σ:ASt} {R:AV->ASt->Prop} (hl:args.length<=133) (h:c75_81.wp Tryz.prog (RetQ [] R) (init args) σ):ACalls Tryz.prog 75 args σ R:=aFq Tryz.func75 c75_ok hl h
/-! 128: tabular/expr.inside -/
def c128_12:ACode := .seq (.ops [ oe 4 (.box (.t 1))]) (.seq (.seq (.ops [ oq 6 (.fa 0 (.t 4)),oq 7 (.ld none (.t 6)),oe 8 (.call 129 [(.t 7)]),oq 9 (.mv (.t 2)),oq 10 (.bin .geq (.t 8) (.t 9))]) (.cond (.t 10) (.seq (.ops [ oq 11 (.mv (.t 0)),oq 12 (.ld (some 12) (.t 4)),oe 13 (.call 75 [(.t 11),(.t 12)])]) .ret) .skip)) (.seq (.ops [ oq 14 (.mv (.t 0)),oe 15 (.call 127 [(.t 14),(.v (.int .u8 40))])]) (.seq (.ops [ oq 16 (.mv (.t 0)),oq 17 (.ld (some 12) (.t 4)),oe 18 (.call 75 [(.t 16),(.t 17)])]) (.ops [ oq 19 (.mv (.t 0)),oe 20 (.call 127 [(.t 19),(.v (.int .u8 41))])]))))
@[go_sem] def c128_12_wp:=wp_of c128_12.eq_1
def c128:AFn:=⟨21,[],c128_12⟩
theorem c128_ok:compF Tryz.prog Tryz.f128=some c128:=by kernel_rfl
theorem a128 {args:List AV} {σ:ASt} {R:AV->ASt->Prop} (hl:args.length<=21) (h:c128_12.wp Tryz.prog (RetQ [] R) (init args) σ):ACalls Tryz.prog 128 args σ R:=aFq Tryz.func128 c128_ok hl h
end Go.A
namespace Go.A
open Go.Proofs Go.Lib
theorem BD.tab {σ0 σ:ASt} {b:Nat} {l:List UInt8} (h:BD σ0 b l σ) (hb:σ0 b=none) (hT:Tab σ0):Tab σ:=h.at (by intro e;unfold Tab at hT;rw [e,hb] at hT;cases hT) hT
theorem BD.maxL {σ0 σ:ASt} {b:Nat} {l:List UInt8} (h:BD σ0 b l σ) (hb:σ0 b=none) (hM:MaxL σ0):MaxL σ:=by
 obtain ⟨m,hm⟩:=hM
 exact ⟨m,h.at (by intro e;rw [e,hb] at hm;cases hm) hm⟩
theorem MaxL.set {σ:ASt} {b:Nat} {r:Option Role} (h:MaxL σ) (hb:σ b=none):MaxL (σ.set b r):=by
 obtain ⟨m,hm⟩:=h
 exact ⟨m,by rw [ASt.set_ne];exact hm;intro e;rw [e,hb] at hm;cases hm⟩
def SpellOk (n:Nd):Prop:=∀ (σ0 σ:ASt) (b:Nat) (l:List UInt8),BD σ0 b l σ->σ0 b=none->Tab σ0->MaxL σ0->l.length+n.spell.length<=900000000 →
  ACalls Tryz.prog 75 [.ptr b 0,n.av] σ fun v σ'=>v = .tuple []/\BD σ0 b (l++n.spell) σ'
theorem inside_ok {n:Nd} (hs:SpellOk n) (ho:1<=n.op/\n.op<=23) (least:Int) {σ0 σ:ASt} {b:Nat} {l:List UInt8} (h:BD σ0 b l σ) (hb:σ0 b=none) (hT:Tab σ0) (hM:MaxL σ0) (hl:l.length+(insT least n.op n.spell).length<=900000000) :
  ACalls Tryz.prog 128 [.ptr b 0,n.av,.int .i64 least] σ fun v σ'=>v = .tuple []/\BD σ0 b (l++insT least n.op n.spell) σ':=by
 have hL:=level_ok n.op (by omega) (by omega)
 have hS:∀ {σ0 σ:ASt} {b:Nat} {l:List UInt8},BD σ0 b l σ->σ0 b=none->Tab σ0->MaxL σ0->l.length+n.spell.length<=900000000 →
  ACalls Tryz.prog 75 [.ptr b 0,n.av] σ fun v σ'=>v = .tuple []/\BD σ0 b (l++n.spell) σ':=fun {_ _ _ _}=>hs _ _ _ _
 clear hs
 obtain ⟨op,m,s,a,d,kids⟩:=n
 rw [Nd.av_cs] at hS ⊢
 generalize (Nd.mk op m s a d kids).spell=t at *
 simp only [Nd.op] at hL hl ho ⊢
 generalize kids.map Nd.av=L at *
 refine a128 (by simp) ?_
 simp (disch:=first|assumption|omega) only [go_sem]
 refine boxC_by rfl fun c hc=>?_
 obtain ⟨hB,hcb,hc0⟩:=h.add hc (r := .obj (Nd.cs op m s a d L))
 have hb1:(σ0.set c (some (.obj (Nd.cs op m s a d L)))) b=none:=by rw [ASt.set_ne (Ne.symm hcb)];exact hb
 have hT1:=hT.set hc0 (r:=some (.obj (Nd.cs op m s a d L)))
 have hM1:=hM.set hc0 (r:=some (.obj (Nd.cs op m s a d L)))
 have hcell:∀ {l':List UInt8} {σ1:ASt},BD (σ0.set c (some (.obj (Nd.cs op m s a d L)))) b l' σ1->σ1 c=some (.obj (Nd.cs op m s a d L)):=fun h=>h.at hcb (ASt.set_same _ _ _)
 have hoff:∀ {l':List UInt8} {σ1:ASt},BD (σ0.set c (some (.obj (Nd.cs op m s a d L)))) b l' σ1->∃ σ',Drop σ1 σ'/\BD σ0 b l' σ':=fun h=>h.off hcb hc0
 have hc1:=hcell hB
 rw [cells_agg]
 generalize σ0.set c (some (.obj (Nd.cs op m s a d L)))=τ at hB hb1 hT1 hM1 hcell hoff
 generalize σ.set c (some (.obj (Nd.cs op m s a d L)))=σ1 at hB hc1 ⊢
 unfold insT at hl ⊢
 by_cases hlv:least<=levelP op
 ·rw [if_pos hlv] at hl ⊢
  generalize levelP op=lv at *
  simp (disch:=first|assumption|omega) only [go_sem,hc1]
  refine hL.use ?_
  simp (disch:=first|assumption|omega) only [go_sem,hc1,hlv]
  refine (hS hB hb1 hT1 hM1 hl).mono ?_
  rintro v σ2 ⟨rfl,hB2⟩
  simp (disch:=first|assumption|omega) only [go_sem]
  obtain ⟨σ3,hd,hB3⟩:=hoff hB2
  exact retC_by hd (.refl _) ⟨rfl,hB3⟩
 ·rw [if_neg hlv] at hl ⊢
  generalize levelP op=lv at *
  simp only [List.length_append,List.length_cons,List.length_nil] at hl
  simp (disch:=first|assumption|omega) only [go_sem,hc1]
  refine hL.use ?_
  simp (disch:=first|assumption|omega) only [go_sem,hlv]
  refine (writeByte_ok hB 40 (by omega)).mono ?_
  rintro v σ2 ⟨rfl,hB2⟩
  have hc2:=hcell hB2
  simp (disch:=first|assumption|omega) only [go_sem,hc2]
  refine (hS hB2 hb1 hT1 hM1 (by simp only [List.length_append,List.length_cons,List.length_nil];omega)).mono ?_
  rintro v σ3 ⟨rfl,hB3⟩
  simp (disch:=first|assumption|omega) only [go_sem]
  refine (writeByte_ok hB3 41 (by simp only [List.length_append,List.length_cons,List.length_nil];omega)).mono ?_
  rintro v σ4 ⟨rfl,hB4⟩
  simp (disch:=first|assumption|omega) only [go_sem]
  obtain ⟨σ5,hd,hB5⟩:=hoff hB4
  refine retC_by hd (.refl _) ⟨rfl,?_⟩
  have e:l++40::(t ++ [41])=l ++ [40]++t ++ [41]:=by simp
  rw [e];exact hB5
theorem textD_ne (n:Int):textD n ≠ []:=by
 unfold textD
 have:=dd_len_pos (n.natAbs / 10000)
 intro h
 rw [List.append_eq_nil_iff,List.append_eq_nil_iff] at h
 exact this h.2.1
theorem failT_ne {n:Int} (h1:1<=n.tdiv 10000) (h2:n.tdiv 10000<=7):failT 4 n ≠ []:=by
 unfold failT
 generalize n.tdiv 10000=i at *
 rw [if_neg (by omega)]
 have hc:i=1\/i=2\/i=3\/i=4\/i=5\/i=6\/i=7:=by omega
 rcases hc with rfl|rfl|rfl|rfl|rfl|rfl|rfl<;>decide
theorem truthP_ne (b:Bool):truthP b ≠ []:=by cases b<;>decide
theorem joinC_snoc:∀ (L:List (Int×List UInt8)) (p:Int×List UInt8),L ≠ []->joinC (L ++ [p])=joinC L++44::p.2
 | [],p,h=>absurd rfl h
 | q::r,p,_=>by simp [joinC]
theorem joinC_take_le:∀ (L:List (Int×List UInt8)) (i:Nat),(joinC (L.take i)).length<=(joinC L).length
 | [],i=>by simp
 | q::r,0=>by simp [joinC]
 | q::r,i+1=>by
   rw [List.take_succ_cons]
   simp only [joinC,List.length_append]
   have:∀ (r:List (Int×List UInt8)) (i:Nat),((r.take i).flatMap fun q=>44::q.2).length<=(r.flatMap fun q=>44::q.2).length:=by
    intro r
    induction r with
    | nil=>intro i;simp
    | cons x r ih=>
      intro i
      cases i with
      | zero=>simp
      | succ i=>rw [List.take_succ_cons,List.flatMap_cons,List.flatMap_cons,List.length_append,List.length_append];have:=ih i;omega
   have:=this r i
   omega
theorem textP_ne {r:Ref} (h:r.good=true):textP r ≠ []:=by
 intro e
 have:=(text_len h).1
 rw [e] at this
 simp at this
theorem sign_len (k:Nat):(signL.getD k []).length<=2:=by
 unfold signL
 rcases k with _|_|_|_|_|_|_|_|_|_|_|_|k<;>simp
set_option maxHeartbeats 2000000 in
theorem spell_ok:∀ (k:Nat) (n:Nd),n.size<=k->n.ok->SpellOk n
 | 0,n,hk,_=>by have:=n.size_pos;omega
 | k+1,n,hk,hn=>by
   have ih:=spell_ok k
   intro σ0 σ b l h hb hT hM hl
   obtain ⟨op,m,s,a,d,kids⟩:=n
   rw [Nd.size] at hk
   rw [Nd.ok] at hn
   obtain ⟨⟨ho,g1,g2,g4,gc,g5,g6,g7,gb,gk⟩,hks⟩:=hn
   have hkid:∀ x∈kids,SpellOk x/\1<=x.op/\x.op<=23:=fun x hx=>by
    have h1:=Nd.size_kid hx
    have h2:=Nd.oks_mem.1 hks x hx
    refine ⟨ih x (by omega) h2,?_⟩
    obtain ⟨o',_,_,_,_,_⟩:=x
    rw [Nd.ok] at h2
    exact h2.1.1
   obtain ⟨w,hw⟩:∃ w,(Nd.mk op m s a d kids).spell=w:=⟨_,rfl⟩
   rw [hw] at hl ⊢
   rw [Nd.spell,Nd.spells_map] at hw
   unfold spellK at hw
   rw [Nd.av_cs]
   refine a75 (by simp) ?_
   simp (disch:=first|assumption|omega) only [go_sem]
   refine boxC_by rfl fun c hc=>?_
   obtain ⟨hB,hcb,hc0⟩:=h.add hc (r := .obj (Nd.cs op m s a d (kids.map Nd.av)))
   have hb1:(σ0.set c (some (.obj (Nd.cs op m s a d (kids.map Nd.av))))) b=none:=by rw [ASt.set_ne (Ne.symm hcb)];exact hb
   have hT1:=hT.set hc0 (r:=some (.obj (Nd.cs op m s a d (kids.map Nd.av))))
   have hM1:=hM.set hc0 (r:=some (.obj (Nd.cs op m s a d (kids.map Nd.av))))
   have hcell:∀ {l':List UInt8} {σ1:ASt},BD (σ0.set c (some (.obj (Nd.cs op m s a d (kids.map Nd.av))))) b l' σ1->σ1 c=some (.obj (Nd.cs op m s a d (kids.map Nd.av))):=fun h=>h.at hcb (ASt.set_same _ _ _)
   have hoff:∀ {l':List UInt8} {σ1:ASt},BD (σ0.set c (some (.obj (Nd.cs op m s a d (kids.map Nd.av))))) b l' σ1->∃ σ',Drop σ1 σ'/\BD σ0 b l' σ':=fun h=>h.off hcb hc0
   have hc1:=hcell hB
   rw [cells_agg]
   generalize σ0.set c (some (.obj (Nd.cs op m s a d (kids.map Nd.av))))=τ at hB hb1 hT1 hM1 hcell hoff
   generalize σ.set c (some (.obj (Nd.cs op m s a d (kids.map Nd.av))))=σ1 at hB hc1 ⊢
   have hT2:=BD.tab hB hb1 hT1
   have hM2:=BD.maxL hB hb1 hM1
   by_cases h1:op=1
   ·subst h1
    rw [if_pos rfl] at hw
    subst hw
    simp (disch:=first|assumption|omega) only [go_sem,hc1]
    refine (dtext_ok hT2 (g1 rfl)).mono ?_
    rintro v σ' ⟨rfl,rfl⟩
    simp (disch:=first|assumption|omega) only [go_sem]
    refine (writes1_ok hB _ (textD_ne m) (by omega)).mono ?_
    rintro v σ2 ⟨rfl,hB2⟩
    simp (disch:=first|assumption|omega) only [go_sem]
    obtain ⟨σ3,hd,hB3⟩:=hoff hB2
    exact retC_by hd (.refl _) ⟨rfl,hB3⟩
   rw [if_neg h1] at hw
   by_cases h2:op=2
   ·subst h2
    rw [if_pos rfl] at hw
    have hQ2:=tquote_ok hM2 s (g2 rfl)
    have hQ:quotT s=34::dbl s ++ [34]:=rfl
    rw [hQ] at hw
    rw [hw] at hQ2
    have hwn:w ≠ []:=by rw [<-hw];simp
    simp (disch:=first|assumption|omega) only [go_sem,hc1]
    refine hQ2.mono ?_
    rintro v σ' ⟨rfl,rfl⟩
    simp (disch:=first|assumption|omega) only [go_sem]
    refine (writes1_ok hB _ hwn (by omega)).mono ?_
    rintro v σ2 ⟨rfl,hB2⟩
    simp (disch:=first|assumption|omega) only [go_sem]
    obtain ⟨σ3,hd,hB3⟩:=hoff hB2
    exact retC_by hd (.refl _) ⟨rfl,hB3⟩
   rw [if_neg h2] at hw
   by_cases h3:op=3
   ·subst h3
    rw [if_pos rfl] at hw
    have hQ:=truth_ok (!decide (m=0))
    have hwn:w ≠ []:=by rw [<-hw];exact truthP_ne _
    rw [hw] at hQ
    simp (disch:=first|assumption|omega) only [go_sem,hc1]
    refine hQ.use ?_
    simp (disch:=first|assumption|omega) only [go_sem]
    refine (writes1_ok hB _ hwn (by omega)).mono ?_
    rintro v σ2 ⟨rfl,hB2⟩
    simp (disch:=first|assumption|omega) only [go_sem]
    obtain ⟨σ3,hd,hB3⟩:=hoff hB2
    exact retC_by hd (.refl _) ⟨rfl,hB3⟩
   rw [if_neg h3] at hw
   by_cases h4:op=4
   ·subst h4
    rw [if_pos rfl] at hw
    obtain ⟨f1,f2⟩:=g4 rfl
    have hwn:w ≠ []:=by rw [<-hw];exact failT_ne f1 f2
    have hmb:m.natAbs<=999999999999999999:=by have:(m.tdiv 10000).natAbs=m.natAbs / 10000:=Int.natAbs_tdiv m 10000;omega
    have hQ:=failure_ok 4 m s a d kids hmb
    rw [Nd.av_cs,hw] at hQ
    simp (disch:=first|assumption|omega) only [go_sem,hc1]
    refine hQ.use ?_
    simp (disch:=first|assumption|omega) only [go_sem]
    refine (writes1_ok hB _ hwn (by omega)).mono ?_
    rintro v σ2 ⟨rfl,hB2⟩
    simp (disch:=first|assumption|omega) only [go_sem]
    obtain ⟨σ3,hd,hB3⟩:=hoff hB2
    exact retC_by hd (.refl _) ⟨rfl,hB3⟩
   rw [if_neg h4] at hw
   by_cases h5:op=5
   ·subst h5
    rw [if_pos rfl] at hw
    have hQ:=text_ok hT2 (g5 (.inl rfl))
    have hwn:w ≠ []:=by rw [<-hw];exact textP_ne (g5 (.inl rfl))
    rw [hw] at hQ
    unfold refAV at hQ
    simp (disch:=first|assumption|omega) only [go_sem,hc1]
    refine hQ.mono ?_
    rintro v σ' ⟨rfl,rfl⟩
    simp (disch:=first|assumption|omega) only [go_sem]
    refine (writes1_ok hB _ hwn (by omega)).mono ?_
    rintro v σ2 ⟨rfl,hB2⟩
    simp (disch:=first|assumption|omega) only [go_sem]
    obtain ⟨σ3,hd,hB3⟩:=hoff hB2
    exact retC_by hd (.refl _) ⟨rfl,hB3⟩
   rw [if_neg h5] at hw
   by_cases h6:op=6
   ·subst h6
    rw [if_pos rfl] at hw
    have hQ:=atext_ok hT2 (g5 (.inr rfl)) (g6 rfl)
    have hwn:w ≠ []:=by rw [<-hw];simp
    rw [hw] at hQ
    unfold areaAV at hQ
    simp (disch:=first|assumption|omega) only [go_sem,hc1]
    refine hQ.mono ?_
    rintro v σ' ⟨rfl,rfl⟩
    simp (disch:=first|assumption|omega) only [go_sem]
    refine (writes1_ok hB _ hwn (by omega)).mono ?_
    rintro v σ2 ⟨rfl,hB2⟩
    simp (disch:=first|assumption|omega) only [go_sem]
    obtain ⟨σ3,hd,hB3⟩:=hoff hB2
    exact retC_by hd (.refl _) ⟨rfl,hB3⟩
   rw [if_neg h6] at hw
   by_cases h7:op=7\/op=8
   ·rw [if_pos h7] at hw
    obtain ⟨x,ks,rfl⟩:∃ x ks,kids=x::ks:=by
     cases kids with
     | nil=>have:=g7 (by omega);simp at this
     | cons x ks=>exact ⟨x,ks,rfl⟩
    obtain ⟨i1,i2⟩:=hkid x (by simp)
    have hI:=fun l' σ' (hB:BD τ b l' σ') hl'=>inside_ok i1 i2 6 hB hb1 hT1 hM1 hl'
    simp only [List.map_cons,List.getD_cons_zero] at hw
    generalize insT 6 x.op x.spell=t at *
    obtain ⟨xo,xm,xs,xa,xb,xk⟩:=x
    simp only [List.map_cons] at hcell hc1 ⊢
    rw [Nd.av_cs] at hI
    simp only [Nd.av_cs] at hcell hc1 ⊢
    generalize ks.map Nd.av=K at *
    rcases h7 with rfl|rfl
    ·simp only [if_true] at hw
     subst hw
     simp only [List.length_cons] at hl
     simp (disch:=first|assumption|omega) only [go_sem,hc1]
     refine (writeByte_ok hB 45 (by omega)).mono ?_
     rintro v σ2 ⟨rfl,hB2⟩
     have hc2:=hcell hB2
     simp (disch:=first|assumption|omega) only [go_sem,hc2]
     refine (hI _ _ hB2 (by simp only [List.length_append,List.length_cons,List.length_nil];omega)).mono ?_
     rintro v σ3 ⟨rfl,hB3⟩
     simp (disch:=first|assumption|omega) only [go_sem]
     obtain ⟨σ4,hd,hB4⟩:=hoff hB3
     refine retC_by hd (.refl _) ⟨rfl,?_⟩
     have e:l++45::t=l ++ [45]++t:=by simp
     rw [e];exact hB4
    ·rw [if_neg (by decide)] at hw
     subst hw
     simp only [List.length_cons] at hl
     simp (disch:=first|assumption|omega) only [go_sem,hc1]
     refine (writeByte_ok hB 43 (by omega)).mono ?_
     rintro v σ2 ⟨rfl,hB2⟩
     have hc2:=hcell hB2
     simp (disch:=first|assumption|omega) only [go_sem,hc2]
     refine (hI _ _ hB2 (by simp only [List.length_append,List.length_cons,List.length_nil];omega)).mono ?_
     rintro v σ3 ⟨rfl,hB3⟩
     simp (disch:=first|assumption|omega) only [go_sem]
     obtain ⟨σ4,hd,hB4⟩:=hoff hB3
     refine retC_by hd (.refl _) ⟨rfl,?_⟩
     have e:l++43::t=l ++ [43]++t:=by simp
     rw [e];exact hB4
   rw [if_neg h7] at hw
   have h7a:op≠7:=by omega
   have h7b:op≠8:=by omega
   by_cases h9:op=9
   ·subst h9
    rw [if_pos rfl] at hw
    obtain ⟨x,ks,rfl⟩:∃ x ks,kids=x::ks:=by
     cases kids with
     | nil=>have:=g7 (by omega);simp at this
     | cons x ks=>exact ⟨x,ks,rfl⟩
    obtain ⟨i1,i2⟩:=hkid x (by simp)
    have hI:=fun l' σ' (hB:BD τ b l' σ') hl'=>inside_ok i1 i2 7 hB hb1 hT1 hM1 hl'
    simp only [List.map_cons,List.getD_cons_zero] at hw
    generalize insT 7 x.op x.spell=t at *
    obtain ⟨xo,xm,xs,xa,xb,xk⟩:=x
    rw [Nd.av_cs] at hI
    simp only [List.map_cons,Nd.av_cs] at hcell hc1 ⊢
    generalize ks.map Nd.av=K at *
    subst hw
    simp only [List.length_append,List.length_cons,List.length_nil] at hl
    simp (disch:=first|assumption|omega) only [go_sem,hc1]
    refine (hI _ _ hB (by omega)).mono ?_
    rintro v σ2 ⟨rfl,hB2⟩
    simp (disch:=first|assumption|omega) only [go_sem]
    refine (writeByte_ok hB2 37 (by simp only [List.length_append];omega)).mono ?_
    rintro v σ3 ⟨rfl,hB3⟩
    simp (disch:=first|assumption|omega) only [go_sem]
    obtain ⟨σ4,hd,hB4⟩:=hoff hB3
    refine retC_by hd (.refl _) ⟨rfl,?_⟩
    rw [<-List.append_assoc];exact hB4
   rw [if_neg h9] at hw
   by_cases h22:op=22
   ·subst h22
    rw [if_pos rfl] at hw
    have hsn:=gc rfl
    have hjt:=joinC_take_le (kids.map fun x=>(x.op,x.spell))
    have hspl:∀ (i:Nat) (x:Nd),kids[i]? = some x->(kids.map fun x=>(x.op,x.spell)).take (i+1)=(kids.map fun x=>(x.op,x.spell)).take i ++ [(x.op,x.spell)]:=by
     intro i x hx
     have hlt:i<kids.length:=(List.getElem?_eq_some_iff.1 hx).1
     rw [List.take_add_one,List.getElem?_map,hx]
     rfl
    have hspn:∀ i,0<i->i<kids.length->(kids.map fun x=>(x.op,x.spell)).take i ≠ []:=by
     intro i h0 h1 e
     have:=congrArg List.length e
     rw [List.length_take,List.length_map,List.length_nil] at this
     omega
    have hspa:(kids.map fun x=>(x.op,x.spell)).take kids.length=kids.map fun x=>(x.op,x.spell):=List.take_of_length_le (by simp)
    have hspz:joinC ((kids.map fun x=>(x.op,x.spell)).take 0) = []:=rfl
    generalize (kids.map fun x=>(x.op,x.spell))=sp at *
    subst hw
    simp only [List.length_append,List.length_cons,List.length_nil] at hl
    simp (disch:=first|assumption|omega) only [go_sem,hc1]
    refine (writes1_ok hB _ hsn (by omega)).mono ?_
    rintro v σ2 ⟨rfl,hB2⟩
    simp (disch:=first|assumption|omega) only [go_sem]
    refine (writeByte_ok hB2 40 (by simp only [List.length_append];omega)).mono ?_
    rintro v σ3 ⟨rfl,hB3⟩
    have hc3:=hcell hB3
    obtain ⟨G,hG⟩:∃ G,G=ACode.wp Tryz.prog c75_47:=⟨_,rfl⟩
    simp (disch:=first|assumption|omega) only [go_sem,hc3,←hG]
    refine wp_loop_by (fun (i:Nat) a1 s2=>i<=kids.length/\(a1 0 = .ptr b 0/\a1 114 = .sl .shr (kids.map Nd.av)/\a1 115 = .int .i64 kids.length/\a1 116 = .int .i64 i)/\BD τ b (l++s ++ [40]++joinC (sp.take i)) s2) (fun i=>kids.length-i) 0 (Dr.now ⟨Nat.zero_le _,?_,?_⟩) ?_
    ·simp (disch:=first|assumption|omega) only [go_sem]
    ·rw [hspz,List.append_nil];exact hB3
    rintro i a1 s2 ⟨hi,hf,hBi⟩
    have hji:=hjt i
    by_cases hlt:i<kids.length
    ·have hlt':(i:Int)<kids.length:=by omega
     have hx : kids[i]? = some (kids[i]'hlt) := List.getElem?_eq_getElem hlt
     obtain ⟨x, hxe⟩ : ∃ x, kids[i]'hlt = x := ⟨_, rfl⟩
     rw [hxe] at hx
     have hmx:=Nd.get hx
     have hspx:=hspl i x hx
     have hjs:=hjt (i+1)
     obtain ⟨i1,i2⟩:=hkid x (List.mem_of_getElem? hx)
     obtain ⟨xo,xm,xs,xa,xb,xk⟩:=x
     rw [Nd.av_cs] at hmx
     have i1':∀ (σ0 σ:ASt) (b:Nat) (l:List UInt8),BD σ0 b l σ->σ0 b=none->Tab σ0->MaxL σ0->l.length+(Nd.mk xo xm xs xa xb xk).spell.length<=900000000 →
       ACalls Tryz.prog 75 [.ptr b 0,.agg (Nd.cs xo xm xs xa xb (xk.map Nd.av))] σ fun v σ'=>v = .tuple []/\BD σ0 b (l++(Nd.mk xo xm xs xa xb xk).spell) σ':=by rw [<-Nd.av_cs];exact i1
     generalize hxw:(Nd.mk xo xm xs xa xb xk).spell=xw at *
     generalize xk.map Nd.av=K at *
     generalize kids.map Nd.av=L at *
     simp (disch:=first|assumption|omega) only [go_sem,hf,hlt',hmx]
     refine aBq fun e he=>?_
     obtain ⟨hBe,heb,he0⟩:=hBi.add he (r := .obj (Nd.cs xo xm xs xa xb K))
     have hbe:(τ.set e (some (.obj (Nd.cs xo xm xs xa xb K)))) b=none:=by rw [ASt.set_ne (Ne.symm heb)];exact hb1
     have hTe:=hT1.set he0 (r:=some (.obj (Nd.cs xo xm xs xa xb K)))
     have hMe:=hM1.set he0 (r:=some (.obj (Nd.cs xo xm xs xa xb K)))
     have hcelle:∀ {l':List UInt8} {σ1:ASt},BD (τ.set e (some (.obj (Nd.cs xo xm xs xa xb K)))) b l' σ1->σ1 e=some (.obj (Nd.cs xo xm xs xa xb K)):=fun h=>h.at heb (ASt.set_same _ _ _)
     have hoffe:∀ {l':List UInt8} {σ1:ASt},BD (τ.set e (some (.obj (Nd.cs xo xm xs xa xb K)))) b l' σ1->∃ σ',Drop σ1 σ'/\BD τ b l' σ':=fun h=>h.off heb he0
     have hce:=hcelle hBe
     by_cases h0:i=0
     ·subst h0
      have hz:((0:Nat):Int)=0:=rfl
      have hj1:joinC (sp.take (0+1))=xw:=by rw [hspx];simp [joinC]
      rw [hj1] at hjs
      rw [hspz,List.append_nil] at hBe
      simp (disch:=first|assumption|omega) only [go_sem,hf,hz,ASt.set_set,hce]
      refine (i1' _ _ _ _ hBe hbe hTe hMe (by simp only [List.length_append,List.length_cons,List.length_nil];omega)).mono ?_
      rintro v σ4 ⟨rfl,hB4⟩
      simp (disch:=first|assumption|omega) only [go_sem,hf]
      obtain ⟨σ5,hd,hB5⟩:=hoffe hB4
      refine ⟨0+1,by dsimp only;omega,Dr.drop hd ⟨by omega,?_,?_⟩⟩
      ·simp (disch:=first|assumption|omega) only [go_sem,hf]
      ·rw [hj1];exact hB5
     ·have h0':(0:Int)<i:=by omega
      have hj1:joinC (sp.take (i+1))=joinC (sp.take i)++44::xw:=by rw [hspx,joinC_snoc _ _ (hspn i (by omega) hlt)]
      rw [hj1] at hjs
      simp only [List.length_append,List.length_cons] at hjs
      simp (disch:=first|assumption|omega) only [go_sem,hf,h0',ASt.set_set]
      refine (writeByte_ok hBe 44 (by simp only [List.length_append,List.length_cons,List.length_nil];omega)).mono ?_
      rintro v σ4 ⟨rfl,hB4⟩
      have hc4:=hcelle hB4
      simp (disch:=first|assumption|omega) only [go_sem,hf,hc4]
      refine (i1' _ _ _ _ hB4 hbe hTe hMe (by simp only [List.length_append,List.length_cons,List.length_nil];omega)).mono ?_
      rintro v σ5 ⟨rfl,hB5⟩
      simp (disch:=first|assumption|omega) only [go_sem,hf]
      obtain ⟨σ6,hd,hB6⟩:=hoffe hB5
      refine ⟨i+1,by dsimp only;omega,Dr.drop hd ⟨by omega,?_,?_⟩⟩
      ·simp (disch:=first|assumption|omega) only [go_sem,hf]
      ·have e2:l++s ++ [40]++joinC (sp.take (i+1))=l++s ++ [40]++joinC (sp.take i) ++ [44]++xw:=by rw [hj1];simp
       rw [e2];exact hB6
    ·have hlt':¬ (i:Int)<kids.length:=by omega
     have hie:i=kids.length:=by omega
     rw [hie,hspa] at hBi
     simp (disch:=first|assumption|omega) only [go_sem,hf,hlt']
     rw [hG]
     simp (disch:=first|assumption|omega) only [go_sem,hf]
     refine (writeByte_ok hBi 41 (by simp only [List.length_append,List.length_cons,List.length_nil];omega)).mono ?_
     rintro v σ4 ⟨rfl,hB4⟩
     simp (disch:=first|assumption|omega) only [go_sem]
     obtain ⟨σ5,hd,hB5⟩:=hoff hB4
     refine retC_by hd (.refl _) ⟨rfl,?_⟩
     have e2:l++(s++40::(joinC sp ++ [41]))=l++s ++ [40]++joinC sp ++ [41]:=by simp
     first
      | (rw [e2];exact hB5)
      | (have e3:l++(s++40::joinC sp ++ [41])=l++s ++ [40]++joinC sp ++ [41]:=by simp
         rw [e3];exact hB5)
   rw [if_neg h22] at hw
   by_cases h23:op=23
   ·subst h23
    rw [if_pos rfl] at hw
    subst hw
    simp (disch:=first|assumption|omega) only [go_sem,hc1]
    obtain ⟨σ3,hd,hB3⟩:=hoff hB
    exact retC_by hd (.refl _) ⟨rfl,hB3⟩
   rw [if_neg h23] at hw
   obtain ⟨x,y,ks,rfl⟩:∃ x y ks,kids=x::y::ks:=by
    have:=gb (by omega)
    match kids,this with
    | x::y::ks,_=>exact ⟨x,y,ks,rfl⟩
   obtain ⟨i1,i2⟩:=hkid x (by simp)
   obtain ⟨j1,j2⟩:=hkid y (by simp)
   have hI:=fun l' σ' (hB:BD τ b l' σ') hl'=>inside_ok i1 i2 (levelP op) hB hb1 hT1 hM1 hl'
   have hJ:=fun l' σ' (hB:BD τ b l' σ') hl'=>inside_ok j1 j2 (levelP op+1) hB hb1 hT1 hM1 hl'
   have hLv:=level_ok op (by omega) (by omega)
   have hlb:0<=levelP op/\levelP op<=8:=by unfold levelP;repeat' split
                                           all_goals omega
   simp only [List.map_cons,List.getD_cons_zero,List.getD_cons_succ] at hw
   generalize insT (levelP op) x.op x.spell=t at *
   generalize insT (levelP op+1) y.op y.spell=u at *
   generalize levelP op=lv at *
   obtain ⟨xo,xm,xs,xa,xb,xk⟩:=x
   obtain ⟨yo,ym,ys,ya,yb,yk⟩:=y
   rw [Nd.av_cs] at hI hJ
   simp only [List.map_cons,Nd.av_cs] at hcell hc1 ⊢
   generalize ks.map Nd.av=K at *
   obtain ⟨j,hj⟩:∃ j:Nat,op=j+10:=⟨(op-10).toNat,by omega⟩
   have hj2:(op-10).toNat=j:=by omega
   have hj3:op-10=(j:Int):=by omega
   rw [hj2] at hw
   have hjl:j<12:=by omega
   obtain ⟨sg, hsg⟩ : ∃ sg, signL[j]? = some sg := ⟨signL[j]'(by simp [signL]; omega), List.getElem?_eq_getElem _⟩
   have hsg2:signL.getD j []=sg:=by rw [List.getD_eq_getElem?_getD,hsg];rfl
   have hsl:=sign_len j
   have hsn:sg ≠ []:=by
    have:∀ j<12,signL.getD j [] ≠ []:=by decide
    rw [<-hsg2];exact this j hjl
   rw [hsg2] at hw hsl
   have hmg:(signL.map AV.str)[j]? = some (.str sg):=by rw [List.getElem?_map,hsg];rfl
   have hSg:=esigns_ok
   generalize signL.map AV.str=SL at *
   subst hw
   simp only [List.length_append] at hl
   simp (disch:=first|assumption|omega) only [go_sem,hc1,h1,h2,h3,h4,h5,h6,h7a,h7b,h9,h22,h23]
   refine hLv.use ?_
   simp (disch:=first|assumption|omega) only [go_sem,hc1]
   refine (hI _ _ hB (by omega)).mono ?_
   rintro v σ2 ⟨rfl,hB2⟩
   have hc2:=hcell hB2
   simp (disch:=first|assumption|omega) only [go_sem,hc2]
   refine hSg.use ?_
   simp (disch:=first|assumption|omega) only [go_sem,hc2,hj3,hmg]
   refine (writes1_ok hB2 _ hsn (by simp only [List.length_append];omega)).mono ?_
   rintro v σ3 ⟨rfl,hB3⟩
   have hc3:=hcell hB3
   simp (disch:=first|assumption|omega) only [go_sem,hc3]
   refine (hJ _ _ hB3 (by simp only [List.length_append];omega)).mono ?_
   rintro v σ4 ⟨rfl,hB4⟩
   simp (disch:=first|assumption|omega) only [go_sem]
   obtain ⟨σ5,hd,hB5⟩:=hoff hB4
   refine retC_by hd (.refl _) ⟨rfl,?_⟩
   have e:l++(t++(sg++u))=l++t++sg++u:=by simp
   first
    | (rw [e];exact hB5)
    | (rw [<-List.append_assoc,← List.append_assoc];exact hB5)
end Go.A
namespace Go.A
open Go.Proofs
/-! 34: tabular/expr.Print -/
def c34_7:ACode := .seq (.ops [ oe 1 (.box (.t 0)),oq 2 (.mv (.v (.str [])))]) (.seq (.ops [ oe 3 (.allocT 149)]) (.seq (.ops [ oq 4 (.ld (some 12) (.t 1)),oe 5 (.call 75 [(.t 3),(.t 4)])]) (.seq (.ops [ oe 6 (.call 76 [(.t 3)]),oq 2 (.mv (.t 6))]) .ret)))
@[go_sem] def c34_7_wp:=wp_of c34_7.eq_1
def c34:AFn:=⟨7,[.t 2],c34_7⟩
theorem c34_ok:compF Tryz.prog Tryz.f34=some c34:=by kernel_rfl
theorem a34 {args:List AV} {σ:ASt} {R:AV->ASt->Prop} (hl:args.length<=7) (h:c34_7.wp Tryz.prog (RetQ [.t 2] R) (init args) σ):ACalls Tryz.prog 34 args σ R:=aFq Tryz.func34 c34_ok hl h
/-! 86: tabular/tabularref12.Signs -/
end Go.A
namespace Go.A
open Go.Proofs Go.Lib
theorem print_ok {σ:ASt} (hT:Tab σ) (hM:MaxL σ) (n:Nd) (hn:n.ok) (hl:n.spell.length<=900000000):ACalls Tryz.prog 34 [n.av] σ fun v σ'=>v = .str n.spell/\σ'=σ:=by
 have hS:=spell_ok n.size n (Nat.le_refl _) hn
 obtain ⟨op,m,s,a,d,kids⟩:=n
 unfold SpellOk at hS
 rw [Nd.av_cs] at hS ⊢
 generalize (Nd.mk op m s a d kids).spell=w at *
 generalize kids.map Nd.av=L at *
 refine a34 (by simp) ?_
 simp (disch:=first|assumption|omega) only [go_sem]
 refine boxC_by rfl fun c hc=>?_
 simp (disch:=first|assumption|omega) only [go_sem]
 refine allocTC_by fun b hb=>?_
 have hbb:=hb
 obtain ⟨n1,n2,n3⟩:=set_none hb
 have hB:BD (σ.set c (some (.obj (Nd.cs op m s a d L)))) b [] ((σ.set c (some (.obj (Nd.cs op m s a d L)))).set b (some (.typ 149 [.pointer none,.slice none 0 0]))) := .inl ⟨rfl,rfl⟩
 have hT1:=hT.set hc (r:=some (.obj (Nd.cs op m s a d L)))
 have hM1:=hM.set hc (r:=some (.obj (Nd.cs op m s a d L)))
 simp (disch:=first|assumption|omega) only [go_sem]
 refine (hS _ _ _ _ hB hbb hT1 hM1 (by simp only [List.length_nil];omega)).mono ?_
 rintro v σ1 ⟨rfl,hB1⟩
 rw [List.nil_append] at hB1
 simp (disch:=first|assumption|omega) only [go_sem]
 refine (bstring_ok hB1 (by omega)).mono ?_
 rintro v σ2 ⟨rfl,rfl⟩
 simp (disch:=first|assumption|omega) only [go_sem]
 exact retC_by ((hB1.over hbb).drop.trans (Drop.set hc)) (.refl _) ⟨rfl,rfl⟩
theorem SDrop.cong {σ σ':ASt} {b:Nat} {c d:List AV} (h:SDrop σ σ') (he:Go.A.deeps c=d):SDrop (σ.set b (some (.obj c))) (σ'.set b (some (.obj d))):=fun x=>by
 by_cases hx:x=b
 ·subst hx
  exact .inr (.inr ⟨c,by rw [ASt.set_same],by rw [ASt.set_same,he]⟩)
 ·rw [ASt.set_ne hx,ASt.set_ne hx]
  exact h x
theorem set_mid {σ:ASt} {b c:Nat} {X Y Z:Option Role} (h:b≠c):((σ.set b X).set c Y).set b Z=(σ.set b Z).set c Y:=by
 funext x
 simp only [ASt.set]
 by_cases h1:x=b
 ·subst h1;simp [h]
 ·simp [h1]
end Go.A
namespace Go.A
open Go.Proofs
/-! 9: (tabular/tile.Cell).Text -/
def c9_17:ACode := .seq (.ops [ oe 1 (.box (.t 0)),oq 2 (.mv (.v (.str [])))]) (.seq (.seq (.ops [ oq 4 (.ld (some 13) (.t 1)),oe 5 (.call 11 [(.t 4)])]) (.cond (.t 5) (.seq (.ops [ oq 6 (.fa 0 (.t 1)),oq 7 (.ld (some 12) (.t 6)),oe 8 (.call 34 [(.t 7)]),oq 9 (.bin .add (.v (.str [61])) (.t 8)),oq 2 (.mv (.t 9))]) .ret) .skip)) (.seq (.ops [ oq 10 (.ld (some 13) (.t 1)),oe 11 (.call 31 [(.t 10)]),oe 12 (.call 35 [(.t 11)]),oq 3 (.mv (.t 12))]) (.seq (.seq (.ops [ oq 13 (.mv (.t 3)),oq 14 (.lenS (.t 13)),oq 15 (.bin .gtr (.t 14) (.v (.int .i64 0))),oq 16 (.mv (.t 15)),⟨some 17,some (16,true),.q (.mv (.t 3)),[]⟩,⟨some 18,some (16,true),.q (.idx (.t 17) (.v (.int .i64 0))),[]⟩,⟨some 19,some (16,true),.q (.bin .eql (.t 18) (.v (.int .u8 61))),[]⟩,oq 20 (.pick (.t 16) (.t 19) (.v (.bool false)))]) (.cond (.t 20) (.seq (.ops [ oq 21 (.mv (.t 3)),oq 22 (.bin .add (.v (.str [39])) (.t 21)),oq 2 (.mv (.t 22))]) .ret) .skip)) (.seq (.ops [ oq 23 (.mv (.t 3)),oq 2 (.mv (.t 23))]) .ret))))
@[go_sem] def c9_17_wp:=wp_of c9_17.eq_1
def c9:AFn:=⟨24,[.t 2],c9_17⟩
theorem c9_ok:compF Tryz.prog Tryz.f9=some c9:=by kernel_rfl
theorem a9 {args:List AV} {σ:ASt} {R:AV->ASt->Prop} (hl:args.length<=24) (h:c9_17.wp Tryz.prog (RetQ [.t 2] R) (init args) σ):ACalls Tryz.prog 9 args σ R:=aFq Tryz.func9 c9_ok hl h
/-! 11: (tabular/tile.Cell).IsFormula -/
def c11_3:ACode := .seq (.ops [ oe 1 (.box (.t 0)),oq 2 (.mv (.v (.bool false)))]) (.seq (.ops [ oq 3 (.fa 0 (.t 1)),oq 4 (.fa 0 (.t 3)),oq 5 (.ld none (.t 4)),oq 6 (.bin .neq (.t 5) (.v (.int .i64 0))),oq 2 (.mv (.t 6))]) .ret)
@[go_sem] def c11_3_wp:=wp_of c11_3.eq_1
def c11:AFn:=⟨7,[.t 2],c11_3⟩
theorem c11_ok:compF Tryz.prog Tryz.f11=some c11:=by kernel_rfl
theorem a11 {args:List AV} {σ:ASt} {R:AV->ASt->Prop} (hl:args.length<=7) (h:c11_3.wp Tryz.prog (RetQ [.t 2] R) (init args) σ):ACalls Tryz.prog 11 args σ R:=aFq Tryz.func11 c11_ok hl h
/-! 12: (tabular/tile.Cell).Empty -/
def c12_3:ACode := .seq (.ops [ oe 1 (.box (.t 0)),oq 2 (.mv (.v (.bool false)))]) (.seq (.ops [ oq 3 (.fa 0 (.t 1)),oq 4 (.fa 0 (.t 3)),oq 5 (.ld none (.t 4)),oq 6 (.bin .eql (.t 5) (.v (.int .i64 0))),oq 7 (.mv (.t 6)),⟨some 8,some (7,true),.q (.fa 12 (.t 1)),[]⟩,⟨some 9,some (7,true),.q (.ld none (.t 8)),[]⟩,⟨some 10,some (7,true),.q (.eq .c false (.t 9) (.v .nili)),[]⟩,⟨some 11,some (7,true),.q (.mv (.t 10)),[]⟩,⟨some 12,some (11,false),.q (.fa 12 (.t 1)),[]⟩,⟨some 13,some (11,false),.q (.ld none (.t 12)),[]⟩,⟨some 14,some (11,false),.e (.call 36 [(.t 13)]),[]⟩,⟨some 15,some (7,true),.q (.pick (.t 11) (.v (.bool true)) (.t 14)),[]⟩,oq 16 (.pick (.t 7) (.t 15) (.v (.bool false))),oq 2 (.mv (.t 16))]) .ret)
@[go_sem] def c12_3_wp:=wp_of c12_3.eq_1
def c12:AFn:=⟨17,[.t 2],c12_3⟩
theorem c12_ok:compF Tryz.prog Tryz.f12=some c12:=by kernel_rfl
theorem a12 {args:List AV} {σ:ASt} {R:AV->ASt->Prop} (hl:args.length<=17) (h:c12_3.wp Tryz.prog (RetQ [.t 2] R) (init args) σ):ACalls Tryz.prog 12 args σ R:=aFq Tryz.func12 c12_ok hl h
/-! 31: (tabular/tile.Cell).Value -/
def c31_9:ACode := .seq (.ops [ oe 1 (.box (.t 0)),oq 2 (.mv (.v .nili))]) (.seq (.seq (.ops [ oq 3 (.fa 12 (.t 1)),oq 4 (.ld none (.t 3)),oq 5 (.eq .c false (.t 4) (.v .nili))]) (.cond (.t 5) (.seq (.ops [ oq 6 (.build [] []),oq 7 (.mki 138 (.t 6)),oq 2 (.mv (.t 7))]) .ret) .skip)) (.seq (.ops [ oq 8 (.fa 12 (.t 1)),oq 9 (.ld none (.t 8)),oq 2 (.mv (.t 9))]) .ret))
@[go_sem] def c31_9_wp:=wp_of c31_9.eq_1
def c31:AFn:=⟨10,[.t 2],c31_9⟩
theorem c31_ok:compF Tryz.prog Tryz.f31=some c31:=by kernel_rfl
theorem a31 {args:List AV} {σ:ASt} {R:AV->ASt->Prop} (hl:args.length<=10) (h:c31_9.wp Tryz.prog (RetQ [.t 2] R) (init args) σ):ACalls Tryz.prog 31 args σ R:=aFq Tryz.func31 c31_ok hl h
end Go.A
namespace Go.A
open Go.Proofs Go.Lib Go.Vint
structure TC where
 t:Nd
 v:Option PV
def voAV:Option PV->AV
 | none => .nili
 | some v=>v.av
def cellCs (op n:Int) (s:List UInt8) (a b:Ref) (L:List AV) (v:AV):List AV := [.int .i64 op,.int .i64 n,.str s,.int .i64 a.row,.int .i64 a.col,.bool a.absRow,.bool a.absCol,.int .i64 b.row,.int .i64 b.col,.bool b.absRow,.bool b.absCol,.sl .shr L,v]
def TC.av:TC->AV
 | ⟨.mk op n s a b ks,v⟩ => .agg (cellCs op n s a b (ks.map Nd.av) (voAV v))
def TC.val (c:TC):PV:=c.v.getD .blank
def TC.isF (c:TC):Bool := !decide (c.t.op=0)
def TC.empty (c:TC):Bool:=decide (c.t.op=0) && decide (c.val = .blank)
def TC.text (c:TC):List UInt8:=if c.isF=true then 61::c.t.spell else if (typedP c.val).head? = some 61 then 39::typedP c.val else typedP c.val
section
variable {op n:Int} {s:List UInt8} {a b:Ref} {L:List AV} {v:AV}
@[go_sem] theorem cc_0:(cellCs op n s a b L v)[0]? = some (.int .i64 op):=id rfl
@[go_sem] theorem cc_12:(cellCs op n s a b L v)[12]? = some v:=id rfl
@[go_sem] theorem cc_len:(cellCs op n s a b L v).length=13:=id rfl
end
theorem tcIsFormula_ok (c:TC):Pure Tryz.prog 11 [c.av] (.bool c.isF):=by
 intro σ
 obtain ⟨⟨op,n,s,a,b,ks⟩,v⟩:=c
 have e:TC.isF ⟨.mk op n s a b ks,v⟩ = !decide (op=0):=rfl
 rw [e,TC.av]
 generalize ks.map Nd.av=L at *
 generalize voAV v=x at *
 refine a11 (by simp) ?_
 simp (disch:=first|assumption|omega) only [go_sem]
 refine boxC_by rfl fun c hc=>?_
 simp (disch:=first|assumption|omega) only [go_sem]
 exact retC_by (Drop.set hc) (.refl _) ⟨rfl,rfl⟩
def PV.isB:PV->Bool
 | .blank=>true
 | _=>false
theorem isblank_any (v:PV):Pure Tryz.prog 36 [v.av] (.bool v.isB):=by
 intro σ
 refine a36 (by simp) ?_
 cases v
 all_goals
  simp only [PV.av,PV.isB]
  simp (disch:=first|assumption|omega) only [go_sem]
  refine aBq fun b hb=>?_
  simp (disch:=first|assumption|omega) only [go_sem]
  exact retC_by (by repeat' (first|exact Drop.refl _|with_reducible refine Drop.off ?_ (by assumption))) (.refl _) ⟨rfl,rfl⟩
theorem isB_eq (v:PV):v.isB=decide (v = .blank):=by cases v<;>simp [PV.isB]
theorem av_iface (v:PV):∃ t x,v.av = .iface t x:=by cases v<;>exact ⟨_,_,rfl⟩
theorem tcEmpty_ok (c:TC):Pure Tryz.prog 12 [c.av] (.bool c.empty):=by
 intro σ
 obtain ⟨⟨op,n,s,a,b,ks⟩,v⟩:=c
 have e:TC.empty ⟨.mk op n s a b ks,v⟩=(decide (op=0) && decide (v.getD .blank = .blank)):=rfl
 rw [e,TC.av]
 generalize ks.map Nd.av=L at *
 by_cases h0:op=0
 ·cases v with
  | none=>
    have hr:(decide (op=0) && decide ((none:Option PV).getD .blank = .blank))=true:=by simp [h0]
    rw [hr]
    have hv:voAV none = .nili:=rfl
    rw [hv]
    refine a12 (by simp) ?_
    simp (disch:=first|assumption|omega) only [go_sem]
    refine boxC_by rfl fun c hc=>?_
    simp (disch:=first|assumption|omega) only [go_sem,h0]
    refine retC_by (Drop.set hc) (.refl _) ?_
    exact ⟨rfl,rfl⟩
  | some v=>
    have hB:=isblank_any v
    have hr:(decide (op=0) && decide ((some v).getD .blank = .blank))=v.isB:=by rw [isB_eq];simp [h0]
    rw [hr]
    have hv:voAV (some v)=v.av:=rfl
    rw [hv]
    obtain ⟨t,x,hx⟩:=av_iface v
    rw [hx] at hB ⊢
    refine a12 (by simp) ?_
    simp (disch:=first|assumption|omega) only [go_sem]
    refine boxC_by rfl fun c hc=>?_
    simp (disch:=first|assumption|omega) only [go_sem,h0]
    refine hB.use ?_
    simp (disch:=first|assumption|omega) only [go_sem]
    refine retC_by (Drop.set hc) (.refl _) ?_
    exact ⟨rfl,rfl⟩
 ·have hr:(decide (op=0) && decide (v.getD .blank = .blank))=false:=by simp [h0]
  rw [hr]
  generalize voAV v=x at *
  refine a12 (by simp) ?_
  simp (disch:=first|assumption|omega) only [go_sem]
  refine boxC_by rfl fun c hc=>?_
  simp (disch:=first|assumption|omega) only [go_sem,h0]
  refine retC_by (Drop.set hc) (.refl _) ?_
  exact ⟨rfl,rfl⟩
theorem tcValue_ok (c:TC):Pure Tryz.prog 31 [c.av] c.val.av:=by
 intro σ
 obtain ⟨⟨op,n,s,a,b,ks⟩,v⟩:=c
 rw [TC.av]
 generalize ks.map Nd.av=L at *
 cases v with
 | none=>
   have hv:voAV none = .nili:=rfl
   have hr:(TC.val ⟨.mk op n s a b ks,none⟩).av = .iface 138 (.agg []):=rfl
   rw [hv,hr]
   refine a31 (by simp) ?_
   simp (disch:=first|assumption|omega) only [go_sem]
   refine boxC_by rfl fun c hc=>?_
   simp (disch:=first|assumption|omega) only [go_sem]
   refine retC_by (Drop.set hc) (.refl _) ?_
   exact ⟨rfl,rfl⟩
 | some v=>
   have hv:voAV (some v)=v.av:=rfl
   have hr:(TC.val ⟨.mk op n s a b ks,some v⟩).av=v.av:=rfl
   rw [hv,hr]
   obtain ⟨t,x,hx⟩:=av_iface v
   rw [hx]
   refine a31 (by simp) ?_
   simp (disch:=first|assumption|omega) only [go_sem]
   refine boxC_by rfl fun c hc=>?_
   simp (disch:=first|assumption|omega) only [go_sem]
   refine retC_by (Drop.set hc) (.refl _) ?_
   exact ⟨rfl,rfl⟩
structure TC.fine (c:TC):Prop where
 ok:c.isF=true->c.t.ok
 sp:c.isF=true->c.t.spell.length<=800000000
 good:c.val.good
 small:c.val.small
 typ:(typedP c.val).length<=100000
theorem tcText_ok {σ:ASt} (hT:Tab σ) (hM:MaxL σ) (c:TC) (hc:c.fine):ACalls Tryz.prog 9 [c.av] σ fun v σ'=>v = .str c.text/\σ'=σ:=by
 have hF:=tcIsFormula_ok c
 have hV:=tcValue_ok c
 have hP:=fun (h:c.isF=true) (τ:ASt) (hT:Tab τ) (hM:MaxL τ)=>print_ok hT hM c.t (hc.ok h) (by have:=hc.sp h;omega)
 have hTy:=fun (τ:ASt) (hT:Tab τ)=>typed_ok hT c.val hc.good hc.small
 have hsp:=hc.sp
 have htl:=hc.typ
 have hx:c.text=if c.isF=true then 61::c.t.spell else if (typedP c.val).head? = some 61 then 39::typedP c.val else typedP c.val:=rfl
 rw [hx]
 clear hc hx
 generalize typedP c.val=ty at *
 generalize c.val.av=va at *
 obtain ⟨⟨op,n,s,a,b,ks⟩,v⟩:=c
 generalize hq:TC.isF ⟨.mk op n s a b ks,v⟩=q at *
 dsimp only at hP hsp
 generalize (Nd.mk op n s a b ks).spell=SP at *
 rw [TC.av] at *
 rw [Nd.av_cs] at hP
 generalize ks.map Nd.av=L at *
 generalize voAV v=x at *
 cases q with
 | true=>
   rw [if_pos rfl]
   have hsp:=hsp rfl
   have hP:=hP rfl
   have hb:binS .add [61] SP=some (.str (61::SP)):=binS_add (by simp;omega)
   refine a9 (by simp) ?_
   simp (disch:=first|assumption|omega) only [go_sem]
   refine boxC_by rfl fun c hc=>?_
   have T1:=fun r=>Tab.set (r:=r) hT hc
   have M1:=fun r=>MaxL.set (r:=r) hM hc
   simp (disch:=first|assumption|omega) only [go_sem]
   refine hF.use ?_
   simp (disch:=first|assumption|omega) only [go_sem]
   refine (hP _ (T1 _) (M1 _)).mono ?_
   rintro v σ' ⟨rfl,rfl⟩
   simp (disch:=first|assumption|omega) only [go_sem,hb]
   exact retC_by (Drop.set hc) (.refl _) ⟨rfl,rfl⟩
 | false=>
   rw [if_neg (by simp)]
   have hb:binS .add [39] ty=some (.str (39::ty)):=binS_add (by simp;omega)
   cases ty with
   | nil=>
     rw [if_neg (by simp)]
     refine a9 (by simp) ?_
     simp (disch:=first|assumption|omega) only [go_sem]
     refine boxC_by rfl fun c hc=>?_
     have T1:=fun r=>Tab.set (r:=r) hT hc
     simp (disch:=first|assumption|omega) only [go_sem]
     refine hF.use ?_
     simp (disch:=first|assumption|omega) only [go_sem]
     refine hV.use ?_
     simp (disch:=first|assumption|omega) only [go_sem]
     refine (hTy _ (T1 _)).mono ?_
     rintro v σ' ⟨rfl,rfl⟩
     simp (disch:=first|assumption|omega) only [go_sem]
     exact retC_by (Drop.set hc) (.refl _) ⟨rfl,rfl⟩
   | cons d ty=>
     have hl:(0:Int)<((d::ty).length:Int):=by simp only [List.length_cons];omega
     have hx:(d::ty)[0]? = some d:=rfl
     have e0:((0:Int)).toNat=0:=rfl
     by_cases h61:d=61
     ·subst h61
      have hp:((61:UInt8)::ty).head? = some 61:=rfl
      rw [if_pos hp]
      have c61:((61:UInt8).toNat:Int)=61:=rfl
      refine a9 (by simp) ?_
      simp (disch:=first|assumption|omega) only [go_sem]
      refine boxC_by rfl fun c hc=>?_
      have T1:=fun r=>Tab.set (r:=r) hT hc
      simp (disch:=first|assumption|omega) only [go_sem]
      refine hF.use ?_
      simp (disch:=first|assumption|omega) only [go_sem]
      refine hV.use ?_
      simp (disch:=first|assumption|omega) only [go_sem]
      refine (hTy _ (T1 _)).mono ?_
      rintro v σ' ⟨rfl,rfl⟩
      simp (disch:=first|assumption|omega) only [go_sem,hx,c61,hb]
      exact retC_by (Drop.set hc) (.refl _) ⟨rfl,rfl⟩
     ·have hn:¬ (d::ty).head? = some 61:=by simpa using h61
      rw [if_neg hn]
      have c61:¬ ((d.toNat:Int)=61):=by
       intro h
       apply h61
       apply UInt8.toNat_inj.1
       have:d.toNat=61:=by omega
       rw [this]
       rfl
      refine a9 (by simp) ?_
      simp (disch:=first|assumption|omega) only [go_sem]
      refine boxC_by rfl fun c hc=>?_
      have T1:=fun r=>Tab.set (r:=r) hT hc
      simp (disch:=first|assumption|omega) only [go_sem]
      refine hF.use ?_
      simp (disch:=first|assumption|omega) only [go_sem]
      refine hV.use ?_
      simp (disch:=first|assumption|omega) only [go_sem]
      refine (hTy _ (T1 _)).mono ?_
      rintro v σ' ⟨rfl,rfl⟩
      simp (disch:=first|assumption|omega) only [go_sem,hx,c61]
      exact retC_by (Drop.set hc) (.refl _) ⟨rfl,rfl⟩
end Go.A
namespace Go.A
open Go.Proofs
/-! 49: tabular/expr.Same -/
/-! 92: slices.EqualFunc[[]tabular/expr.Node,[]tabular/expr.Node,tabular/expr.Node,tabular/expr.Node] -/
end Go.A
namespace Go.A
def OwnSl (σ0 σ:ASt) (v:AV) (xs:List AV) (s:Nat):Prop:=
 (xs = []/\v = .sl .full []/\σ=σ0)\/∃ b c rest,v = .msl b 0 xs.length c/\xs.length<=c/\rest.length=(c-xs.length)*s/\σ0 b=none/\σ=σ0.set b (some (.obj (xs.flatMap AV.cells++rest)))
theorem OwnSl.drop {σ0 σ:ASt} {v:AV} {xs:List AV} {s:Nat} (h:OwnSl σ0 σ v xs s):Drop σ σ0:=by
 rcases h with ⟨_,_,rfl⟩|⟨b,c,rest,_,_,_,hb,rfl⟩
 ·exact Drop.refl _
 ·exact Drop.set hb
def zrow (s:Nat) (z:List AV) (n c:Nat):List AV:=(List.range ((c-n)*s)).map fun i=>z.getD (i % s) .any
theorem zrow_len (s:Nat) (z:List AV) (n c:Nat):(zrow s z n c).length=(c-n)*s:=by simp [zrow]
theorem ownRow_z {s n c:Nat} {z cs:List AV}:ownRow s z cs n c=cs++zrow s z n c:=rfl
theorem OwnSl.app {e:TypeId} {σ0 σ:ASt} {v:AV} {xs ys z:List AV} {s bytes:Nat} {k2:SK} {K:AV->ASt->Prop} (h:OwnSl σ0 σ v xs s) (hx:∀ x∈xs,x.cells.length=s) (h2:wellSz s ys=true) (h3:leaves (ys.flatMap AV.cells)=true)
  (h4:(xs.length+ys.length)*bytes<=140737488355328) (h5:xs.length+ys.length<=4611686018427387904) (h6:0<ys.length)
  (hK:∀ v' σ',(∃ σ2,Drop σ' σ2/\OwnSl σ0 σ2 v' (xs++ys) s)->K v' σ'):appC e s bytes z v (.sl k2 ys) σ K:=by
 have hyl:(ys.flatMap AV.cells).length=ys.length*s:=lens_flat (wellSz_lens h2)
 have hxl:(xs.flatMap AV.cells).length=xs.length*s:=lens_flat hx
 rcases h with ⟨rfl,rfl,rfl⟩|⟨b,c,rest,rfl,hc,hr,hb,rfl⟩
 ·refine appO_by rfl h2 h3 h4 h5 h6 fun b c hb hc=>hK _ _ ⟨_,Drop.refl _,.inr ⟨b,c,zrow s z (([]:List AV).length+ys.length) c,?_,?_,?_,hb,?_⟩⟩
  ·simp
  ·simpa using hc
  ·rw [zrow_len];simp
  ·rw [ownRow_z];simp only [List.nil_append,List.flatMap_nil]
 ·rw [appC_msl,ASt.set_same]
  refine appM_by h2 h3 h4 h5 (by rw [List.length_append,hxl,hr];omega) (fun hroom=>⟨?_,?_⟩) (fun hgrow b' c' hb' hc'=>?_)
  ·rw [List.length_append,hxl,hr,Nat.zero_add,← Nat.add_mul]
   exact Nat.mul_le_mul_right _ (by omega)
  ·rw [ASt.set_set]
   refine hK _ _ ⟨_,Drop.refl _,.inr ⟨b,c,rest.drop (ys.length*s),by simp,by simpa using hroom,?_,hb,?_⟩⟩
   ·rw [List.length_drop,hr,← Nat.sub_mul,List.length_append]
    congr 1
    omega
   ·congr 3
    unfold splice
    rw [Nat.zero_add,List.flatMap_append]
    have e1:(xs.flatMap AV.cells++rest).take (xs.length*s)=xs.flatMap AV.cells:=by rw [<-hxl];simp
    have e2:(xs.flatMap AV.cells++rest).drop (xs.length*s+ys.length*s)=rest.drop (ys.length*s):=by rw [<-hxl,← List.drop_drop];simp
    rw [e1,e2]
  ·obtain ⟨m1,m2,hb0⟩:=set_none hb'
   have e1:((xs.flatMap AV.cells++rest).drop 0).take (xs.length*s)=xs.flatMap AV.cells:=by rw [<-hxl];simp
   rw [e1]
   refine hK _ _ ⟨σ0.set b' (some (.obj (ownRow s z (xs.flatMap AV.cells++ys.flatMap AV.cells) (xs.length+ys.length) c'))),?_,.inr ⟨b',c',zrow s z (xs.length+ys.length) c',by simp,by simpa using hc',by rw [zrow_len,List.length_append],hb0,?_⟩⟩
   ·rw [set_swap m2]
    exact Drop.set (by rw [ASt.set_ne m2];exact hb)
   ·rw [ownRow_z,List.flatMap_append]
theorem OwnSl.at {σ0 σ:ASt} {x:Nat} {r:Role} {v:AV} {xs:List AV} {s:Nat} (h:OwnSl σ0 σ v xs s) (hx:σ0 x=some r):σ x=some r:=by
 rcases h with ⟨_,_,rfl⟩|⟨b,c,rest,_,_,_,hb,rfl⟩
 ·exact hx
 ·rw [ASt.set_ne]
  ·exact hx
  ·rintro rfl;rw [hb] at hx;cases hx
theorem OwnSl.fresh {σ0 σ:ASt} {x:Nat} {v:AV} {xs:List AV} {s:Nat} (h:OwnSl σ0 σ v xs s) (hx:σ x=none):σ0 x=none:=by
 cases hr:σ0 x with
 | none=>rfl
 | some r=>rw [h.at hr] at hx;cases hx
theorem OwnSl.add {σ0 σ:ASt} {d:Nat} {r:Option Role} {v:AV} {xs:List AV} {s:Nat} (h:OwnSl σ0 σ v xs s) (hd:σ d=none):OwnSl (σ0.set d r) (σ.set d r) v xs s:=by
 rcases h with ⟨h1,h2,rfl⟩|⟨b,c,rest,h1,h2,h3,h4,rfl⟩
 ·exact .inl ⟨h1,h2,rfl⟩
 ·obtain ⟨h5,h6,h7⟩:=set_none hd
  exact .inr ⟨b,c,rest,h1,h2,h3,by rw [ASt.set_ne h6];exact h4,set_swap h6⟩
theorem OwnSl.less {σ0 σ:ASt} {e:Nat} {E:Role} {v:AV} {xs:List AV} {s:Nat} (h:OwnSl (σ0.set e (some E)) σ v xs s) (he:σ0 e=none):∃ σ',Drop σ σ'/\OwnSl σ0 σ' v xs s:=by
 rcases h with ⟨h1,h2,rfl⟩|⟨b,c,rest,h1,h2,h3,h4,rfl⟩
 ·exact ⟨σ0,Drop.set he,.inl ⟨h1,h2,rfl⟩⟩
 ·obtain ⟨h5,h6,h7⟩:=set_none h4
  refine ⟨σ0.set b (some (.obj (xs.flatMap AV.cells++rest))),?_,.inr ⟨b,c,rest,h1,h2,h3,h7,rfl⟩⟩
  rw [set_swap h6]
  exact Drop.set (by rw [ASt.set_ne h6];exact he)
theorem OwnSl.fz {σ0 σ σ':ASt} {v:AV} {xs:List AV} {s:Nat} (h:OwnSl σ0 σ v xs s) (hx:∀ x∈xs,x.cells.length=s) (hn:∀ b,σ0 b=none->σ' b=none):Fz σ σ' v (.sl .shr xs):=by
 rcases h with ⟨rfl,rfl,rfl⟩|⟨b,c,rest,rfl,h2,h3,h4,rfl⟩
 ·exact .sl _ _
 ·have hxl:(xs.flatMap AV.cells).length=xs.length*s:=lens_flat hx
  refine .msl 0 _ c s xs (ASt.set_same _ _ _) (hn _ h4) rfl h2 hx ?_
  rw [List.drop_zero,← hxl,List.take_left]
end Go.A
namespace Go.A
open Go.Proofs Go.Lib
def ndV (o m:Int) (s:List UInt8) (a b:Ref) (v:AV):List AV := [.int .i64 o,.int .i64 m,.str s,.int .i64 a.row,.int .i64 a.col,.bool a.absRow,.bool a.absCol,.int .i64 b.row,.int .i64 b.col,.bool b.absRow,.bool b.absCol,v]
section
variable {o m:Int} {s:List UInt8} {a b:Ref} {v w:AV}
@[go_sem] theorem nv_11:(ndV o m s a b v)[11]? = some v:=id rfl
@[go_sem] theorem nv_len:(ndV o m s a b v).length=12:=id rfl
@[go_sem] theorem nv_take:(ndV o m s a b v).take 12=ndV o m s a b v:=id rfl
@[go_sem] theorem nv_drop:(ndV o m s a b v).drop 12 = []:=id rfl
@[go_sem] theorem nv_put'':(ndV o m s a b v).take 11 ++ [w]=ndV o m s a b w:=id rfl
theorem nv_leaves (h:v.leaf=true):leaves (ndV o m s a b v)=true:=by
 cases v<;>first|rfl|cases h
end
def missN:Nd := .mk 23 0 [] .zero .zero []
end Go.A
namespace Go.A
open Go.Proofs Go.Lib
def zero12:List AV := [.int .i64 0,.int .i64 0,.str [],.int .i64 0,.int .i64 0,.bool false,.bool false,.int .i64 0,.int .i64 0,.bool false,.bool false,.sl .full []]
theorem OwnSl.leaf {σ0 σ:ASt} {v:AV} {xs:List AV} {s:Nat} (h:OwnSl σ0 σ v xs s):v.leaf=true/\v.cells = [v]:=by
 rcases h with ⟨rfl,rfl,rfl⟩|⟨b,c,rest,rfl,_⟩<;>exact ⟨rfl,rfl⟩
theorem OwnSl.put {σ0 σ:ASt} {d:Nat} {r:Role} {v:AV} {xs:List AV} {s:Nat} (h:OwnSl σ0 σ v xs s) (hd:σ0 d=some r) (r':Option Role):OwnSl (σ0.set d r') (σ.set d r') v xs s:=by
 rcases h with ⟨h1,h2,rfl⟩|⟨b,c,rest,h1,h2,h3,h4,rfl⟩
 ·exact .inl ⟨h1,h2,rfl⟩
 ·have hbd:b≠d:=by rintro rfl;rw [hd] at h4;cases h4
  exact .inr ⟨b,c,rest,h1,h2,h3,by rw [ASt.set_ne hbd];exact h4,set_swap hbd⟩
theorem deeps_map:∀ l:List Nd,Go.A.deeps (l.map Nd.av)=l.map Nd.av
 | []=>rfl
 | x::xs=>by rw [List.map_cons,deeps_cons,Nd.deep x,deeps_map xs]
theorem leaf1 {v:AV}:leaves [v]=v.leaf:=by simp [leaves]
theorem Drop.had {σ σ':ASt} {b:Nat} {r:Role} (h:Drop σ σ') (hb:σ' b=some r):σ b=some r:=by
 rcases h b with h1|h1
 ·rw [<-h1];exact hb
 ·rw [h1] at hb;cases hb
theorem Drop.nil {σ σ':ASt} {b:Nat} (h:Drop σ σ') (hb:σ b=none):σ' b=none:=by
 rcases h b with h1|h1
 ·rw [h1];exact hb
 ·exact h1
end Go.A
namespace Go.A
open Go.Proofs
/-! 63: tabular/token.Lex -/
def c63_18:ACode := .seq (.seq (.ops [ oq 13 (.mv (.t 5)),oq 14 (.nc (.t 13)),oq 15 (.fa 1 (.t 14)),oq 16 (.ld none (.t 15)),oq 17 (.mv (.t 0)),oq 18 (.lenS (.t 17)),oq 19 (.bin .lss (.t 16) (.t 18))]) (.cond (.t 19) .skip (.exit 0))) (.block 1 (.seq (.ops [ oq 20 (.mv (.t 5)),oe 21 (.call 107 [(.t 20)]),oq 6 (.mv (.t 21))]) (.seq (.ops [ oq 22 (.mv (.t 6)),oq 23 (.bin .neq (.t 22) (.v (.int .i64 0)))]) (.cond (.t 23) (.seq (.ops [ oq 24 (.mv (.t 5)),oq 25 (.nc (.t 24)),oq 26 (.fa 1 (.t 25)),oq 27 (.ld none (.t 26)),oq 28 (.mv (.t 6)),oq 2 (.mv (.v (.sl .full []))),oq 3 (.mv (.t 27)),oq 4 (.mv (.t 28))]) .ret) .skip))))
def c63_24:ACode := .seq (.ops [ oq 29 (.mv (.t 5)),oe 30 (.call 108 [(.t 29),(.v (.int .i64 0)),(.v (.str [])),(.v (.int .i64 0))])]) (.seq (.ops [ oq 31 (.mv (.t 5)),oq 32 (.nc (.t 31)),oq 33 (.fa 3 (.t 32)),oq 34 (.ld none (.t 33)),oq 2 (.mv (.t 34)),oq 3 (.mv (.v (.int .i64 0))),oq 4 (.mv (.v (.int .i64 0)))]) .ret)
def c63_28:ACode := .seq (.ops [ oq 2 (.mv (.v (.sl .full []))),oq 3 (.mv (.v (.int .i64 0))),oq 4 (.mv (.v (.int .i64 0)))]) (.seq (.seq (.ops [ oq 7 (.mv (.t 0)),oq 8 (.lenS (.t 7)),oq 9 (.bin .gtr (.t 8) (.v (.int .i64 2000)))]) (.cond (.t 9) (.seq (.ops [ oq 2 (.mv (.v (.sl .full []))),oq 3 (.mv (.v (.int .i64 0))),oq 4 (.mv (.v (.int .i64 11)))]) .ret) .skip)) (.seq (.ops [ oq 10 (.mv (.t 0)),oq 11 (.build [(.str []),(.int .i64 0),(.int .i64 0),(.sl .full [])] [(0,1,(.t 10))]),oe 12 (.box (.t 11)),oq 5 (.mv (.t 12))]) (.seq (.block 0 (.loop c63_18)) c63_24)))
@[go_sem] def c63_18_wp:=wp_of c63_18.eq_1
@[go_sem] def c63_24_wp:=wp_of c63_24.eq_1
@[go_sem] def c63_28_wp:=wp_of c63_28.eq_1
def c63:AFn:=⟨35,[.t 2,.t 3,.t 4],c63_28⟩
theorem c63_ok:compF Tryz.prog Tryz.f63=some c63:=by kernel_rfl
theorem a63 {args:List AV} {σ:ASt} {R:AV->ASt->Prop} (hl:args.length<=35) (h:c63_28.wp Tryz.prog (RetQ [.t 2,.t 3,.t 4] R) (init args) σ):ACalls Tryz.prog 63 args σ R:=aFq Tryz.func63 c63_ok hl h
/-! 107: (*tabular/token.lexer).next -/
def c107_39:ACode := .seq (.ops [ oq 2 (.mv (.v (.int .i64 0)))]) (.seq (.ops [ oq 6 (.mv (.t 0)),oe 7 (.call 152 [(.t 6)]),oq 5 (.mv (.t 7)),oq 8 (.ext 0 (.t 5)),oq 9 (.ext 1 (.t 5)),oq 3 (.mv (.t 8)),oq 4 (.mv (.t 9))]) (.seq (.block 0 (.seq (.ops [ oq 15 (.mv (.t 4)),oq 16 (.bin .lss (.t 15) (.v (.int .i64 0))),oq 14 (.mv (.t 16))]) (.cond (.t 14) (.seq (.ops [ oq 2 (.mv (.v (.int .i64 10)))]) .ret) (.seq (.seq (.ops [ oq 18 (.mv (.t 3)),oq 19 (.bin .eql (.t 18) (.v (.int .i32 32))),oq 17 (.mv (.t 19))]) (.cond (.t 17) .skip (.seq (.ops [ oq 20 (.mv (.t 3)),oq 21 (.bin .eql (.t 20) (.v (.int .i32 9))),oq 17 (.mv (.t 21))]) (.cond (.t 17) .skip (.ops [ oq 22 (.mv (.t 3)),oq 23 (.bin .eql (.t 22) (.v (.int .i32 10))),oq 17 (.mv (.t 23))]))))) (.cond (.t 17) (.ops [ oq 24 (.mv (.t 0)),oq 25 (.mv (.t 0)),oq 26 (.nc (.t 25)),oq 27 (.fa 1 (.t 26)),oq 28 (.ld none (.t 27)),oq 29 (.mv (.t 4)),oq 30 (.bin .add (.t 28) (.t 29)),oe 31 (.call 153 [(.t 24),(.t 30)])]) (.seq (.ops [ oq 33 (.mv (.t 3)),oq 34 (.bin .lss (.t 33) (.v (.int .i32 128))),oq 35 (.mv (.t 34)),⟨some 36,some (35,true),.q (.mv (.t 3)),[]⟩,⟨some 37,some (35,true),.q (.conv .u8 (.t 36)),[]⟩,⟨some 38,some (35,true),.e (.call 154 [(.t 37)]),[]⟩,oq 39 (.pick (.t 35) (.t 38) (.v (.bool false))),oq 32 (.mv (.t 39))]) (.cond (.t 32) (.seq (.ops [ oq 40 (.mv (.t 0)),oe 41 (.call 155 [(.t 40)]),oq 2 (.mv (.t 41))]) .ret) (.seq (.ops [ oq 43 (.mv (.t 3)),oq 44 (.bin .eql (.t 43) (.v (.int .i32 34))),oq 42 (.mv (.t 44))]) (.cond (.t 42) (.seq (.ops [ oq 45 (.mv (.t 0)),oe 46 (.call 156 [(.t 45)]),oq 2 (.mv (.t 46))]) .ret) (.seq (.ops [ oq 48 (.mv (.t 3)),oq 49 (.bin .eql (.t 48) (.v (.int .i32 35))),oq 47 (.mv (.t 49))]) (.cond (.t 47) (.seq (.ops [ oq 50 (.mv (.t 0)),oe 51 (.call 157 [(.t 50)]),oq 2 (.mv (.t 51))]) .ret) (.seq (.ops [ oq 10 (.mv (.t 0)),oq 11 (.mv (.t 3)),oq 12 (.mv (.t 4)),oe 13 (.call 158 [(.t 10),(.t 11),(.t 12)]),oq 2 (.mv (.t 13))]) .ret)))))))))))) (.seq (.ops [ oq 2 (.mv (.v (.int .i64 0)))]) .ret)))
@[go_sem] def c107_39_wp:=wp_of c107_39.eq_1
def c107:AFn:=⟨52,[.t 2],c107_39⟩
theorem c107_ok:compF Tryz.prog Tryz.f107=some c107:=by kernel_rfl
theorem a107 {args:List AV} {σ:ASt} {R:AV->ASt->Prop} (hl:args.length<=52) (h:c107_39.wp Tryz.prog (RetQ [.t 2] R) (init args) σ):ACalls Tryz.prog 107 args σ R:=aFq Tryz.func107 c107_ok hl h
/-! 108: (*tabular/token.lexer).put -/
def c108_4:ACode := .seq (.ops [ oq 8 (.mv (.t 0)),oq 9 (.mv (.t 0)),oq 10 (.nc (.t 9)),oq 11 (.fa 3 (.t 10)),oq 12 (.ld none (.t 11)),oq 13 (.mv (.t 1)),oq 14 (.mv (.t 2)),oq 15 (.mv (.t 0)),oq 16 (.nc (.t 15)),oq 17 (.fa 1 (.t 16)),oq 18 (.ld none (.t 17)),oq 19 (.mv (.t 0)),oq 20 (.nc (.t 19)),oq 21 (.fa 2 (.t 20)),oq 22 (.ld none (.t 21)),oq 23 (.build [(.int .i64 0),(.str []),(.int .i64 0),(.int .i64 0)] [(0,1,(.t 13)),(1,1,(.t 14)),(2,1,(.t 18)),(3,1,(.t 22))]),oq 24 (.bsl 4 [(.t 23)]),oe 25 (.app 131 4 40 [(.int .i64 0),(.str []),(.int .i64 0),(.int .i64 0)] (.t 12) (.t 24)),oq 26 (.nc (.t 8)),oq 27 (.fa 3 (.t 26)),oz (.store 1 (.t 27) (.t 25))]) (.seq (.ops [ oq 28 (.mv (.t 0)),oq 29 (.nc (.t 28)),oq 30 (.fa 2 (.t 29)),oq 31 (.ld none (.t 30)),oq 32 (.mv (.t 0)),oq 33 (.nc (.t 32)),oq 34 (.fa 0 (.t 33)),oq 35 (.ld none (.t 34)),oq 36 (.mv (.t 0)),oq 37 (.nc (.t 36)),oq 38 (.fa 1 (.t 37)),oq 39 (.ld none (.t 38)),oq 40 (.mv (.t 0)),oq 41 (.nc (.t 40)),oq 42 (.fa 1 (.t 41)),oq 43 (.ld none (.t 42)),oq 44 (.mv (.t 3)),oq 45 (.bin .add (.t 43) (.t 44)),oq 46 (.sls (true,0) (.t 35) (.t 39) (.t 45)),⟨some 47,none,.e (.call 159 [(.t 46)]),[⟨none,.ld none (.t 30),31⟩]⟩,oq 48 (.bin .add (.t 31) (.t 47)),oq 49 (.nc (.t 28)),oq 50 (.fa 2 (.t 49)),oz (.store 1 (.t 50) (.t 48))]) (.ops [ oq 51 (.mv (.t 0)),oq 52 (.nc (.t 51)),oq 53 (.fa 1 (.t 52)),oq 54 (.ld none (.t 53)),oq 55 (.mv (.t 3)),oq 56 (.bin .add (.t 54) (.t 55)),oq 57 (.nc (.t 51)),oq 58 (.fa 1 (.t 57)),oz (.store 1 (.t 58) (.t 56))]))
@[go_sem] def c108_4_wp:=wp_of c108_4.eq_1
def c108:AFn:=⟨59,[],c108_4⟩
theorem c108_ok:compF Tryz.prog Tryz.f108=some c108:=by kernel_rfl
theorem a108 {args:List AV} {σ:ASt} {R:AV->ASt->Prop} (hl:args.length<=59) (h:c108_4.wp Tryz.prog (RetQ [] R) (init args) σ):ACalls Tryz.prog 108 args σ R:=aFq Tryz.func108 c108_ok hl h
/-! 152: (*tabular/token.lexer).sign -/
def c152_17:ACode := .seq (.ops [ oq 2 (.mv (.v (.int .i32 0))),oq 3 (.mv (.v (.int .i64 0)))]) (.seq (.seq (.ops [ oq 6 (.mv (.t 0)),oq 7 (.nc (.t 6)),oq 8 (.fa 1 (.t 7)),oq 9 (.ld none (.t 8)),oq 10 (.mv (.t 0)),oq 11 (.nc (.t 10)),oq 12 (.fa 0 (.t 11)),oq 13 (.ld none (.t 12)),oq 14 (.lenS (.t 13)),oq 15 (.bin .geq (.t 9) (.t 14))]) (.cond (.t 15) (.seq (.ops [ oq 2 (.mv (.v (.int .i32 0))),oq 3 (.mv (.v (.int .i64 0)))]) .ret) .skip)) (.seq (.ops [ oq 17 (.mv (.t 0)),oq 18 (.nc (.t 17)),oq 19 (.fa 0 (.t 18)),oq 20 (.ld none (.t 19)),oq 21 (.mv (.t 0)),oq 22 (.nc (.t 21)),oq 23 (.fa 1 (.t 22)),oq 24 (.ld none (.t 23)),oq 25 (.slfrom (true,0) (.t 20) (.t 24)),oe 26 (.call 119 [(.t 25)]),oq 16 (.mv (.t 26)),oq 27 (.ext 0 (.t 16)),oq 28 (.ext 1 (.t 16)),oq 4 (.mv (.t 27)),oq 5 (.mv (.t 28))]) (.seq (.seq (.ops [ oq 29 (.mv (.t 4)),oq 30 (.bin .eql (.t 29) (.v (.int .i32 65533))),oq 31 (.mv (.t 30)),⟨some 32,some (31,true),.q (.mv (.t 5)),[]⟩,⟨some 33,some (31,true),.q (.bin .eql (.t 32) (.v (.int .i64 1))),[]⟩,oq 34 (.pick (.t 31) (.t 33) (.v (.bool false)))]) (.cond (.t 34) (.seq (.ops [ oq 2 (.mv (.v (.int .i32 0))),oq 3 (.mv (.v (.int .i64 (-1))))]) .ret) .skip)) (.seq (.ops [ oq 35 (.mv (.t 4)),oq 36 (.mv (.t 5)),oq 2 (.mv (.t 35)),oq 3 (.mv (.t 36))]) .ret))))
@[go_sem] def c152_17_wp:=wp_of c152_17.eq_1
def c152:AFn:=⟨37,[.t 2,.t 3],c152_17⟩
theorem c152_ok:compF Tryz.prog Tryz.f152=some c152:=by kernel_rfl
theorem a152 {args:List AV} {σ:ASt} {R:AV->ASt->Prop} (hl:args.length<=37) (h:c152_17.wp Tryz.prog (RetQ [.t 2,.t 3] R) (init args) σ):ACalls Tryz.prog 152 args σ R:=aFq Tryz.func152 c152_ok hl h
/-! 153: (*tabular/token.lexer).pass -/
def c153_2:ACode := .seq (.ops [ oq 4 (.mv (.t 0)),oq 5 (.nc (.t 4)),oq 6 (.fa 2 (.t 5)),oq 7 (.ld none (.t 6)),oq 8 (.mv (.t 0)),oq 9 (.nc (.t 8)),oq 10 (.fa 0 (.t 9)),oq 11 (.ld none (.t 10)),oq 12 (.mv (.t 0)),oq 13 (.nc (.t 12)),oq 14 (.fa 1 (.t 13)),oq 15 (.ld none (.t 14)),oq 16 (.mv (.t 1)),oq 17 (.sls (true,0) (.t 11) (.t 15) (.t 16)),⟨some 18,none,.e (.call 159 [(.t 17)]),[⟨none,.ld none (.t 6),7⟩]⟩,oq 19 (.bin .add (.t 7) (.t 18)),oq 20 (.nc (.t 4)),oq 21 (.fa 2 (.t 20)),oz (.store 1 (.t 21) (.t 19))]) (.ops [ oq 22 (.mv (.t 0)),oq 23 (.mv (.t 1)),oq 24 (.nc (.t 22)),oq 25 (.fa 1 (.t 24)),oz (.store 1 (.t 25) (.t 23))])
@[go_sem] def c153_2_wp:=wp_of c153_2.eq_1
def c153:AFn:=⟨26,[],c153_2⟩
theorem c153_ok:compF Tryz.prog Tryz.f153=some c153:=by kernel_rfl
theorem a153 {args:List AV} {σ:ASt} {R:AV->ASt->Prop} (hl:args.length<=26) (h:c153_2.wp Tryz.prog (RetQ [] R) (init args) σ):ACalls Tryz.prog 153 args σ R:=aFq Tryz.func153 c153_ok hl h
/-! 155: (*tabular/token.lexer).words -/
def c155_7:ACode := .seq (.seq (.ops [ oq 5 (.mv (.t 0)),oq 6 (.nc (.t 5)),oq 7 (.fa 1 (.t 6)),oq 8 (.ld none (.t 7)),oq 9 (.mv (.t 3)),oq 10 (.bin .add (.t 8) (.t 9)),oq 11 (.mv (.t 0)),oq 12 (.nc (.t 11)),oq 13 (.fa 0 (.t 12)),oq 14 (.ld none (.t 13)),oq 15 (.lenS (.t 14)),oq 16 (.bin .lss (.t 10) (.t 15)),oq 17 (.mv (.t 16)),⟨some 18,some (17,true),.q (.mv (.t 0)),[]⟩,⟨some 19,some (17,true),.q (.nc (.t 18)),[]⟩,⟨some 20,some (17,true),.q (.fa 0 (.t 19)),[]⟩,⟨some 21,some (17,true),.q (.ld none (.t 20)),[]⟩,⟨some 22,some (17,true),.q (.mv (.t 0)),[]⟩,⟨some 23,some (17,true),.q (.nc (.t 22)),[]⟩,⟨some 24,some (17,true),.q (.fa 1 (.t 23)),[]⟩,⟨some 25,some (17,true),.q (.ld none (.t 24)),[]⟩,⟨some 26,some (17,true),.q (.mv (.t 3)),[]⟩,⟨some 27,some (17,true),.q (.bin .add (.t 25) (.t 26)),[]⟩,⟨some 28,some (17,true),.q (.idx (.t 21) (.t 27)),[]⟩,⟨some 29,some (17,true),.e (.call 154 [(.t 28)]),[]⟩,oq 30 (.pick (.t 17) (.t 29) (.v (.bool false)))]) (.cond (.t 30) .skip (.exit 0))) (.block 1 (.ops [ oq 31 (.mv (.t 3)),oq 32 (.bin .add (.t 31) (.v (.int .i64 1))),oq 3 (.mv (.t 32))]))
def c155_29:ACode := .seq (.ops [ oq 33 (.mv (.t 0)),oq 34 (.nc (.t 33)),oq 35 (.fa 0 (.t 34)),oq 36 (.ld none (.t 35)),oq 37 (.mv (.t 0)),oq 38 (.nc (.t 37)),oq 39 (.fa 1 (.t 38)),oq 40 (.ld none (.t 39)),oq 41 (.mv (.t 0)),oq 42 (.nc (.t 41)),oq 43 (.fa 1 (.t 42)),oq 44 (.ld none (.t 43)),oq 45 (.mv (.t 3)),oq 46 (.bin .add (.t 44) (.t 45)),oq 47 (.sls (true,0) (.t 36) (.t 40) (.t 46)),oq 4 (.mv (.t 47))]) (.seq (.block 2 (.seq (.ops [ oq 49 (.mv (.t 4)),oe 50 (.call 191 [(.t 49)]),oq 48 (.mv (.t 50))]) (.cond (.t 48) (.ops [ oq 51 (.mv (.t 0)),oq 52 (.mv (.t 4)),oq 53 (.mv (.t 3)),oe 54 (.call 108 [(.t 51),(.v (.int .i64 1)),(.t 52),(.t 53)])]) (.seq (.ops [ oq 56 (.mv (.t 4)),oe 57 (.call 192 [(.t 56)]),oq 55 (.mv (.t 57))]) (.cond (.t 55) (.ops [ oq 58 (.mv (.t 0)),oq 59 (.mv (.t 4)),oe 60 (.call 193 [(.t 59)]),oq 61 (.mv (.t 3)),oe 62 (.call 108 [(.t 58),(.v (.int .i64 4)),(.t 60),(.t 61)])]) (.seq (.ops [ oq 64 (.mv (.t 4)),oe 65 (.call 194 [(.t 64)]),oq 63 (.mv (.t 65))]) (.cond (.t 63) (.ops [ oq 66 (.mv (.t 0)),oq 67 (.mv (.t 4)),oe 68 (.call 193 [(.t 67)]),oq 69 (.mv (.t 3)),oe 70 (.call 108 [(.t 66),(.v (.int .i64 3)),(.t 68),(.t 69)])]) (.seq (.ops [ oq 2 (.mv (.v (.int .i64 10)))]) .ret)))))))) (.seq (.ops [ oq 2 (.mv (.v (.int .i64 0)))]) .ret))
def c155_32:ACode := .seq (.ops [ oq 2 (.mv (.v (.int .i64 0)))]) (.seq (.ops [ oq 3 (.mv (.v (.int .i64 0)))]) (.seq (.block 0 (.loop c155_7)) c155_29))
@[go_sem] def c155_7_wp:=wp_of c155_7.eq_1
@[go_sem] def c155_29_wp:=wp_of c155_29.eq_1
@[go_sem] def c155_32_wp:=wp_of c155_32.eq_1
def c155:AFn:=⟨71,[.t 2],c155_32⟩
theorem c155_ok:compF Tryz.prog Tryz.f155=some c155:=by kernel_rfl
theorem a155 {args:List AV} {σ:ASt} {R:AV->ASt->Prop} (hl:args.length<=71) (h:c155_32.wp Tryz.prog (RetQ [.t 2] R) (init args) σ):ACalls Tryz.prog 155 args σ R:=aFq Tryz.func155 c155_ok hl h
/-! 156: (*tabular/token.lexer).quoted -/
def c156_43:ACode := .seq (.seq (.ops [ oq 54 (.mv (.t 7)),oq 55 (.bin .neq (.t 54) (.v (.int .i32 34)))]) (.cond (.t 55) (.seq (.ops [ oq 56 (.mv (.t 7)),oe 57 (.call 195 [(.t 3),(.t 56)])]) (.seq (.ops [ oq 58 (.mv (.t 6)),oq 59 (.bin .add (.t 58) (.v (.int .i64 1))),oq 60 (.mv (.t 7)),oe 61 (.call 196 [(.t 60)]),oq 62 (.bin .add (.t 59) (.t 61)),oq 5 (.mv (.t 62))]) (.exit 1))) .skip)) (.seq (.seq (.ops [ oq 63 (.mv (.t 8)),oq 64 (.bin .add (.t 63) (.v (.int .i64 1))),oq 65 (.mv (.t 0)),oq 66 (.nc (.t 65)),oq 67 (.fa 0 (.t 66)),oq 68 (.ld none (.t 67)),oq 69 (.lenS (.t 68)),oq 70 (.bin .lss (.t 64) (.t 69)),oq 71 (.mv (.t 70)),⟨some 72,some (71,true),.q (.mv (.t 0)),[]⟩,⟨some 73,some (71,true),.q (.nc (.t 72)),[]⟩,⟨some 74,some (71,true),.q (.fa 0 (.t 73)),[]⟩,⟨some 75,some (71,true),.q (.ld none (.t 74)),[]⟩,⟨some 76,some (71,true),.q (.mv (.t 8)),[]⟩,⟨some 77,some (71,true),.q (.bin .add (.t 76) (.v (.int .i64 1))),[]⟩,⟨some 78,some (71,true),.q (.idx (.t 75) (.t 77)),[]⟩,⟨some 79,some (71,true),.q (.bin .eql (.t 78) (.v (.int .u8 34))),[]⟩,oq 80 (.pick (.t 71) (.t 79) (.v (.bool false)))]) (.cond (.t 80) (.seq (.ops [ oe 81 (.call 127 [(.t 3),(.v (.int .u8 34))])]) (.seq (.ops [ oq 82 (.mv (.t 6)),oq 83 (.bin .add (.t 82) (.v (.int .i64 3))),oq 5 (.mv (.t 83))]) (.exit 1))) .skip)) (.seq (.ops [ oq 84 (.mv (.t 6)),oq 85 (.bin .add (.t 84) (.v (.int .i64 2))),oq 5 (.mv (.t 85))]) (.seq (.ops [ oq 4 (.mv (.v (.bool false)))]) (.exit 0))))
def c156_50:ACode := .seq (.ops [ oe 22 (.nxt (.t 21)),oq 23 (.ext 0 (.t 22))]) (.seq (.cond (.t 23) .skip (.exit 0)) (.block 1 (.seq (.ops [ oq 24 (.ext 1 (.t 22)),oq 25 (.ext 2 (.t 22)),oq 6 (.mv (.t 24)),oq 7 (.mv (.t 25))]) (.seq (.seq (.ops [ oq 26 (.mv (.t 6)),oq 27 (.bin .add (.t 26) (.v (.int .i64 1))),oq 28 (.mv (.t 5)),oq 29 (.bin .lss (.t 27) (.t 28))]) (.cond (.t 29) (.exit 1) .skip)) (.seq (.ops [ oq 30 (.mv (.t 0)),oq 31 (.nc (.t 30)),oq 32 (.fa 1 (.t 31)),oq 33 (.ld none (.t 32)),oq 34 (.bin .add (.t 33) (.v (.int .i64 1))),oq 35 (.mv (.t 6)),oq 36 (.bin .add (.t 34) (.t 35)),oq 8 (.mv (.t 36))]) (.seq (.seq (.ops [ oq 37 (.mv (.t 7)),oq 38 (.bin .eql (.t 37) (.v (.int .i32 65533)))]) (.cond (.t 38) (.seq (.ops [ oq 40 (.mv (.t 0)),oq 41 (.nc (.t 40)),oq 42 (.fa 0 (.t 41)),oq 43 (.ld none (.t 42)),oq 44 (.mv (.t 8)),oq 45 (.slfrom (true,0) (.t 43) (.t 44)),oe 46 (.call 119 [(.t 45)]),oq 39 (.mv (.t 46)),oq 47 (.ext 0 (.t 39)),oq 48 (.ext 1 (.t 39)),oq 9 (.mv (.t 47)),oq 10 (.mv (.t 48))]) (.seq (.ops [ oq 49 (.mv (.t 10)),oq 50 (.bin .eql (.t 49) (.v (.int .i64 1)))]) (.cond (.t 50) (.seq (.ops [ oq 51 (.mv (.t 0)),oq 52 (.mv (.t 8)),oe 53 (.call 153 [(.t 51),(.t 52)])]) (.seq (.ops [ oq 2 (.mv (.v (.int .i64 10)))]) .ret)) .skip))) .skip)) c156_43))))))
def c156_63:ACode := .seq (.seq (.ops [ oq 86 (.mv (.t 4))]) (.cond (.t 86) (.seq (.ops [ oq 2 (.mv (.v (.int .i64 10)))]) .ret) .skip)) (.seq (.ops [ oq 87 (.mv (.t 0)),oe 88 (.call 76 [(.t 3)]),oq 89 (.mv (.t 5)),oe 90 (.call 108 [(.t 87),(.v (.int .i64 2)),(.t 88),(.t 89)])]) (.seq (.ops [ oq 2 (.mv (.v (.int .i64 0)))]) .ret))
def c156_68:ACode := .seq (.ops [ oq 2 (.mv (.v (.int .i64 0)))]) (.seq (.ops [ oe 3 (.allocT 149)]) (.seq (.ops [ oq 4 (.mv (.v (.bool true)))]) (.seq (.ops [ oq 5 (.mv (.v (.int .i64 1)))]) (.seq (.seq (.ops [ oq 11 (.mv (.t 0)),oq 12 (.nc (.t 11)),oq 13 (.fa 0 (.t 12)),oq 14 (.ld none (.t 13)),oq 15 (.mv (.t 0)),oq 16 (.nc (.t 15)),oq 17 (.fa 1 (.t 16)),oq 18 (.ld none (.t 17)),oq 19 (.bin .add (.t 18) (.v (.int .i64 1))),oq 20 (.slfrom (true,0) (.t 14) (.t 19)),oe 21 (.rng (.t 20))]) (.block 0 (.loop c156_50))) c156_63))))
@[go_sem] def c156_43_wp:=wp_of c156_43.eq_1
@[go_sem] def c156_50_wp:=wp_of c156_50.eq_1
@[go_sem] def c156_63_wp:=wp_of c156_63.eq_1
@[go_sem] def c156_68_wp:=wp_of c156_68.eq_1
def c156:AFn:=⟨91,[.t 2],c156_68⟩
theorem c156_ok:compF Tryz.prog Tryz.f156=some c156:=by kernel_rfl
theorem a156 {args:List AV} {σ:ASt} {R:AV->ASt->Prop} (hl:args.length<=91) (h:c156_68.wp Tryz.prog (RetQ [.t 2] R) (init args) σ):ACalls Tryz.prog 156 args σ R:=aFq Tryz.func156 c156_ok hl h
/-! 157: (*tabular/token.lexer).failure -/
def c157_19:ACode := .seq (.ops [ oq 9 (.bin .lss (.t 8) (.t 7))]) (.seq (.cond (.t 9) .skip (.exit 0)) (.seq (.block 1 (.seq (.ops [ oq 10 (.ia 1 (.t 6) (.t 8)),oq 11 (.ld none (.t 10)),oq 4 (.mv (.t 11))]) (.seq (.ops [ oq 12 (.mv (.t 4)),oq 13 (.lenS (.t 12)),oq 5 (.mv (.t 13))]) (.seq (.ops [ oq 14 (.mv (.t 0)),oq 15 (.nc (.t 14)),oq 16 (.fa 1 (.t 15)),oq 17 (.ld none (.t 16)),oq 18 (.mv (.t 5)),oq 19 (.bin .add (.t 17) (.t 18)),oq 20 (.mv (.t 0)),oq 21 (.nc (.t 20)),oq 22 (.fa 0 (.t 21)),oq 23 (.ld none (.t 22)),oq 24 (.lenS (.t 23)),oq 25 (.bin .leq (.t 19) (.t 24)),oq 26 (.mv (.t 25)),⟨some 27,some (26,true),.q (.mv (.t 0)),[]⟩,⟨some 28,some (26,true),.q (.nc (.t 27)),[]⟩,⟨some 29,some (26,true),.q (.fa 0 (.t 28)),[]⟩,⟨some 30,some (26,true),.q (.ld none (.t 29)),[]⟩,⟨some 31,some (26,true),.q (.mv (.t 0)),[]⟩,⟨some 32,some (26,true),.q (.nc (.t 31)),[]⟩,⟨some 33,some (26,true),.q (.fa 1 (.t 32)),[]⟩,⟨some 34,some (26,true),.q (.ld none (.t 33)),[]⟩,⟨some 35,some (26,true),.q (.mv (.t 0)),[]⟩,⟨some 36,some (26,true),.q (.nc (.t 35)),[]⟩,⟨some 37,some (26,true),.q (.fa 1 (.t 36)),[]⟩,⟨some 38,some (26,true),.q (.ld none (.t 37)),[]⟩,⟨some 39,some (26,true),.q (.mv (.t 5)),[]⟩,⟨some 40,some (26,true),.q (.bin .add (.t 38) (.t 39)),[]⟩,⟨some 41,some (26,true),.q (.sls (true,0) (.t 30) (.t 34) (.t 40)),[]⟩,⟨some 43,some (26,true),.q (.mv (.t 4)),[]⟩,⟨some 42,some (26,true),.e (.call 193 [(.t 41)]),[]⟩,⟨some 44,some (26,true),.q (.bin .eql (.t 42) (.t 43)),[]⟩,oq 45 (.pick (.t 26) (.t 44) (.v (.bool false)))]) (.cond (.t 45) (.seq (.ops [ oq 46 (.mv (.t 0)),oq 47 (.mv (.t 4)),oq 48 (.mv (.t 5)),oe 49 (.call 108 [(.t 46),(.v (.int .i64 5)),(.t 47),(.t 48)])]) (.seq (.ops [ oq 2 (.mv (.v (.int .i64 0)))]) .ret)) .skip))))) (.ops [ oq 50 (.bin .add (.t 8) (.v (.int .i64 1))),oq 8 (.mv (.t 50))])))
def c157_26:ACode := .seq (.ops [ oq 2 (.mv (.v (.int .i64 0)))]) (.seq (.seq (.ops [ oe 6 (.call 70 []),oq 7 (.len (.t 6)),oq 8 (.mv (.v (.int .i64 0)))]) (.block 0 (.loop c157_19))) (.seq (.ops [ oq 2 (.mv (.v (.int .i64 10)))]) .ret))
@[go_sem] def c157_19_wp:=wp_of c157_19.eq_1
@[go_sem] def c157_26_wp:=wp_of c157_26.eq_1
def c157:AFn:=⟨51,[.t 2],c157_26⟩
theorem c157_ok:compF Tryz.prog Tryz.f157=some c157:=by kernel_rfl
theorem a157 {args:List AV} {σ:ASt} {R:AV->ASt->Prop} (hl:args.length<=51) (h:c157_26.wp Tryz.prog (RetQ [.t 2] R) (init args) σ):ACalls Tryz.prog 157 args σ R:=aFq Tryz.func157 c157_ok hl h
/-! 158: (*tabular/token.lexer).op -/
def c158_26:ACode := .seq (.ops [ oq 21 (.bin .lss (.t 20) (.t 19))]) (.seq (.cond (.t 21) .skip (.exit 0)) (.seq (.block 1 (.seq (.ops [ oq 22 (.ia 1 (.t 18) (.t 20)),oq 23 (.ld none (.t 22)),oq 9 (.mv (.t 23))]) (.seq (.ops [ oq 24 (.mv (.t 0)),oq 25 (.nc (.t 24)),oq 26 (.fa 0 (.t 25)),oq 27 (.ld none (.t 26)),oq 28 (.mv (.t 0)),oq 29 (.nc (.t 28)),oq 30 (.fa 1 (.t 29)),oq 31 (.ld none (.t 30)),oq 32 (.slfrom (true,0) (.t 27) (.t 31)),oq 33 (.mv (.t 9)),oe 34 (.call 198 [(.t 32),(.t 33)])]) (.cond (.t 34) (.seq (.ops [ oq 35 (.mv (.t 0)),oq 36 (.mv (.t 9)),oe 37 (.call 108 [(.t 35),(.v (.int .i64 6)),(.t 36),(.v (.int .i64 2))])]) (.seq (.ops [ oq 6 (.mv (.v (.int .i64 0)))]) .ret)) .skip)))) (.ops [ oq 38 (.bin .add (.t 20) (.v (.int .i64 1))),oq 20 (.mv (.t 38))])))
def c158_39:ACode := .seq (.seq (.ops [ oq 39 (.mv (.t 0)),oq 40 (.nc (.t 39)),oq 41 (.fa 0 (.t 40)),oq 42 (.ld none (.t 41)),oq 43 (.mv (.t 0)),oq 44 (.nc (.t 43)),oq 45 (.fa 1 (.t 44)),oq 46 (.ld none (.t 45)),oq 47 (.idx (.t 42) (.t 46)),oq 48 (.bsl 1 [(.t 47)]),oq 49 (.b2s (.t 48)),oe 50 (.call 199 [(.v (.str [43,45,42,47,94,38,61,60,62,37,40,41,58,44])),(.t 49)]),oq 51 (.un .not (.t 50))]) (.cond (.t 51) (.seq (.ops [ oq 6 (.mv (.v (.int .i64 10)))]) .ret) .skip)) (.seq (.ops [ oq 52 (.mv (.t 0)),oq 53 (.mv (.t 0)),oq 54 (.nc (.t 53)),oq 55 (.fa 0 (.t 54)),oq 56 (.ld none (.t 55)),oq 57 (.mv (.t 0)),oq 58 (.nc (.t 57)),oq 59 (.fa 1 (.t 58)),oq 60 (.ld none (.t 59)),oq 61 (.mv (.t 0)),oq 62 (.nc (.t 61)),oq 63 (.fa 1 (.t 62)),oq 64 (.ld none (.t 63)),oq 65 (.bin .add (.t 64) (.v (.int .i64 1))),oq 66 (.sls (true,0) (.t 56) (.t 60) (.t 65)),oe 67 (.call 108 [(.t 52),(.v (.int .i64 6)),(.t 66),(.v (.int .i64 1))])]) (.seq (.ops [ oq 6 (.mv (.v (.int .i64 0)))]) .ret))
def c158_42:ACode := .seq (.ops [ oq 6 (.mv (.v (.int .i64 0)))]) (.seq (.seq (.ops [ oq 10 (.mv (.t 1)),oe 11 (.call 197 [(.t 10)]),oq 7 (.mv (.t 11))]) (.seq (.ops [ oq 12 (.mv (.t 7)),oq 13 (.bin .neq (.t 12) (.v (.str [])))]) (.cond (.t 13) (.seq (.ops [ oq 14 (.mv (.t 0)),oq 15 (.mv (.t 7)),oq 16 (.mv (.t 2)),oe 17 (.call 108 [(.t 14),(.v (.int .i64 6)),(.t 15),(.t 16)])]) (.seq (.ops [ oq 6 (.mv (.v (.int .i64 0)))]) .ret)) .skip))) (.seq (.seq (.ops [ oq 18 (.bsl 1 [(.v (.str [60,61])),(.v (.str [62,61])),(.v (.str [60,62]))]),oq 19 (.len (.t 18)),oq 20 (.mv (.v (.int .i64 0)))]) (.block 0 (.loop c158_26))) c158_39))
@[go_sem] def c158_26_wp:=wp_of c158_26.eq_1
@[go_sem] def c158_39_wp:=wp_of c158_39.eq_1
@[go_sem] def c158_42_wp:=wp_of c158_42.eq_1
def c158:AFn:=⟨68,[.t 6],c158_42⟩
theorem c158_ok:compF Tryz.prog Tryz.f158=some c158:=by kernel_rfl
theorem a158 {args:List AV} {σ:ASt} {R:AV->ASt->Prop} (hl:args.length<=68) (h:c158_42.wp Tryz.prog (RetQ [.t 6] R) (init args) σ):ACalls Tryz.prog 158 args σ R:=aFq Tryz.func158 c158_ok hl h
end Go.A
end
