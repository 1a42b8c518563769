/- Part 5 of what TextsTurns leans on: Ga CodeTg Tg Za Ya Ua Shelf Wz Zu CodeH Hc Hd Hf CodeJ Ja CodeUb Ub CodeEg. -/
import Derived.Test.YtigdnpbpajgphaaGreatDoorProg
import Derived.KernelRfl
import Derived.Lib.MapLaws
import Derived.Lib.RuneCount
import Derived.Lib.ValidLaws
import Derived.Shelf.Strings.Builder1
import Derived.Shelf.Strings.Builder2
import Derived.Shelf.Strings.OnBuilder
import Derived.Shelf.Strings.Trim
import Derived.Shelf.Small.Utf8
import Derived.Shelf.Small.Strs
import Derived.Shelf.Small.Wraps
import Derived.Shelf.Strings.BuilderF
import Derived.Shelf.Strings.BuilderK
import Derived.Shelf.Utf8.RuneCount
import Derived.Shelf.Strings.Builder2Cap
import Derived.Shelf.Strconv.Itoa0
import Derived.Shelf.Strconv.Itoa1
import Derived.Shelf.LaysM
import Derived.Shelf.Strconv.Itoa2
import Derived.Shelf.Strings.Search1
import Derived.Shelf.Strings.Search2
import Derived.Shelf.Strings.Search3
import Derived.Shelf.Strings.Cut
import Derived.Shelf.Strings.Shaped
import Derived.Shelf.Strings.Prefix
import Derived.Shelf.Unicode.Decode
import Derived.Shelf.Strings.Runes
import Derived.Shelf.Strings.RuneCount
import Derived.Shelf.Strings.AsciiSet
import Derived.Shelf.Bits.Mul64
import Derived.Shelf.Unicode.DecodeSlow
import Derived.Shelf.Unicode.DecodeAny
import Derived.Shelf.Unicode.DecodeLast
import Derived.Shelf.Strings.BuilderCap
import Derived.Lib.ItoaMem
import Derived.Lib.LaidU8
import Derived.Lib.AppendIntMem
import Derived.BigCall
import Derived.BigGuard
import Derived.Test.YtigdnpbpajgphaaGreatDoorZTextsTurnsd
set_option linter.defProp false
set_option linter.unusedSimpArgs false
set_option linter.unusedVariables false
set_option maxRecDepth 100000
namespace Go.A
open Go.Proofs
structure Ref where
 row:Int
 col:Int
 absRow:Bool
 absCol:Bool
 deriving DecidableEq,Inhabited
end Go.A
namespace Go.A
abbrev oq (d:Nat) (x:QOp):AItem:=⟨some d,none,.q x,[]⟩
abbrev oe (d:Nat) (x:EOp):AItem:=⟨some d,none,.e x,[]⟩
abbrev oz (x:EOp):AItem:=⟨none,none,.e x,[]⟩
@[go_sem] theorem run_oq {P:Program} {K:AFr->ASt->Prop} {a:AFr} {σ:ASt} {d:Nat} {q:QOp} {r:List AItem}:runI P (oq d q::r) K a σ=qC P (q.ev a σ) (some d) r K a σ:=run_q
@[go_sem] theorem run_oe {P:Program} {K:AFr->ASt->Prop} {a:AFr} {σ:ASt} {d:Nat} {e:EOp} {r:List AItem}:runI P (oe d e::r) K a σ=e.step P a σ (eK P (some d) [] r K a):=run_e
@[go_sem] theorem run_oz {P:Program} {K:AFr->ASt->Prop} {a:AFr} {σ:ASt} {e:EOp} {r:List AItem}:runI P (oz e::r) K a σ=e.step P a σ (eK P none [] r K a):=run_e
open Go.Proofs
/-! 4: tabular/tabularlaw01.Cut -/
def c4_9:ACode := .seq (.ops [ oq 4 (.mv (.v (.str [])))]) (.seq (.seq (.ops [ oq 5 (.mv (.t 0)),oq 6 (.lenS (.t 5)),oq 7 (.mv (.t 1)),oq 8 (.bin .gtr (.t 6) (.t 7))]) (.cond (.t 8) (.seq (.ops [ oq 9 (.mv (.t 0)),oq 10 (.mv (.t 1)),oq 11 (.slto (true,0) (.t 9) (.t 10)),oq 4 (.mv (.t 11))]) .ret) .skip)) (.seq (.ops [ oq 12 (.mv (.t 0)),oq 4 (.mv (.t 12))]) .ret))
@[go_sem] def c4_9_wp:=wp_of c4_9.eq_1
def c4:AFn:=⟨13,[.t 4],c4_9⟩
theorem c4_ok:compF Tryz.prog Tryz.f4=some c4:=by kernel_rfl
theorem a4 {args:List AV} {σ:ASt} {R:AV->ASt->Prop} (hl:args.length<=13) (h:c4_9.wp Tryz.prog (RetQ [.t 4] R) (init args) σ):ACalls Tryz.prog 4 args σ R:=acalls_of Tryz.func4 c4_ok hl h
end Go.A
namespace Go.A
open Go.Proofs
theorem cut_ok (l:List UInt8) (n:Nat):Pure Tryz.prog 4 [.str l,.int .i64 n] (.str (l.take n)):=by
 intro σ
 refine a4 (by simp) ?_
 by_cases h:n<l.length
 ·have h':(n:Int)<l.length:=by omega
  simp (disch:=first|assumption|omega|(simp only [List.length_append,List.length_cons,List.length_nil];omega)) only [go_sem,reduceCtorEq,Nat.reduceEqDiff,Nat.reduceAdd,Nat.reduceSub,Nat.reduceMul,Nat.reduceLeDiff,Int.reduceLT,Int.reduceLE,Int.reduceEq,↓reduceIte,Int.reduceNeg,Int.reduceAdd,Int.reduceSub,Int.reduceMul,true_imp_iff,forall_const,Nat.mul_one,Int.reduceToNat,Nat.reducePow,Int.reducePow,Bool.true_and,Bool.false_and,Bool.and_false,h']
  exact retC_by (by repeat' (first|exact Drop.refl _|with_reducible refine Drop.off ?_ (by assumption))) (.refl _) ⟨rfl,rfl⟩
 ·have h':¬ (n:Int)<l.length:=by omega
  simp (disch:=first|assumption|omega|(simp only [List.length_append,List.length_cons,List.length_nil];omega)) only [go_sem,reduceCtorEq,Nat.reduceEqDiff,Nat.reduceAdd,Nat.reduceSub,Nat.reduceMul,Nat.reduceLeDiff,Int.reduceLT,Int.reduceLE,Int.reduceEq,↓reduceIte,Int.reduceNeg,Int.reduceAdd,Int.reduceSub,Int.reduceMul,true_imp_iff,forall_const,Nat.mul_one,Int.reduceToNat,Nat.reducePow,Int.reducePow,Bool.true_and,Bool.false_and,Bool.and_false,h']
  exact retC_by (by repeat' (first|exact Drop.refl _|with_reducible refine Drop.off ?_ (by assumption))) (.refl _) ⟨by rw [List.take_of_length_le (by omega)];rfl,rfl⟩
def greatC (c:UInt8):UInt8:=if 97<=c.toNat/\c.toNat<=122 then UInt8.ofNat (c.toNat-32) else c
def greatP (l:List UInt8):List UInt8:=l.map greatC
end Go.A
namespace Go.A
open Go.Proofs Go.Lib
def signsN (l:List UInt8):Nat:=runeCount ⟨⟨l⟩⟩
inductive Step where
 | bad (k:Nat)
 | blank
 | tok (kind:Int) (text:List UInt8) (n:Nat)
 deriving DecidableEq
structure Tok where
 kind:Int
 text:List UInt8
 at':Nat
 col:Nat
 deriving DecidableEq
def sgF:Nat->List UInt8->Option Nat
 | 0,_=>none
 | k+1,r=>if r = [] then some 0 else if decodeL r=(65533,1) then none else (sgF k (r.drop (decodeL r).2)).map (· + 1)
end Go.A
namespace Go.A
open Go.Proofs Go.Lib
theorem decode_whole {r:List UInt8} {c w:Nat} (hr:r ≠ []) (hd:decodeL r=(c,w)) (hv:(c,w)≠(65533,1)) (t:List UInt8):decodeL (r.take w++t)=(c,w):=by
 have hpos:=List.length_pos_iff.2 hr
 rw [decodeL_N] at hd ⊢
 have k0:=(r.getD 0 0).toNat_lt
 have k1:=(r.getD 1 0).toNat_lt
 rcases decodeN_shape r.length (r.getD 0 0).toNat (r.getD 1 0).toNat (r.getD 2 0).toNat (r.getD 3 0).toNat with ⟨c1,e⟩|⟨c1,c2,c3,cv,e⟩|⟨c1,c2,c3,c4,cv,cs,e⟩|⟨c1,c2,c3,c4,c5,cv,cw,e⟩|e
 ·rw [e] at hd
  injection hd with h1 h2
  subst h1 h2
  rw [takeA r hpos]
  generalize r.getD 0 0=b0 at *
  have e0:(([b0]++t).getD 0 0)=b0:=rfl
  rw [e0]
  unfold decodeN
  rw [if_pos c1]
 ·rw [e] at hd
  injection hd with h1 h2
  subst h1 h2
  rw [takeB r c2]
  generalize r.getD 0 0=b0 at *
  generalize r.getD 1 0=b1 at *
  have e0:(([b0,b1]++t).getD 0 0)=b0:=rfl
  have e1:(([b0,b1]++t).getD 1 0)=b1:=rfl
  have el:1<([b0,b1]++t).length:=by simp
  rw [e0,e1]
  unfold decodeN
  rw [if_neg (by omega),if_pos ⟨c1,el,c3⟩,if_pos (by omega)]
 ·rw [e] at hd
  injection hd with h1 h2
  subst h1 h2
  rw [takeC r c2]
  generalize r.getD 0 0=b0 at *
  generalize r.getD 1 0=b1 at *
  generalize r.getD 2 0=b2 at *
  have e0:(([b0,b1,b2]++t).getD 0 0)=b0:=rfl
  have e1:(([b0,b1,b2]++t).getD 1 0)=b1:=rfl
  have e2:(([b0,b1,b2]++t).getD 2 0)=b2:=rfl
  have el:2<([b0,b1,b2]++t).length:=by simp
  rw [e0,e1,e2]
  unfold decodeN
  rw [if_neg (by omega),if_neg (by omega),if_pos ⟨c1,⟨by omega,c3⟩,el,c4⟩,if_pos (by omega)]
 ·rw [e] at hd
  injection hd with h1 h2
  subst h1 h2
  rw [takeD r c2]
  generalize r.getD 0 0=b0 at *
  generalize r.getD 1 0=b1 at *
  generalize r.getD 2 0=b2 at *
  generalize r.getD 3 0=b3 at *
  have e0:(([b0,b1,b2,b3]++t).getD 0 0)=b0:=rfl
  have e1:(([b0,b1,b2,b3]++t).getD 1 0)=b1:=rfl
  have e2:(([b0,b1,b2,b3]++t).getD 2 0)=b2:=rfl
  have e3:(([b0,b1,b2,b3]++t).getD 3 0)=b3:=rfl
  have el:3<([b0,b1,b2,b3]++t).length:=by simp
  rw [e0,e1,e2,e3]
  unfold decodeN
  rw [if_neg (by omega),if_neg (by omega),if_neg (by omega),if_pos ⟨c1,⟨by omega,c3⟩,⟨by omega,c4⟩,el,c5⟩,if_pos (by omega)]
 ·rw [e] at hd
  exact absurd hd.symm hv
end Go.A
namespace Go.A
open Go.Proofs Go.Lib
def pcsF:Nat->List UInt8->List (List UInt8)
 | 0,_ => []
 | k+1,r=>if r = [] then [] else r.take (decodeL r).2::pcsF k (r.drop (decodeL r).2)
def pcs (r:List UInt8):List (List UInt8):=pcsF r.length r
theorem pcsF_fuel:∀ (k m:Nat) (r:List UInt8),r.length<=k->r.length<=m->pcsF k r=pcsF m r
 | 0,m,r,h,_=>by
   have:r = []:=List.eq_nil_of_length_eq_zero (by omega)
   subst this
   cases m<;>simp [pcsF]
 | k+1,0,r,_,h=>by
   have:r = []:=List.eq_nil_of_length_eq_zero (by omega)
   subst this
   simp [pcsF]
 | k+1,m+1,r,h,h'=>by
   unfold pcsF
   by_cases hr:r = []
   ·rw [if_pos hr,if_pos hr]
   have hpos:=List.length_pos_iff.2 hr
   have hw:=decodeL_width r
   rw [if_neg hr,if_neg hr,pcsF_fuel k m _ (by rw [List.length_drop];omega) (by rw [List.length_drop];omega)]
theorem pcs_nil:pcs [] = []:=rfl
theorem pcs_step {r:List UInt8} (hr:r ≠ []):pcs r=r.take (decodeL r).2::pcs (r.drop (decodeL r).2):=by
 have hpos:=List.length_pos_iff.2 hr
 have hw:=decodeL_width r
 obtain ⟨k,hk⟩:∃ k,r.length=k+1:=⟨r.length-1,by omega⟩
 conv=>lhs;unfold pcs;rw [hk,pcsF]
 rw [if_neg hr]
 unfold pcs
 rw [pcsF_fuel k _ _ (by rw [List.length_drop];omega) (Nat.le_refl _)]
theorem pcs_ind {Q:List UInt8->Prop} (h0:Q []) (h1:∀ r,r ≠ []->Q (r.drop (decodeL r).2)->Q r):∀ r,Q r:=by
 have key:∀ (k:Nat) (r:List UInt8),r.length<=k->Q r:=by
  intro k
  induction k with
  | zero=>intro r hr;rw [List.eq_nil_of_length_eq_zero (Nat.le_zero.1 hr)];exact h0
  | succ k ih=>
    intro r hr
    by_cases hn:r = []
    ·rw [hn];exact h0
    ·have hpos:=List.length_pos_iff.2 hn
     have hw:=decodeL_width r
     exact h1 r hn (ih _ (by rw [List.length_drop];omega))
 exact fun r=>key r.length r (Nat.le_refl _)
theorem pcs_flat:∀ r,(pcs r).flatten=r:=pcs_ind rfl fun r hr ih=>by rw [pcs_step hr,List.flatten_cons,ih,List.take_append_drop]
theorem pcs_len:∀ r,(pcs r).length<=r.length:=pcs_ind (Nat.le_refl _) fun r hr ih=>by
 have hpos:=List.length_pos_iff.2 hr
 have hw:=decodeL_width r
 rw [pcs_step hr,List.length_cons]
 rw [List.length_drop] at ih
 omega
def skipP (r:List UInt8) (n:Int):Nat:=((pcs r).take n.toNat).flatten.length
theorem skipP_le (r:List UInt8) (n:Int):skipP r n<=r.length:=by
 have h:=congrArg List.length (pcs_flat r)
 have e:=List.take_append_drop n.toNat (pcs r)
 rw [<-e,List.flatten_append,List.length_append] at h
 unfold skipP
 omega
theorem skip_drop (r:List UInt8) (n:Int):r.drop (skipP r n)=((pcs r).drop n.toNat).flatten:=by
 have h:=pcs_flat r
 have e:=List.take_append_drop n.toNat (pcs r)
 rw [<-e,List.flatten_append] at h
 unfold skipP
 generalize ((pcs r).take n.toNat).flatten=A at *
 generalize ((pcs r).drop n.toNat).flatten=B at *
 rw [<-h]
 exact List.drop_left
theorem pcs_skip:∀ (r:List UInt8) (n:Nat),pcs ((pcs r).drop n).flatten=(pcs r).drop n:=pcs_ind (fun n=>by simp [pcs_nil]) fun r hr ih n=>by
 cases n with
 | zero=>rw [List.drop_zero,pcs_flat]
 | succ n=>rw [pcs_step hr,List.drop_succ_cons];exact ih n
def VP (p:List UInt8):Prop:=p ≠ []/\decodeL p≠(65533,1)/\(decodeL p).2=p.length
theorem VP.app {p:List UInt8} (h:VP p) (t:List UInt8):decodeL (p++t)=decodeL p:=by
 obtain ⟨h1,h2,h3⟩:=h
 have:=decode_whole h1 (show decodeL p=((decodeL p).1,(decodeL p).2) from rfl) h2 t
 rw [h3,List.take_of_length_le (Nat.le_refl _)] at this
 rw [this,← h3]
theorem VP.step {p:List UInt8} (h:VP p) (t:List UInt8):pcs (p++t)=p::pcs t:=by
 have hne:p++t ≠ []:=by simp [h.1]
 rw [pcs_step hne,h.app t,h.2.2,List.take_left,List.drop_left]
theorem pcs_app {P:List (List UInt8)} (h:∀ p∈P,VP p) (t:List UInt8):pcs (P.flatten++t)=P++pcs t:=by
 induction P with
 | nil=>rfl
 | cons p P ih=>
   rw [List.flatten_cons,List.append_assoc,(h p (by simp)).step,ih fun q hq=>h q (by simp [hq]),List.cons_append]
theorem pcs_of {P:List (List UInt8)} (h:∀ p∈P,VP p):pcs P.flatten=P:=by
 have:=pcs_app h []
 rwa [List.append_nil,pcs_nil,List.append_nil] at this
def Whole (r:List UInt8):Prop:=∀ p∈pcs r,VP p
theorem whole_nil:Whole []:=fun p hp=>by cases hp
theorem take_vp {r:List UInt8} (hr:r ≠ []) (hv:decodeL r≠(65533,1)):VP (r.take (decodeL r).2):=by
 have hpos:=List.length_pos_iff.2 hr
 have hw:=decodeL_width r
 have hle:=decodeL_le r hr
 have hd:=decode_whole hr (show decodeL r=((decodeL r).1,(decodeL r).2) from rfl) hv []
 rw [List.append_nil] at hd
 have hd:decodeL (r.take (decodeL r).2)=decodeL r:=hd
 refine ⟨fun e=>?_,by rw [hd];exact hv,by rw [hd,List.length_take];omega⟩
 have:=congrArg List.length e
 rw [List.length_take] at this
 simp only [List.length_nil] at this
 omega
theorem whole_step {r:List UInt8} (hr:r ≠ []):Whole r↔decodeL r≠(65533,1)/\Whole (r.drop (decodeL r).2):=by
 unfold Whole
 rw [pcs_step hr]
 constructor
 ·intro h
  refine ⟨fun e=>?_,fun p hp=>h p (by simp [hp])⟩
  have h1:=h _ (List.mem_cons_self ..)
  rw [e] at h1
  obtain ⟨c,t,rfl⟩:∃ c t,r=c::t:=by cases r with
   | nil=>exact absurd rfl hr
   | cons c t=>exact ⟨c,t,rfl⟩
  have e1:(c::t).take 1 = [c]:=rfl
  simp only [e1] at h1
  have:=h1.app t
  rw [show [c]++t=c::t from rfl,e] at this
  exact h1.2.1 this.symm
 ·rintro ⟨h1,h2⟩ p hp
  rcases List.mem_cons.1 hp with rfl|hp
  ·exact take_vp hr h1
  ·exact h2 p hp
end Go.A
namespace Go.Proofs
open Go.Shelf
def Tryz.lays169_ren:Go.Shelf.Ren:=⟨fun|169=>56|n=>n,fun|70=>95|9=>9|0=>0|72=>97|37=>94|127=>121|3=>3|5=>5|n=>n,fun|n=>n⟩
theorem Tryz.lays169:Go.Proofs.Lays.n169 Tryz.prog Tryz.lays169_ren := {
 mixed:=by kernel_rfl
 f169:=Tryz.func56.trans (congrArg some (by kernel_rfl))
 t0:=Tryz.underlying0
 a0:=Tryz.isAgg0
 z0:=Tryz.sizeOf0
 v0:=Tryz.zeroValue0
 t3:=Tryz.underlying3
 a3:=Tryz.isAgg3
 z3:=Tryz.sizeOf3
 v3:=Tryz.zeroValue3
 t9:=Tryz.underlying9
 a9:=Tryz.isAgg9
 z9:=Tryz.sizeOf9
 v9:=Tryz.zeroValue9
 t37:=Tryz.underlying94
 a37:=Tryz.isAgg94
 z37:=Tryz.sizeOf94
 v37:=Tryz.zeroValue94
 t70:=Tryz.underlying95
 a70:=Tryz.isAgg95
 z70:=Tryz.sizeOf95
 v70:=Tryz.zeroValue95
 t72:=Tryz.underlying97
 a72:=Tryz.isAgg97
 z72:=Tryz.sizeOf97
 v72:=Tryz.zeroValue97
 t127:=Tryz.underlying121
 a127:=Tryz.isAgg121
 z127:=Tryz.sizeOf121
 v127:=Tryz.zeroValue121 }
theorem Tryz.Builder_Extra_169:Builder.Extra Tryz.prog Tryz.lays169_ren := {
 sizeBuilder:=by kernel_rfl
 liesBuilder:=by kernel_rfl
 t5:=Tryz.underlying5
 a5:=Tryz.isAgg5
 z5:=Tryz.sizeOf5
 v5:=Tryz.zeroValue5
 infoByte:=by kernel_rfl
 cellsByte:=by kernel_rfl
 sizeByte:=by kernel_rfl
 neB5:=by decide }
def Tryz.lays156_ren:Go.Shelf.Ren:=⟨fun|156=>81|165=>74|166=>54|169=>56|240=>78|241=>95|276=>100|277=>109|n=>n,fun|31=>55|9=>9|3=>3|4=>4|0=>0|20=>20|72=>97|76=>102|70=>95|37=>94|75=>101|127=>121|164=>141|5=>5|80=>80|n=>n,fun|n=>n⟩
theorem Tryz.lays156:Go.Proofs.Lays.n156 Tryz.prog Tryz.lays156_ren := {
 mixed:=by kernel_rfl
 f156:=Tryz.func81.trans (congrArg some (by kernel_rfl))
 f165:=Tryz.func74.trans (congrArg some (by kernel_rfl))
 f166:=Tryz.func54.trans (congrArg some (by kernel_rfl))
 f169:=Tryz.func56.trans (congrArg some (by kernel_rfl))
 f240:=Tryz.func78.trans (congrArg some (by kernel_rfl))
 f241:=Tryz.func95.trans (congrArg some (by kernel_rfl))
 f276:=Tryz.func100.trans (congrArg some (by kernel_rfl))
 f277:=Tryz.func109.trans (congrArg some (by kernel_rfl))
 t0:=Tryz.underlying0
 a0:=Tryz.isAgg0
 z0:=Tryz.sizeOf0
 v0:=Tryz.zeroValue0
 t3:=Tryz.underlying3
 a3:=Tryz.isAgg3
 z3:=Tryz.sizeOf3
 v3:=Tryz.zeroValue3
 t4:=Tryz.underlying4
 a4:=Tryz.isAgg4
 z4:=Tryz.sizeOf4
 v4:=Tryz.zeroValue4
 t9:=Tryz.underlying9
 a9:=Tryz.isAgg9
 z9:=Tryz.sizeOf9
 v9:=Tryz.zeroValue9
 t20:=Tryz.underlying20
 a20:=Tryz.isAgg20
 z20:=Tryz.sizeOf20
 v20:=Tryz.zeroValue20
 t31:=Tryz.underlying55
 a31:=Tryz.isAgg55
 z31:=Tryz.sizeOf55
 v31:=Tryz.zeroValue55
 t37:=Tryz.underlying94
 a37:=Tryz.isAgg94
 z37:=Tryz.sizeOf94
 v37:=Tryz.zeroValue94
 t70:=Tryz.underlying95
 a70:=Tryz.isAgg95
 z70:=Tryz.sizeOf95
 v70:=Tryz.zeroValue95
 t72:=Tryz.underlying97
 a72:=Tryz.isAgg97
 z72:=Tryz.sizeOf97
 v72:=Tryz.zeroValue97
 t75:=Tryz.underlying101
 a75:=Tryz.isAgg101
 z75:=Tryz.sizeOf101
 v75:=Tryz.zeroValue101
 t76:=Tryz.underlying102
 a76:=Tryz.isAgg102
 z76:=Tryz.sizeOf102
 v76:=Tryz.zeroValue102
 t127:=Tryz.underlying121
 a127:=Tryz.isAgg121
 z127:=Tryz.sizeOf121
 v127:=Tryz.zeroValue121
 t164:=Tryz.underlying141
 a164:=Tryz.isAgg141
 z164:=Tryz.sizeOf141
 v164:=Tryz.zeroValue141 }
theorem Tryz.Builder_Extra_156:Builder.Extra Tryz.prog Tryz.lays156_ren := {
 sizeBuilder:=by kernel_rfl
 liesBuilder:=by kernel_rfl
 t5:=Tryz.underlying5
 a5:=Tryz.isAgg5
 z5:=Tryz.sizeOf5
 v5:=Tryz.zeroValue5
 infoByte:=by kernel_rfl
 cellsByte:=by kernel_rfl
 sizeByte:=by kernel_rfl
 neB5:=by decide }
open Go.RowKit in
theorem Tryz.strings_Join_none (a:Option Addr) (c:Nat) (sep:ByteArray) (w:World) :
  Calls Tryz.prog 81 #[.slice a 0 c,.string sep] w fun e w'=>e = .returned (.string ⟨#[]⟩)/\w'=w:=Any.strings_Join_none Tryz.lays156 Tryz.Builder_Extra_156 a c sep w
open Go.RowKit in
theorem Tryz.strings_Join (bk o c:Nat) (xs:List ByteArray) (sep:ByteArray) (w:World) (hcells:∀ (j:Nat) x,xs[j]? = some x->w.cell? ⟨bk,o+j,none⟩=some (.string x)) (hbk:bk<w.heap.size) (hN:xs.length<=140737488355328) (hcap:xs.length<=c) (hlen:(Lib.join (xs.map (·.data.toList)) sep.data.toList).length<=140737488355328) :
  Calls Tryz.prog 81 #[.slice (some ⟨bk,o,none⟩) xs.length c,.string sep] w fun e w'=>e = .returned (.string ⟨(Lib.join (xs.map (·.data.toList)) sep.data.toList).toArray⟩)/\Below w.heap.size w w':=Any.strings_Join Tryz.lays156 Tryz.Builder_Extra_156 bk o c xs sep w hcells hbk hN hcap hlen
def Tryz.lays162_ren:Go.Shelf.Ren:=⟨fun|162=>65|232=>84|227=>85|234=>86|236=>87|228=>106|271=>107|151=>108|120=>118|197=>62|152=>119|260=>82|137=>122|119=>40|224=>98|225=>97|217=>96|266=>110|n=>n,fun|9=>9|4=>4|3=>3|5=>5|117=>130|116=>129|0=>0|124=>133|21=>21|105=>105|46=>114|119=>144|139=>147|138=>146|n=>n,fun|3=>1|4=>2|n=>n⟩
theorem Tryz.lays162:Go.Proofs.Lays.n162 Tryz.prog Tryz.lays162_ren := {
 mixed:=by kernel_rfl
 f119:=Tryz.func40.trans (congrArg some (by kernel_rfl))
 f120:=Tryz.func118.trans (congrArg some (by kernel_rfl))
 f137:=Tryz.func122.trans (congrArg some (by kernel_rfl))
 f151:=Tryz.func108.trans (congrArg some (by kernel_rfl))
 f152:=Tryz.func119.trans (congrArg some (by kernel_rfl))
 f162:=Tryz.func65.trans (congrArg some (by kernel_rfl))
 f197:=Tryz.func62.trans (congrArg some (by kernel_rfl))
 f217:=Tryz.func96.trans (congrArg some (by kernel_rfl))
 f224:=Tryz.func98.trans (congrArg some (by kernel_rfl))
 f225:=Tryz.func97.trans (congrArg some (by kernel_rfl))
 f227:=Tryz.func85.trans (congrArg some (by kernel_rfl))
 f228:=Tryz.func106.trans (congrArg some (by kernel_rfl))
 f232:=Tryz.func84.trans (congrArg some (by kernel_rfl))
 f234:=Tryz.func86.trans (congrArg some (by kernel_rfl))
 f236:=Tryz.func87.trans (congrArg some (by kernel_rfl))
 f260:=Tryz.func82.trans (congrArg some (by kernel_rfl))
 f266:=Tryz.func110.trans (congrArg some (by kernel_rfl))
 f271:=Tryz.func107.trans (congrArg some (by kernel_rfl))
 t0:=Tryz.underlying0
 a0:=Tryz.isAgg0
 z0:=Tryz.sizeOf0
 v0:=Tryz.zeroValue0
 t3:=Tryz.underlying3
 a3:=Tryz.isAgg3
 z3:=Tryz.sizeOf3
 v3:=Tryz.zeroValue3
 t4:=Tryz.underlying4
 a4:=Tryz.isAgg4
 z4:=Tryz.sizeOf4
 v4:=Tryz.zeroValue4
 t5:=Tryz.underlying5
 a5:=Tryz.isAgg5
 z5:=Tryz.sizeOf5
 v5:=Tryz.zeroValue5
 t9:=Tryz.underlying9
 a9:=Tryz.isAgg9
 z9:=Tryz.sizeOf9
 v9:=Tryz.zeroValue9
 t21:=Tryz.underlying21
 a21:=Tryz.isAgg21
 z21:=Tryz.sizeOf21
 v21:=Tryz.zeroValue21
 t46:=Tryz.underlying114
 a46:=Tryz.isAgg114
 z46:=Tryz.sizeOf114
 v46:=Tryz.zeroValue114
 t105:=Tryz.underlying105
 a105:=Tryz.isAgg105
 z105:=Tryz.sizeOf105
 v105:=Tryz.zeroValue105
 t116:=Tryz.underlying129
 a116:=Tryz.isAgg129
 z116:=Tryz.sizeOf129
 t117:=Tryz.underlying130
 a117:=Tryz.isAgg130
 z117:=Tryz.sizeOf130
 v117:=Tryz.zeroValue130
 t119:=Tryz.underlying144
 a119:=Tryz.isAgg144
 z119:=Tryz.sizeOf144
 t124:=Tryz.underlying133
 a124:=Tryz.isAgg133
 z124:=Tryz.sizeOf133
 v124:=Tryz.zeroValue133
 t138:=Tryz.underlying146
 a138:=Tryz.isAgg146
 z138:=Tryz.sizeOf146
 v138:=Tryz.zeroValue146
 t139:=Tryz.underlying147
 a139:=Tryz.isAgg147
 z139:=Tryz.sizeOf147
 v139:=Tryz.zeroValue147
 g3:=by kernel_rfl
 g4:=by kernel_rfl }
open Go.RowKit in
theorem Tryz.strings_TrimRight_one (s:ByteArray) (c:UInt8) (hc:c.toNat<128) (w:World) (hs:s.size<=9223372036854775807) :
  Calls Tryz.prog 65 #[.string s,.string ⟨#[c]⟩] w fun e w'=>e = .returned (.string ⟨(Lib.trimRightB s.data.toList c).toArray⟩)/\w'=w:=Any.strings_TrimRight_one Tryz.lays162 s c hc w hs
def Tryz.lays160_ren:Go.Shelf.Ren:=⟨fun|160=>69|232=>84|231=>89|227=>85|234=>86|233=>90|236=>87|235=>91|228=>106|271=>107|151=>108|197=>62|120=>118|152=>119|260=>82|137=>122|119=>40|224=>98|225=>97|217=>96|266=>110|n=>n,fun|9=>9|4=>4|3=>3|5=>5|117=>130|116=>129|0=>0|124=>133|21=>21|105=>105|46=>114|119=>144|139=>147|138=>146|n=>n,fun|3=>1|4=>2|n=>n⟩
theorem Tryz.lays160:Go.Proofs.Lays.n160 Tryz.prog Tryz.lays160_ren := {
 mixed:=by kernel_rfl
 f119:=Tryz.func40.trans (congrArg some (by kernel_rfl))
 f120:=Tryz.func118.trans (congrArg some (by kernel_rfl))
 f137:=Tryz.func122.trans (congrArg some (by kernel_rfl))
 f151:=Tryz.func108.trans (congrArg some (by kernel_rfl))
 f152:=Tryz.func119.trans (congrArg some (by kernel_rfl))
 f160:=Tryz.func69.trans (congrArg some (by kernel_rfl))
 f197:=Tryz.func62.trans (congrArg some (by kernel_rfl))
 f217:=Tryz.func96.trans (congrArg some (by kernel_rfl))
 f224:=Tryz.func98.trans (congrArg some (by kernel_rfl))
 f225:=Tryz.func97.trans (congrArg some (by kernel_rfl))
 f227:=Tryz.func85.trans (congrArg some (by kernel_rfl))
 f228:=Tryz.func106.trans (congrArg some (by kernel_rfl))
 f231:=Tryz.func89.trans (congrArg some (by kernel_rfl))
 f232:=Tryz.func84.trans (congrArg some (by kernel_rfl))
 f233:=Tryz.func90.trans (congrArg some (by kernel_rfl))
 f234:=Tryz.func86.trans (congrArg some (by kernel_rfl))
 f235:=Tryz.func91.trans (congrArg some (by kernel_rfl))
 f236:=Tryz.func87.trans (congrArg some (by kernel_rfl))
 f260:=Tryz.func82.trans (congrArg some (by kernel_rfl))
 f266:=Tryz.func110.trans (congrArg some (by kernel_rfl))
 f271:=Tryz.func107.trans (congrArg some (by kernel_rfl))
 t0:=Tryz.underlying0
 a0:=Tryz.isAgg0
 z0:=Tryz.sizeOf0
 v0:=Tryz.zeroValue0
 t3:=Tryz.underlying3
 a3:=Tryz.isAgg3
 z3:=Tryz.sizeOf3
 v3:=Tryz.zeroValue3
 t4:=Tryz.underlying4
 a4:=Tryz.isAgg4
 z4:=Tryz.sizeOf4
 v4:=Tryz.zeroValue4
 t5:=Tryz.underlying5
 a5:=Tryz.isAgg5
 z5:=Tryz.sizeOf5
 v5:=Tryz.zeroValue5
 t9:=Tryz.underlying9
 a9:=Tryz.isAgg9
 z9:=Tryz.sizeOf9
 v9:=Tryz.zeroValue9
 t21:=Tryz.underlying21
 a21:=Tryz.isAgg21
 z21:=Tryz.sizeOf21
 v21:=Tryz.zeroValue21
 t46:=Tryz.underlying114
 a46:=Tryz.isAgg114
 z46:=Tryz.sizeOf114
 v46:=Tryz.zeroValue114
 t105:=Tryz.underlying105
 a105:=Tryz.isAgg105
 z105:=Tryz.sizeOf105
 v105:=Tryz.zeroValue105
 t116:=Tryz.underlying129
 a116:=Tryz.isAgg129
 z116:=Tryz.sizeOf129
 t117:=Tryz.underlying130
 a117:=Tryz.isAgg130
 z117:=Tryz.sizeOf130
 v117:=Tryz.zeroValue130
 t119:=Tryz.underlying144
 a119:=Tryz.isAgg144
 z119:=Tryz.sizeOf144
 t124:=Tryz.underlying133
 a124:=Tryz.isAgg133
 z124:=Tryz.sizeOf133
 v124:=Tryz.zeroValue133
 t138:=Tryz.underlying146
 a138:=Tryz.isAgg146
 z138:=Tryz.sizeOf146
 v138:=Tryz.zeroValue146
 t139:=Tryz.underlying147
 a139:=Tryz.isAgg147
 z139:=Tryz.sizeOf147
 v139:=Tryz.zeroValue147
 g3:=by kernel_rfl
 g4:=by kernel_rfl }
open Go.RowKit in
theorem Tryz.strings_Trim_one (s:ByteArray) (c:UInt8) (hc:c.toNat<128) (w:World) (hs:s.size<=9223372036854775807) :
  Calls Tryz.prog 69 #[.string s,.string ⟨#[c]⟩] w fun e w'=>e = .returned (.string ⟨(Lib.trimB s.data.toList c).toArray⟩)/\(w'=w\/w'=w.drew):=Any.strings_Trim_one Tryz.lays160 s c hc w hs
def Tryz.lays103_ren:Go.Shelf.Ren:=⟨fun|103=>67|210=>88|206=>94|n=>n,fun|9=>9|4=>4|24=>87|3=>3|n=>n,fun|n=>n⟩
theorem Tryz.lays103:Go.Proofs.Lays.n103 Tryz.prog Tryz.lays103_ren := {
 mixed:=by kernel_rfl
 f103:=Tryz.func67.trans (congrArg some (by kernel_rfl))
 f206:=Tryz.func94.trans (congrArg some (by kernel_rfl))
 f210:=Tryz.func88.trans (congrArg some (by kernel_rfl))
 t3:=Tryz.underlying3
 a3:=Tryz.isAgg3
 z3:=Tryz.sizeOf3
 v3:=Tryz.zeroValue3
 t4:=Tryz.underlying4
 a4:=Tryz.isAgg4
 z4:=Tryz.sizeOf4
 v4:=Tryz.zeroValue4
 t9:=Tryz.underlying9
 a9:=Tryz.isAgg9
 z9:=Tryz.sizeOf9
 v9:=Tryz.zeroValue9
 t24:=Tryz.underlying87
 a24:=Tryz.isAgg87
 z24:=Tryz.sizeOf87
 v24:=Tryz.zeroValue87 }
open Go.RowKit in
theorem Tryz.strings_CutPrefix (s p:ByteArray) (w:World) :
  Calls Tryz.prog 67 #[.string s,.string p] w fun e w'=>e = .returned (.tuple #[.string ⟨(Lib.trimPrefix s.data.toList p.data.toList).toArray⟩,.bool (Lib.hasPrefix s.data.toList p.data.toList)])/\w'=w:=Any.strings_CutPrefix Tryz.lays103 s p w
def Tryz.lays195_ren:Go.Shelf.Ren:=⟨fun|195=>71|n=>n,fun|9=>9|3=>3|0=>0|4=>4|n=>n,fun|n=>n⟩
theorem Tryz.lays195:Go.Proofs.Lays.n195 Tryz.prog Tryz.lays195_ren := {
 mixed:=by kernel_rfl
 f195:=Tryz.func71.trans (congrArg some (by kernel_rfl))
 t0:=Tryz.underlying0
 a0:=Tryz.isAgg0
 z0:=Tryz.sizeOf0
 v0:=Tryz.zeroValue0
 t3:=Tryz.underlying3
 a3:=Tryz.isAgg3
 z3:=Tryz.sizeOf3
 v3:=Tryz.zeroValue3
 t4:=Tryz.underlying4
 a4:=Tryz.isAgg4
 z4:=Tryz.sizeOf4
 v4:=Tryz.zeroValue4
 t9:=Tryz.underlying9
 a9:=Tryz.isAgg9
 z9:=Tryz.sizeOf9
 v9:=Tryz.zeroValue9 }
open Go.RowKit in
theorem Tryz.utf8_RuneCountInString (s:ByteArray) (w:World) (hs:s.size<9223372036854775807) :
  Calls Tryz.prog 71 #[.string s] w fun e w'=>e = .returned (.int .i64 (Lib.runeCount s))/\∃ pos,w'=w.iter s pos:=Any.utf8_RuneCountInString Tryz.lays195 s w hs
def Tryz.lays283_ren:Go.Shelf.Ren:=⟨fun|283=>102|n=>n,fun|3=>3|9=>9|4=>4|n=>n,fun|n=>n⟩
theorem Tryz.lays283:Go.Proofs.Lays.n283 Tryz.prog Tryz.lays283_ren := {
 mixed:=by kernel_rfl
 f283:=Tryz.func102.trans (congrArg some (by kernel_rfl))
 t3:=Tryz.underlying3
 a3:=Tryz.isAgg3
 z3:=Tryz.sizeOf3
 v3:=Tryz.zeroValue3
 t4:=Tryz.underlying4
 a4:=Tryz.isAgg4
 z4:=Tryz.sizeOf4
 v4:=Tryz.zeroValue4
 t9:=Tryz.underlying9
 a9:=Tryz.isAgg9
 z9:=Tryz.sizeOf9
 v9:=Tryz.zeroValue9 }
open Go.Lib in
theorem Tryz.internal_strconv_small (i:Nat) (h:i<100) (w:World) :
  Calls Tryz.prog 102 #[.int .i64 i] w fun e w'=>e = .returned (.string ⟨(Lib.decDigits i).toArray⟩)/\w'=w:=Any.internal_strconv_small Tryz.lays283 i h w
def Tryz.laysM284_ren:Go.Shelf.Ren:=⟨fun|284=>103|129=>114|317=>113|318=>115|n=>n,fun|53=>107|3=>3|212=>159|0=>0|4=>4|46=>114|5=>5|9=>9|n=>n,fun|17=>4|n=>n⟩
theorem Tryz.laysM284:Go.Proofs.LaysM.n284 Tryz.prog Tryz.laysM284_ren := {
 mixed:=by kernel_rfl
 f129:=Tryz.func114.trans (congrArg some (by kernel_rfl))
 f284:=Tryz.func103.trans (congrArg some (by kernel_rfl))
 f317:=Tryz.func113.trans (congrArg some (by kernel_rfl))
 f318:=Tryz.func115.trans (congrArg some (by kernel_rfl))
 t0:=Tryz.underlying0
 a0:=Tryz.isAgg0
 z0:=Tryz.sizeOf0
 v0:=Tryz.zeroValue0
 t3:=Tryz.underlying3
 a3:=Tryz.isAgg3
 z3:=Tryz.sizeOf3
 v3:=Tryz.zeroValue3
 t4:=Tryz.underlying4
 a4:=Tryz.isAgg4
 z4:=Tryz.sizeOf4
 v4:=Tryz.zeroValue4
 t5:=Tryz.underlying5
 a5:=Tryz.isAgg5
 z5:=Tryz.sizeOf5
 v5:=Tryz.zeroValue5
 t9:=Tryz.underlying9
 a9:=Tryz.isAgg9
 z9:=Tryz.sizeOf9
 v9:=Tryz.zeroValue9
 t46:=Tryz.underlying114
 a46:=Tryz.isAgg114
 z46:=Tryz.sizeOf114
 v46:=Tryz.zeroValue114
 t53:=Tryz.underlying107
 a53:=Tryz.isAgg107
 z53:=Tryz.sizeOf107
 v53:=Tryz.zeroValue107
 t212:=Tryz.underlying159
 a212:=Tryz.isAgg159
 z212:=Tryz.sizeOf159
 v212:=Tryz.zeroValue159
 g17:=by kernel_rfl
 i0:=by kernel_rfl
 i3:=by kernel_rfl
 i4:=by kernel_rfl
 i5:=by kernel_rfl
 i9:=by kernel_rfl
 i46:=by kernel_rfl
 i53:=by kernel_rfl
 i212:=by kernel_rfl
 m17:=by kernel_rfl }
open Go.Lib in
theorem Tryz.internal_strconv_numDigits (u : Nat) (h1 : 1 ≤ u) (h2 : u < 18446744073709551616) (w : World) (htab : Lib.TabIs Tryz.prog w "internal/strconv.uint64pow10" .u64 Lib.pow10Tab) :
  Calls Tryz.prog 103 #[.int .u64 u] w fun e w'=>e = .returned (.int .i64 (Lib.nDigits u))/\w'=w:=Any.internal_strconv_numDigits Tryz.laysM284 u h1 h2 w htab
def Tryz.lays285_ren:Go.Shelf.Ren:=⟨fun|285=>104|n=>n,fun|37=>94|53=>107|3=>3|4=>4|51=>136|9=>9|5=>5|0=>0|n=>n,fun|n=>n⟩
theorem Tryz.lays285:Go.Proofs.Lays.n285 Tryz.prog Tryz.lays285_ren := {
 mixed:=by kernel_rfl
 f285:=Tryz.func104.trans (congrArg some (by kernel_rfl))
 t0:=Tryz.underlying0
 a0:=Tryz.isAgg0
 z0:=Tryz.sizeOf0
 v0:=Tryz.zeroValue0
 t3:=Tryz.underlying3
 a3:=Tryz.isAgg3
 z3:=Tryz.sizeOf3
 v3:=Tryz.zeroValue3
 t4:=Tryz.underlying4
 a4:=Tryz.isAgg4
 z4:=Tryz.sizeOf4
 v4:=Tryz.zeroValue4
 t5:=Tryz.underlying5
 a5:=Tryz.isAgg5
 z5:=Tryz.sizeOf5
 v5:=Tryz.zeroValue5
 t9:=Tryz.underlying9
 a9:=Tryz.isAgg9
 z9:=Tryz.sizeOf9
 v9:=Tryz.zeroValue9
 t37:=Tryz.underlying94
 a37:=Tryz.isAgg94
 z37:=Tryz.sizeOf94
 v37:=Tryz.zeroValue94
 t51:=Tryz.underlying136
 a51:=Tryz.isAgg136
 z51:=Tryz.sizeOf136
 v51:=Tryz.zeroValue136
 t53:=Tryz.underlying107
 a53:=Tryz.isAgg107
 z53:=Tryz.sizeOf107
 v53:=Tryz.zeroValue107 }
open Go.RowKit Go.Sort Go.Lib in
theorem Tryz.internal_strconv_formatBase10 (blk off cap:Nat) (u:Nat) (d:Array UInt8) (w:World) (hH:Holds (fun (b:UInt8)=>Value.int .u8 (b.toNat:Int)) w blk off d) (hu:u<10 ^ d.size) (hu64:u<18446744073709551616) (hsz:d.size<4611686018427387904) :
  Calls Tryz.prog 104 #[.slice (some ⟨blk,off,none⟩) d.size cap,.int .u64 u] w fun e w'=>
   e = .returned (.tuple #[])/\∃ (n v':Nat) (dk:Array UInt8),w'=(putRow (fun (b:UInt8)=>Value.int .u8 (b.toNat:Int)) w blk off dk).drewN n/\FmtInv d.size u 0 v' dk:=Any.internal_strconv_formatBase10 Tryz.lays285 blk off cap u d w hH hu hu64 hsz
def Tryz.lays219_ren:Go.Shelf.Ren:=⟨fun|219=>75|217=>96|225=>97|224=>98|267=>99|266=>110|314=>111|n=>n,fun|9=>9|3=>3|4=>4|5=>5|46=>114|146=>137|51=>136|n=>n,fun|1=>0|n=>n⟩
theorem Tryz.lays219:Go.Proofs.Lays.n219 Tryz.prog Tryz.lays219_ren := {
 mixed:=by kernel_rfl
 f217:=Tryz.func96.trans (congrArg some (by kernel_rfl))
 f219:=Tryz.func75.trans (congrArg some (by kernel_rfl))
 f224:=Tryz.func98.trans (congrArg some (by kernel_rfl))
 f225:=Tryz.func97.trans (congrArg some (by kernel_rfl))
 f266:=Tryz.func110.trans (congrArg some (by kernel_rfl))
 f267:=Tryz.func99.trans (congrArg some (by kernel_rfl))
 f314:=Tryz.func111.trans (congrArg some (by kernel_rfl))
 t3:=Tryz.underlying3
 a3:=Tryz.isAgg3
 z3:=Tryz.sizeOf3
 v3:=Tryz.zeroValue3
 t4:=Tryz.underlying4
 a4:=Tryz.isAgg4
 z4:=Tryz.sizeOf4
 v4:=Tryz.zeroValue4
 t5:=Tryz.underlying5
 a5:=Tryz.isAgg5
 z5:=Tryz.sizeOf5
 v5:=Tryz.zeroValue5
 t9:=Tryz.underlying9
 a9:=Tryz.isAgg9
 z9:=Tryz.sizeOf9
 v9:=Tryz.zeroValue9
 t46:=Tryz.underlying114
 a46:=Tryz.isAgg114
 z46:=Tryz.sizeOf114
 v46:=Tryz.zeroValue114
 t51:=Tryz.underlying136
 a51:=Tryz.isAgg136
 z51:=Tryz.sizeOf136
 v51:=Tryz.zeroValue136
 t146:=Tryz.underlying137
 a146:=Tryz.isAgg137
 z146:=Tryz.sizeOf137
 v146:=Tryz.zeroValue137
 g1:=by kernel_rfl }
open Go.RowKit Go.Lib in
theorem Tryz.stringslite_Index_one (s:ByteArray) (c:UInt8) (w:World) :
  Calls Tryz.prog 75 #[.string s,.string ⟨#[c]⟩] w fun e w'=>e = .returned (.int .i64 (Lib.indexByte s.data.toList c))/\w'=w:=Any.stringslite_Index_one Tryz.lays219 s c w
def Tryz.lays143_ren:Go.Shelf.Ren:=⟨fun|143=>50|219=>75|217=>96|225=>97|224=>98|267=>99|266=>110|314=>111|n=>n,fun|9=>9|3=>3|4=>4|5=>5|46=>114|146=>137|51=>136|n=>n,fun|1=>0|n=>n⟩
theorem Tryz.lays143:Go.Proofs.Lays.n143 Tryz.prog Tryz.lays143_ren := {
 mixed:=by kernel_rfl
 f143:=Tryz.func50.trans (congrArg some (by kernel_rfl))
 f217:=Tryz.func96.trans (congrArg some (by kernel_rfl))
 f219:=Tryz.func75.trans (congrArg some (by kernel_rfl))
 f224:=Tryz.func98.trans (congrArg some (by kernel_rfl))
 f225:=Tryz.func97.trans (congrArg some (by kernel_rfl))
 f266:=Tryz.func110.trans (congrArg some (by kernel_rfl))
 f267:=Tryz.func99.trans (congrArg some (by kernel_rfl))
 f314:=Tryz.func111.trans (congrArg some (by kernel_rfl))
 t3:=Tryz.underlying3
 a3:=Tryz.isAgg3
 z3:=Tryz.sizeOf3
 v3:=Tryz.zeroValue3
 t4:=Tryz.underlying4
 a4:=Tryz.isAgg4
 z4:=Tryz.sizeOf4
 v4:=Tryz.zeroValue4
 t5:=Tryz.underlying5
 a5:=Tryz.isAgg5
 z5:=Tryz.sizeOf5
 v5:=Tryz.zeroValue5
 t9:=Tryz.underlying9
 a9:=Tryz.isAgg9
 z9:=Tryz.sizeOf9
 v9:=Tryz.zeroValue9
 t46:=Tryz.underlying114
 a46:=Tryz.isAgg114
 z46:=Tryz.sizeOf114
 v46:=Tryz.zeroValue114
 t51:=Tryz.underlying136
 a51:=Tryz.isAgg136
 z51:=Tryz.sizeOf136
 v51:=Tryz.zeroValue136
 t146:=Tryz.underlying137
 a146:=Tryz.isAgg137
 z146:=Tryz.sizeOf137
 v146:=Tryz.zeroValue137
 g1:=by kernel_rfl }
open Go.RowKit Go.Lib in
theorem Tryz.strings_Index (s sub:ByteArray) (m:Int) (w:World) (hs:s.size<4294967281) (hm:w.cell? ⟨0,0,none⟩=some (.int .i64 m)) :
  Calls Tryz.prog 50 #[.string s,.string sub] w fun e w'=>e = .returned (.int .i64 (Lib.index s.data.toList sub.data.toList))/\w'=w:=Any.strings_Index Tryz.lays143 s sub m w hs hm
def Tryz.lays197_ren:Go.Shelf.Ren:=⟨fun|197=>62|260=>82|n=>n,fun|9=>9|21=>21|3=>3|4=>4|5=>5|105=>105|119=>144|0=>0|46=>114|139=>147|138=>146|n=>n,fun|3=>1|4=>2|n=>n⟩
theorem Tryz.lays197:Go.Proofs.Lays.n197 Tryz.prog Tryz.lays197_ren := {
 mixed:=by kernel_rfl
 f197:=Tryz.func62.trans (congrArg some (by kernel_rfl))
 f260:=Tryz.func82.trans (congrArg some (by kernel_rfl))
 t0:=Tryz.underlying0
 a0:=Tryz.isAgg0
 z0:=Tryz.sizeOf0
 v0:=Tryz.zeroValue0
 t3:=Tryz.underlying3
 a3:=Tryz.isAgg3
 z3:=Tryz.sizeOf3
 v3:=Tryz.zeroValue3
 t4:=Tryz.underlying4
 a4:=Tryz.isAgg4
 z4:=Tryz.sizeOf4
 v4:=Tryz.zeroValue4
 t5:=Tryz.underlying5
 a5:=Tryz.isAgg5
 z5:=Tryz.sizeOf5
 v5:=Tryz.zeroValue5
 t9:=Tryz.underlying9
 a9:=Tryz.isAgg9
 z9:=Tryz.sizeOf9
 v9:=Tryz.zeroValue9
 t21:=Tryz.underlying21
 a21:=Tryz.isAgg21
 z21:=Tryz.sizeOf21
 v21:=Tryz.zeroValue21
 t46:=Tryz.underlying114
 a46:=Tryz.isAgg114
 z46:=Tryz.sizeOf114
 v46:=Tryz.zeroValue114
 t105:=Tryz.underlying105
 a105:=Tryz.isAgg105
 z105:=Tryz.sizeOf105
 v105:=Tryz.zeroValue105
 t119:=Tryz.underlying144
 a119:=Tryz.isAgg144
 z119:=Tryz.sizeOf144
 t138:=Tryz.underlying146
 a138:=Tryz.isAgg146
 z138:=Tryz.sizeOf146
 v138:=Tryz.zeroValue146
 t139:=Tryz.underlying147
 a139:=Tryz.isAgg147
 z139:=Tryz.sizeOf147
 v139:=Tryz.zeroValue147
 g3:=by kernel_rfl
 g4:=by kernel_rfl }
def Tryz.lays260_ren:Go.Shelf.Ren:=⟨fun|260=>82|n=>n,fun|9=>9|21=>21|3=>3|4=>4|5=>5|119=>144|0=>0|46=>114|139=>147|138=>146|n=>n,fun|3=>1|4=>2|n=>n⟩
theorem Tryz.lays260:Go.Proofs.Lays.n260 Tryz.prog Tryz.lays260_ren := {
 mixed:=by kernel_rfl
 f260:=Tryz.func82.trans (congrArg some (by kernel_rfl))
 t0:=Tryz.underlying0
 a0:=Tryz.isAgg0
 z0:=Tryz.sizeOf0
 v0:=Tryz.zeroValue0
 t3:=Tryz.underlying3
 a3:=Tryz.isAgg3
 z3:=Tryz.sizeOf3
 v3:=Tryz.zeroValue3
 t4:=Tryz.underlying4
 a4:=Tryz.isAgg4
 z4:=Tryz.sizeOf4
 v4:=Tryz.zeroValue4
 t5:=Tryz.underlying5
 a5:=Tryz.isAgg5
 z5:=Tryz.sizeOf5
 v5:=Tryz.zeroValue5
 t9:=Tryz.underlying9
 a9:=Tryz.isAgg9
 z9:=Tryz.sizeOf9
 v9:=Tryz.zeroValue9
 t21:=Tryz.underlying21
 a21:=Tryz.isAgg21
 z21:=Tryz.sizeOf21
 v21:=Tryz.zeroValue21
 t46:=Tryz.underlying114
 a46:=Tryz.isAgg114
 z46:=Tryz.sizeOf114
 v46:=Tryz.zeroValue114
 t119:=Tryz.underlying144
 a119:=Tryz.isAgg144
 z119:=Tryz.sizeOf144
 t138:=Tryz.underlying146
 a138:=Tryz.isAgg146
 z138:=Tryz.sizeOf146
 v138:=Tryz.zeroValue146
 t139:=Tryz.underlying147
 a139:=Tryz.isAgg147
 z139:=Tryz.sizeOf147
 v139:=Tryz.zeroValue147
 g3:=by kernel_rfl
 g4:=by kernel_rfl }
open Go.RowKit Go.Lib in
theorem Tryz.utf8_DecodeRuneInString (s:ByteArray) (w:World) (hT:Lib.Utf8Tabs 1 2 w) :
  Calls Tryz.prog 62 #[.string s] w fun e w'=>e = .returned (.tuple #[.int .i32 (Lib.decodeGo s).1,.int .i64 (Lib.decodeGo s).2])/\Below w.heap.size w w':=Any.utf8_DecodeRuneInString Tryz.lays197 s w hT
end Go.Proofs
namespace Go.A
open Go.Proofs
section
variable {P:Program} {σ:ASt} {w:World}
theorem reps_ints {k:IntKind}:∀ {zs:List Int} {vs:List Value},Reps σ w (zs.map (AV.int k)) vs->vs=zs.map (Value.int k)
 | [],vs,h=>by cases h;rfl
 | z::zs,vs,h=>by
   cases h with
   | cons h1 h2=>
     cases h1
     rw [reps_ints h2]
     rfl
theorem tabIs_of (hs:Sim σ w) {name:String} {b:Nat} {k:IntKind} {zs:List Int} (hg:P.globalNamed name=some b) (hb:σ b=some (.fix (zs.map (AV.int k)))):Lib.TabIs P w name k zs:=by
 obtain ⟨h1,c,T,fr,h2,h3⟩:=hs b _ hb
 obtain ⟨vs,h4,h5⟩:=h1.vals
 have h6:=reps_ints h4
 subst h6
 unfold Lib.TabIs World.var?
 rw [hg,Option.bind_some]
 simp only [h2]
 congr 1
 apply Array.ext
 ·simp [h3]
 ·intro j hj hj'
  have h7 := h5 j (Value.int k (zs[j]'(by simpa using hj'))) (by simp)
  simp only [World.cell?,h2,Nat.zero_add] at h7
  simp at h7 ⊢
  obtain ⟨_,h7⟩:=Array.getElem?_eq_some_iff.1 h7
  exact h7
theorem ACalls.of_ext {f:FuncId} {args:List AV} {r:AV} {u:Value} (h:∀ w vs,Sim σ w->Reps σ w args vs->Calls P f ⟨vs⟩ w fun e w'=>e = .returned u/\Ext w w') (hr:∀ w,Rep σ w r u):ACalls P f args σ fun v σ'=>v=r/\σ'=σ:=
 fun w vs hs ha=>(h w vs hs ha).mono fun e w' ⟨he,hx⟩=>⟨u,r,σ,he,⟨rfl,rfl⟩,ext_le hx,hs.ext hx,hr w'⟩
theorem ext_grow (w:World) (k:Nat) (os:Array Obj):Ext w (Go.Sort.grow (w.drewN k) os):=⟨⟨os,w.drawn+k⟩,rfl⟩
end
theorem Ext.of_eq {w w':World} (h:w'=w):Ext w w':=h▸Ext.refl w
def Tab (σ:ASt):Prop:=σ 4=some (.fix (Lib.pow10Tab.map (AV.int .u64)))
theorem Tab.set {σ:ASt} {b:Nat} {r:Option Role} (h:Tab σ) (hb:σ b=none):Tab (σ.set b r):=by
 unfold Tab at *
 rw [ASt.set_ne]
 ·exact h
 ·intro e;rw [<-e,h] at hb;cases hb
end Go.A
namespace Go.A
open Go.Proofs Go.Lib
def accTab:List Int:=(List.range 16).flatMap fun i => [(accLo i:Int),(accHi i:Int)]
def U8 (σ:ASt):Prop:=σ 1=some (.fix (firstTab.map (AV.int .u8)))/\σ 2=some (.fix (accTab.map (AV.int .u8)))
theorem U8.of_eq {σ σ':ASt} (h:U8 σ) (h1:σ' 1=σ 1) (h2:σ' 2=σ 2):U8 σ':=⟨h1.trans h.1,h2.trans h.2⟩
theorem U8.set {σ:ASt} {b:Nat} {r:Option Role} (h:U8 σ) (hb:σ b=none):U8 (σ.set b r):=by
 refine h.of_eq (ASt.set_ne ?_) (ASt.set_ne ?_)<;>rintro rfl
 ·rw [h.1] at hb;cases hb
 ·rw [h.2] at hb;cases hb
theorem fix_ints {σ:ASt} {w:World} (hs:Sim σ w) {b:Nat} {k:IntKind} {zs:List Int} (h:σ b=some (.fix (zs.map (AV.int k)))):∀ j z,zs[j]? = some z->w.cell? ⟨b,j,none⟩=some (.int k z):=by
 intro j z hj
 obtain ⟨vs,h4,h5⟩:=(hs b _ h).1.vals
 have h6:=reps_ints h4
 subst h6
 have:=h5 j (Value.int k z) (by simp [hj])
 simpa using this
theorem u8_tabs {σ:ASt} {w:World} (hs:Sim σ w) (h:U8 σ):Utf8Tabs 1 2 w:=by
 refine ⟨fun c hc=>fix_ints hs h.1 c _ (by simp [firstTab,hc]),fun i hi=>?_⟩
 have key:∀ i,i<16->accTab[2*i]? = some (accLo i:Int)/\accTab[2*i+1]? = some (accHi i:Int):=by decide
 exact ⟨fix_ints hs h.2 _ _ (key i hi).1,fix_ints hs h.2 _ _ (key i hi).2⟩
theorem ACalls.of_below {P:Program} {σ:ASt} {f:FuncId} {args:List AV} {r:AV} {u:Value} (h:∀ w vs,Sim σ w->Reps σ w args vs->Calls P f ⟨vs⟩ w fun e w'=>e = .returned u/\RowKit.Below w.heap.size w w') (hr:∀ w,Rep σ w r u):ACalls P f args σ fun v σ'=>v=r/\σ'=σ:=
 ACalls.of_ext (fun w vs hs ha=>(h w vs hs ha).mono fun e w' ⟨he,hb⟩=>⟨he,Ext.of_below hb⟩) hr
theorem dec_ok {σ:ASt} (h:U8 σ) {l:List UInt8} (h0:l ≠ []):ACalls Tryz.prog 62 [.str l] σ fun v σ'=>v = .tuple [.int .i32 (decodeL l).1,.int .i64 (decodeL l).2]/\σ'=σ:=by
 refine ACalls.of_below (u := .tuple #[.int .i32 (decodeL l).1,.int .i64 (decodeL l).2]) (fun w vs hs ha=>?_) fun w => .tuple (.cons (.int _ _) (.cons (.int _ _) .nil))
 cases ha with
 | cons h1 h2=>
 cases h1;cases h2
 have:=Tryz.utf8_DecodeRuneInString ⟨⟨l⟩⟩ w (u8_tabs hs h)
 have e:decodeGo ⟨⟨l⟩⟩=decodeL l:=by
  unfold decodeGo decodeL
  rw [if_neg (by cases l;exact absurd rfl h0;simp [ByteArray.size])]
 rw [e] at this
 exact this
theorem count_ok (l:List UInt8) (hl:l.length<9223372036854775807):Pure Tryz.prog 71 [.str l] (.int .i64 (signsN l)):=by
 intro σ
 refine ACalls.of_ext (u := .int .i64 (signsN l)) (fun w vs hs ha=>?_) fun w => .int _ _
 cases ha with
 | cons h1 h2=>
 cases h1;cases h2
 refine (Tryz.utf8_RuneCountInString ⟨⟨l⟩⟩ w (by simpa [ByteArray.size] using hl)).mono ?_
 rintro e w' ⟨rfl,pos,rfl⟩
 exact ⟨rfl,Ext.alloc (Ext.refl w) _⟩
end Go.A
namespace Go.A
open Go.Proofs
/-! 37: tabular/deci.Good -/
def c37_3:ACode := .seq (.ops [ oq 2 (.mv (.v (.bool false)))]) (.seq (.ops [ oq 3 (.mv (.t 0)),oq 4 (.bin .geq (.t 3) (.v (.int .i64 (-999999999999999999)))),oq 5 (.mv (.t 4)),⟨some 6,some (5,true),.q (.mv (.t 0)),[]⟩,⟨some 7,some (5,true),.q (.bin .leq (.t 6) (.v (.int .i64 999999999999999999))),[]⟩,oq 8 (.pick (.t 5) (.t 7) (.v (.bool false))),oq 2 (.mv (.t 8))]) .ret)
@[go_sem] def c37_3_wp:=wp_of c37_3.eq_1
def c37:AFn:=⟨9,[.t 2],c37_3⟩
theorem c37_ok:compF Tryz.prog Tryz.f37=some c37:=by kernel_rfl
theorem a37 {args:List AV} {σ:ASt} {R:AV->ASt->Prop} (hl:args.length<=9) (h:c37_3.wp Tryz.prog (RetQ [.t 2] R) (init args) σ):ACalls Tryz.prog 37 args σ R:=acalls_of Tryz.func37 c37_ok hl h
/-! 39: (tabular/deci.Dec).Text -/
def c39_20:ACode := .seq (.ops [ oq 2 (.mv (.v (.str [])))]) (.seq (.ops [ oq 6 (.mv (.t 0)),oe 7 (.call 63 [(.t 6)]),oq 3 (.mv (.t 7))]) (.seq (.ops [ oq 8 (.mv (.t 3)),oq 9 (.bin .quo (.t 8) (.v (.int .u64 10000))),oe 10 (.call 64 [(.t 9),(.v (.int .i64 10))]),oq 4 (.mv (.t 10))]) (.seq (.seq (.ops [ oq 11 (.mv (.t 3)),oq 12 (.bin .rem (.t 11) (.v (.int .u64 10000))),oq 5 (.mv (.t 12))]) (.seq (.ops [ oq 13 (.mv (.t 5)),oq 14 (.bin .gtr (.t 13) (.v (.int .u64 0)))]) (.cond (.t 14) (.ops [ oq 15 (.mv (.t 4)),oq 16 (.mv (.t 5)),oq 17 (.bin .add (.v (.int .u64 10000)) (.t 16)),oe 18 (.call 64 [(.t 17),(.v (.int .i64 10))]),oq 19 (.slfrom (true,0) (.t 18) (.v (.int .i64 1))),oe 20 (.call 65 [(.t 19),(.v (.str [48]))]),oq 21 (.bin .add (.v (.str [46])) (.t 20)),oq 22 (.bin .add (.t 15) (.t 21)),oq 4 (.mv (.t 22))]) .skip))) (.seq (.seq (.ops [ oq 23 (.mv (.t 0)),oq 24 (.bin .lss (.t 23) (.v (.int .i64 0)))]) (.cond (.t 24) (.seq (.ops [ oq 25 (.mv (.t 4)),oq 26 (.bin .add (.v (.str [45])) (.t 25)),oq 2 (.mv (.t 26))]) .ret) .skip)) (.seq (.ops [ oq 27 (.mv (.t 4)),oq 2 (.mv (.t 27))]) .ret)))))
@[go_sem] def c39_20_wp:=wp_of c39_20.eq_1
def c39:AFn:=⟨28,[.t 2],c39_20⟩
theorem c39_ok:compF Tryz.prog Tryz.f39=some c39:=by kernel_rfl
theorem a39 {args:List AV} {σ:ASt} {R:AV->ASt->Prop} (hl:args.length<=28) (h:c39_20.wp Tryz.prog (RetQ [.t 2] R) (init args) σ):ACalls Tryz.prog 39 args σ R:=acalls_of Tryz.func39 c39_ok hl h
/-! 44: tabular/deci.Parse -/
def c44_25:ACode := .seq (.ops [ oq 47 (.bin .lss (.t 46) (.t 45))]) (.seq (.cond (.t 47) .skip (.exit 0)) (.seq (.block 1 (.seq (.ops [ oq 48 (.ia 1 (.t 44) (.t 46)),oq 49 (.ld none (.t 48)),oq 11 (.mv (.t 49))]) (.seq (.seq (.ops [ oq 50 (.mv (.t 11)),oq 51 (.bin .lss (.t 50) (.v (.int .u8 48))),oq 52 (.mv (.t 51)),⟨some 53,some (52,false),.q (.mv (.t 11)),[]⟩,⟨some 54,some (52,false),.q (.bin .gtr (.t 53) (.v (.int .u8 57))),[]⟩,oq 55 (.pick (.t 52) (.v (.bool true)) (.t 54)),oq 56 (.mv (.t 55)),⟨some 57,some (56,false),.q (.mv (.t 9)),[]⟩,⟨some 58,some (56,false),.q (.bin .gtr (.t 57) (.v (.int .u64 99999999999999999))),[]⟩,oq 59 (.pick (.t 56) (.v (.bool true)) (.t 58))]) (.cond (.t 59) (.seq (.ops [ oq 2 (.mv (.v (.int .i64 0))),oq 3 (.mv (.v (.bool false)))]) .ret) .skip)) (.ops [ oq 60 (.mv (.t 9)),oq 61 (.bin .mul (.v (.int .u64 10)) (.t 60)),oq 62 (.mv (.t 11)),oq 63 (.bin .sub (.t 62) (.v (.int .u8 48))),oq 64 (.conv .u64 (.t 63)),oq 65 (.bin .add (.t 61) (.t 64)),oq 9 (.mv (.t 65))])))) (.ops [ oq 66 (.bin .add (.t 46) (.v (.int .i64 1))),oq 46 (.mv (.t 66))])))
def c44_32:ACode := .seq (.ops [ oq 9 (.mv (.v (.int .u64 0)))]) (.seq (.seq (.ops [ oq 37 (.mv (.t 6)),oq 38 (.mv (.t 7)),oq 39 (.bin .add (.t 37) (.t 38)),oq 40 (.mv (.t 7)),oq 41 (.lenS (.t 40)),oq 42 (.slfrom (true,0) (.v (.str [48,48,48,48])) (.t 41)),oq 43 (.bin .add (.t 39) (.t 42)),oe 44 (.s2b (.t 43)),oq 45 (.len (.t 44)),oq 46 (.mv (.v (.int .i64 0)))]) (.block 0 (.loop c44_25))) (.seq (.ops [ oq 67 (.mv (.t 5)),oq 68 (.mv (.t 9)),oe 69 (.call 68 [(.t 67),(.v (.int .u64 0)),(.t 68)]),oq 70 (.ext 0 (.t 69)),oq 71 (.ext 1 (.t 69)),oq 2 (.mv (.t 70)),oq 3 (.mv (.t 71))]) .ret))
def c44_36:ACode := .seq (.ops [ oq 2 (.mv (.v (.int .i64 0))),oq 3 (.mv (.v (.bool false)))]) (.seq (.ops [ oq 13 (.mv (.t 0)),oe 14 (.call 67 [(.t 13),(.v (.str [45]))]),oq 12 (.mv (.t 14)),oq 15 (.ext 0 (.t 12)),oq 16 (.ext 1 (.t 12)),oq 4 (.mv (.t 15)),oq 5 (.mv (.t 16))]) (.seq (.ops [ oq 18 (.mv (.t 4)),oe 19 (.call 53 [(.t 18),(.v (.str [46]))]),oq 17 (.mv (.t 19)),oq 20 (.ext 0 (.t 17)),oq 21 (.ext 1 (.t 17)),oq 22 (.ext 2 (.t 17)),oq 6 (.mv (.t 20)),oq 7 (.mv (.t 21)),oq 8 (.mv (.t 22))]) (.seq (.seq (.ops [ oq 23 (.mv (.t 6)),oq 24 (.bin .eql (.t 23) (.v (.str []))),oq 25 (.mv (.t 24)),⟨some 26,some (25,false),.q (.mv (.t 8)),[]⟩,⟨some 27,some (25,false),.q (.mv (.t 26)),[]⟩,⟨some 28,some (27,true),.q (.mv (.t 7)),[]⟩,⟨some 29,some (27,true),.q (.bin .eql (.t 28) (.v (.str []))),[]⟩,⟨some 30,some (27,true),.q (.mv (.t 29)),[]⟩,⟨some 31,some (30,false),.q (.mv (.t 7)),[]⟩,⟨some 32,some (30,false),.q (.lenS (.t 31)),[]⟩,⟨some 33,some (30,false),.q (.bin .gtr (.t 32) (.v (.int .i64 4))),[]⟩,⟨some 34,some (27,true),.q (.pick (.t 30) (.v (.bool true)) (.t 33)),[]⟩,⟨some 35,some (25,false),.q (.pick (.t 27) (.t 34) (.v (.bool false))),[]⟩,oq 36 (.pick (.t 25) (.v (.bool true)) (.t 35))]) (.cond (.t 36) (.seq (.ops [ oq 2 (.mv (.v (.int .i64 0))),oq 3 (.mv (.v (.bool false)))]) .ret) .skip)) c44_32)))
@[go_sem] def c44_25_wp:=wp_of c44_25.eq_1
@[go_sem] def c44_32_wp:=wp_of c44_32.eq_1
@[go_sem] def c44_36_wp:=wp_of c44_36.eq_1
def c44:AFn:=⟨72,[.t 2,.t 3],c44_36⟩
theorem c44_ok:compF Tryz.prog Tryz.f44=some c44:=by kernel_rfl
theorem a44 {args:List AV} {σ:ASt} {R:AV->ASt->Prop} (hl:args.length<=72) (h:c44_36.wp Tryz.prog (RetQ [.t 2,.t 3] R) (init args) σ):ACalls Tryz.prog 44 args σ R:=acalls_of Tryz.func44 c44_ok hl h
/-! 53: strings.Cut -/
def c53_3:ACode := .seq (.ops [ oq 4 (.mv (.v (.str []))),oq 5 (.mv (.v (.str []))),oq 6 (.mv (.v (.bool false)))]) (.seq (.ops [ oq 7 (.mv (.t 0)),oq 8 (.mv (.t 1)),oe 9 (.call 77 [(.t 7),(.t 8)]),oq 10 (.ext 0 (.t 9)),oq 11 (.ext 1 (.t 9)),oq 12 (.ext 2 (.t 9)),oq 4 (.mv (.t 10)),oq 5 (.mv (.t 11)),oq 6 (.mv (.t 12))]) .ret)
@[go_sem] def c53_3_wp:=wp_of c53_3.eq_1
def c53:AFn:=⟨13,[.t 4,.t 5,.t 6],c53_3⟩
theorem c53_ok:compF Tryz.prog Tryz.f53=some c53:=by kernel_rfl
theorem a53 {args:List AV} {σ:ASt} {R:AV->ASt->Prop} (hl:args.length<=13) (h:c53_3.wp Tryz.prog (RetQ [.t 4,.t 5,.t 6] R) (init args) σ):ACalls Tryz.prog 53 args σ R:=acalls_of Tryz.func53 c53_ok hl h
/-! 63: tabular/deci.size -/
def c63_9:ACode := .seq (.ops [ oq 2 (.mv (.v (.int .u64 0)))]) (.seq (.seq (.ops [ oq 3 (.mv (.t 0)),oq 4 (.bin .lss (.t 3) (.v (.int .i64 0)))]) (.cond (.t 4) (.seq (.ops [ oq 5 (.mv (.t 0)),oq 6 (.un .neg (.t 5)),oq 7 (.conv .u64 (.t 6)),oq 2 (.mv (.t 7))]) .ret) .skip)) (.seq (.ops [ oq 8 (.mv (.t 0)),oq 9 (.conv .u64 (.t 8)),oq 2 (.mv (.t 9))]) .ret))
@[go_sem] def c63_9_wp:=wp_of c63_9.eq_1
def c63:AFn:=⟨10,[.t 2],c63_9⟩
theorem c63_ok:compF Tryz.prog Tryz.f63=some c63:=by kernel_rfl
theorem a63 {args:List AV} {σ:ASt} {R:AV->ASt->Prop} (hl:args.length<=10) (h:c63_9.wp Tryz.prog (RetQ [.t 2] R) (init args) σ):ACalls Tryz.prog 63 args σ R:=acalls_of Tryz.func63 c63_ok hl h
/-! 64: strconv.FormatUint -/
def c64_3:ACode := .seq (.ops [ oq 4 (.mv (.v (.str [])))]) (.seq (.ops [ oq 5 (.mv (.t 0)),oq 6 (.mv (.t 1)),oe 7 (.call 83 [(.t 5),(.t 6)]),oq 4 (.mv (.t 7))]) .ret)
@[go_sem] def c64_3_wp:=wp_of c64_3.eq_1
def c64:AFn:=⟨8,[.t 4],c64_3⟩
theorem c64_ok:compF Tryz.prog Tryz.f64=some c64:=by kernel_rfl
theorem a64 {args:List AV} {σ:ASt} {R:AV->ASt->Prop} (hl:args.length<=8) (h:c64_3.wp Tryz.prog (RetQ [.t 4] R) (init args) σ):ACalls Tryz.prog 64 args σ R:=acalls_of Tryz.func64 c64_ok hl h
/-! 66: (tabular/deci.Dec).Whole -/
def c66_3:ACode := .seq (.ops [ oq 2 (.mv (.v (.int .i64 0)))]) (.seq (.ops [ oq 3 (.mv (.t 0)),oq 4 (.bin .quo (.t 3) (.v (.int .i64 10000))),oq 2 (.mv (.t 4))]) .ret)
@[go_sem] def c66_3_wp:=wp_of c66_3.eq_1
def c66:AFn:=⟨5,[.t 2],c66_3⟩
theorem c66_ok:compF Tryz.prog Tryz.f66=some c66:=by kernel_rfl
theorem a66 {args:List AV} {σ:ASt} {R:AV->ASt->Prop} (hl:args.length<=5) (h:c66_3.wp Tryz.prog (RetQ [.t 2] R) (init args) σ):ACalls Tryz.prog 66 args σ R:=acalls_of Tryz.func66 c66_ok hl h
/-! 68: tabular/deci.made -/
def c68_15:ACode := .seq (.ops [ oq 6 (.mv (.v (.int .i64 0))),oq 7 (.mv (.v (.bool false)))]) (.seq (.seq (.ops [ oq 8 (.mv (.t 1)),oq 9 (.bin .gtr (.t 8) (.v (.int .u64 0))),oq 10 (.mv (.t 9)),⟨some 11,some (10,false),.q (.mv (.t 2)),[]⟩,⟨some 12,some (10,false),.q (.bin .gtr (.t 11) (.v (.int .u64 999999999999999999))),[]⟩,oq 13 (.pick (.t 10) (.v (.bool true)) (.t 12))]) (.cond (.t 13) (.seq (.ops [ oq 6 (.mv (.v (.int .i64 0))),oq 7 (.mv (.v (.bool false)))]) .ret) .skip)) (.seq (.seq (.ops [ oq 14 (.mv (.t 0))]) (.cond (.t 14) (.seq (.ops [ oq 15 (.mv (.t 2)),oq 16 (.conv .i64 (.t 15)),oq 17 (.un .neg (.t 16)),oq 6 (.mv (.t 17)),oq 7 (.mv (.v (.bool true)))]) .ret) .skip)) (.seq (.ops [ oq 18 (.mv (.t 2)),oq 19 (.conv .i64 (.t 18)),oq 6 (.mv (.t 19)),oq 7 (.mv (.v (.bool true)))]) .ret)))
@[go_sem] def c68_15_wp:=wp_of c68_15.eq_1
def c68:AFn:=⟨20,[.t 6,.t 7],c68_15⟩
theorem c68_ok:compF Tryz.prog Tryz.f68=some c68:=by kernel_rfl
theorem a68 {args:List AV} {σ:ASt} {R:AV->ASt->Prop} (hl:args.length<=20) (h:c68_15.wp Tryz.prog (RetQ [.t 6,.t 7] R) (init args) σ):ACalls Tryz.prog 68 args σ R:=acalls_of Tryz.func68 c68_ok hl h
/-! 70: tabular/deci.Round -/
def c70_28:ACode := .seq (.ops [ oq 4 (.mv (.v (.int .i64 0))),oq 5 (.mv (.v (.bool false)))]) (.seq (.seq (.ops [ oq 10 (.mv (.t 1)),oq 11 (.bin .lss (.t 10) (.v (.int .i64 (-14))))]) (.cond (.t 11) (.seq (.ops [ oq 4 (.mv (.v (.int .i64 0))),oq 5 (.mv (.v (.bool true)))]) .ret) .skip)) (.seq (.ops [ oq 13 (.mv (.t 1)),oe 14 (.call 92 [(.t 13)]),oq 12 (.mv (.t 14)),oq 15 (.ext 0 (.t 12)),oq 16 (.ext 1 (.t 12)),oq 6 (.mv (.t 15)),oq 7 (.mv (.t 16))]) (.seq (.seq (.ops [ oq 17 (.mv (.t 7)),oq 18 (.un .not (.t 17))]) (.cond (.t 18) (.seq (.ops [ oq 19 (.mv (.t 0)),oq 4 (.mv (.t 19)),oq 5 (.mv (.v (.bool true)))]) .ret) .skip)) (.seq (.ops [ oq 20 (.mv (.t 0)),oe 21 (.call 63 [(.t 20)]),oq 8 (.mv (.t 21))]) (.seq (.ops [ oq 22 (.mv (.t 8)),oq 23 (.mv (.t 6)),oq 24 (.bin .rem (.t 22) (.t 23)),oq 9 (.mv (.t 24))]) (.seq (.ops [ oq 25 (.mv (.t 8)),oq 26 (.mv (.t 9)),oq 27 (.bin .sub (.t 25) (.t 26)),oq 8 (.mv (.t 27))]) (.seq (.seq (.ops [ oq 28 (.mv (.t 9)),oq 29 (.mv (.t 6)),oq 30 (.mv (.t 9)),oq 31 (.bin .sub (.t 29) (.t 30)),oq 32 (.bin .geq (.t 28) (.t 31))]) (.cond (.t 32) (.ops [ oq 33 (.mv (.t 8)),oq 34 (.mv (.t 6)),oq 35 (.bin .add (.t 33) (.t 34)),oq 8 (.mv (.t 35))]) .skip)) (.seq (.ops [ oq 36 (.mv (.t 0)),oq 37 (.bin .lss (.t 36) (.v (.int .i64 0))),oq 38 (.mv (.t 8)),oe 39 (.call 68 [(.t 37),(.v (.int .u64 0)),(.t 38)]),oq 40 (.ext 0 (.t 39)),oq 41 (.ext 1 (.t 39)),oq 4 (.mv (.t 40)),oq 5 (.mv (.t 41))]) .ret))))))))
def c70:AFn:=⟨42,[.t 4,.t 5],c70_28⟩
theorem c70_ok:compF Tryz.prog Tryz.f70=some c70:=by kernel_rfl
theorem a70 {args:List AV} {σ:ASt} {R:AV->ASt->Prop} (hl:args.length<=42) (h:c70_28.wp Tryz.prog (RetQ [.t 4,.t 5] R) (init args) σ):ACalls Tryz.prog 70 args σ R:=acalls_of Tryz.func70 c70_ok hl h
/-! 77: internal/stringslite.Cut -/
def c77_11:ACode := .seq (.ops [ oq 4 (.mv (.v (.str []))),oq 5 (.mv (.v (.str []))),oq 6 (.mv (.v (.bool false)))]) (.seq (.seq (.ops [ oq 8 (.mv (.t 0)),oq 9 (.mv (.t 1)),oe 10 (.call 75 [(.t 8),(.t 9)]),oq 7 (.mv (.t 10))]) (.seq (.ops [ oq 11 (.mv (.t 7)),oq 12 (.bin .geq (.t 11) (.v (.int .i64 0)))]) (.cond (.t 12) (.seq (.ops [ oq 13 (.mv (.t 0)),oq 14 (.mv (.t 7)),oq 15 (.slto (true,0) (.t 13) (.t 14)),oq 16 (.mv (.t 0)),oq 17 (.mv (.t 7)),oq 18 (.mv (.t 1)),oq 19 (.lenS (.t 18)),oq 20 (.bin .add (.t 17) (.t 19)),oq 21 (.slfrom (true,0) (.t 16) (.t 20)),oq 4 (.mv (.t 15)),oq 5 (.mv (.t 21)),oq 6 (.mv (.v (.bool true)))]) .ret) .skip))) (.seq (.ops [ oq 22 (.mv (.t 0)),oq 4 (.mv (.t 22)),oq 5 (.mv (.v (.str []))),oq 6 (.mv (.v (.bool false)))]) .ret))
@[go_sem] def c77_11_wp:=wp_of c77_11.eq_1
def c77:AFn:=⟨23,[.t 4,.t 5,.t 6],c77_11⟩
theorem c77_ok:compF Tryz.prog Tryz.f77=some c77:=by kernel_rfl
theorem a77 {args:List AV} {σ:ASt} {R:AV->ASt->Prop} (hl:args.length<=23) (h:c77_11.wp Tryz.prog (RetQ [.t 4,.t 5,.t 6] R) (init args) σ):ACalls Tryz.prog 77 args σ R:=acalls_of Tryz.func77 c77_ok hl h
/-! 92: tabular/deci.unit -/
end Go.A
namespace Go.A
open Go.Proofs Go.Shelf Go.RowKit Go.Sort
set_option maxHeartbeats 4000000 in
theorem fmtU_small (u:Nat) (hu:u<100) (w:World):Calls Tryz.prog 83 #[.int .u64 u,.int .i64 10] w fun e w'=>e = .returned (.string ⟨(Lib.decDigits u).toArray⟩)/\Ext w w':=by
 have iu:(u:Int)<100:=by omega
 go_enter Tryz.func83,Tryz.ntmps83
 go_wp2_with (go_at_call 102;refine (Tryz.internal_strconv_small u hu _).mono ?_;rintro e w' ⟨rfl,rfl⟩)
 go_ret
 exact ⟨rfl,Ext.refl _⟩
set_option maxHeartbeats 12800000 in
theorem fmtU_big (u : Nat) (hu : 100 ≤ u) (hu64 : u < 18446744073709551616) (w : World) (htab : Lib.TabIs Tryz.prog w "internal/strconv.uint64pow10" .u64 Lib.pow10Tab) :
  Calls Tryz.prog 83 #[.int .u64 u,.int .i64 10] w fun e w'=>e = .returned (.string ⟨(Lib.decDigits u).toArray⟩)/\Ext w w':=by
 have hu1:1<=u:=by omega
 have hnd20:Lib.nDigits u<=20:=by have:=Lib.numDigits_eq u hu1 hu64;split at this<;>omega
 have hal:Tryz.prog.arrayLen 148=24:=by kernel_rfl
 have hsl:∀ W,(Instr.sliceAt 148 (.pointer (some ⟨w.heap.size,0,none⟩)) none (some (.int .i64 (Lib.nDigits u:Int))) none).run Tryz.prog W = .ok (.slice (some ⟨w.heap.size,0,none⟩) (Lib.nDigits u) 24) W:=fun W=>by
  rw [run_sliceAt_array_h W 148 ⟨w.heap.size,0,none⟩ (by kernel_rfl) .i64 (Lib.nDigits u:Int) (by omega) (by rw [hal];omega)]
  rw [hal]
  rfl
 have hH0:=Lib.holds_zero0 w 148 (Lib.nDigits u) (by omega)
 have hfmt:=Tryz.internal_strconv_formatBase10 w.heap.size 0 24 u (Array.replicate (Lib.nDigits u) 0) (w.alloc (.cells Lib.zeros24 148)) hH0 (by rw [Array.size_replicate];exact Lib.lt_pow_nDigits u) hu64 (by rw [Array.size_replicate];omega)
 rw [Array.size_replicate] at hfmt
 have HH0:=Lib.hid hH0
 have iu:(100:Int)<=(u:Int):=by omega
 clear hH0 hal
 go_enter Tryz.func83,Tryz.ntmps83
 go_wp2_with (first
  | (go_at_call 103;refine (Tryz.internal_strconv_numDigits u hu1 hu64 _ (Lib.tabIs_alloc htab _)).mono ?_;rintro e w' ⟨rfl,rfl⟩))
 go_at_call 104
 refine hfmt.mono ?_
 rintro e w' ⟨rfl,k,v',dk,rfl,hF⟩
 have hcv:(convert 94 9 (.slice (some ⟨w.heap.size,0,none⟩) (Lib.nDigits u) 24)).run Tryz.prog ((putRow (fun (b:UInt8)=>Value.int .u8 (b.toNat:Int)) (w.alloc (.cells Lib.zeros24 148)) w.heap.size 0 dk).drewN k) = .ok (.string ⟨(Lib.decDigits u).toArray⟩) ((putRow (fun (b:UInt8)=>Value.int .u8 (b.toNat:Int)) (w.alloc (.cells Lib.zeros24 148)) w.heap.size 0 dk).drewN k):=by
  have h:=run_convert_bytes_back (P:=Tryz.prog) ((putRow (fun (b:UInt8)=>Value.int .u8 (b.toNat:Int)) (w.alloc (.cells Lib.zeros24 148)) w.heap.size 0 dk).drewN k) 94 9 5 ⟨w.heap.size,0,none⟩ 24 (Lib.decDigits u) Tryz.underlying94 Tryz.underlying5 Tryz.underlying9 (fun j hj=>by
   rw [Lib.row_is_numeral hF j hj,Lib.add_plain,World.cell?_drewN]
   exact cell?_putRow (fun (b:UInt8)=>Value.int .u8 (b.toNat:Int)) _ w.heap.size 0 _ dk HH0.out (by rw [hF.size,Array.size_replicate]) j (by rw [hF.size];rw [Lib.decDigits_length] at hj;exact hj))
  rw [Lib.decDigits_length] at h
  exact h
 go_wp2
 go_ret
 obtain ⟨os,eo⟩:=Lib.fin_at w (.cells Lib.zeros24 148) dk k 0
 refine ⟨rfl,?_⟩
 rw [eo]
 exact ext_grow w k os
theorem ifmt_ok {σ:ASt} (h:Tab σ) {u:Nat} (hu:u<18446744073709551616):ACalls Tryz.prog 83 [.int .u64 u,.int .i64 10] σ fun v σ'=>v = .str (Lib.decDigits u)/\σ'=σ:=by
 refine ACalls.of_ext (u := .string ⟨(Lib.decDigits u).toArray⟩) (fun w vs hs ha=>?_) fun w => .str _
 cases ha with
 | cons h1 h2=>
 cases h2 with
 | cons h2 h3=>
 cases h1;cases h2;cases h3
 by_cases hs2:u<100
 ·exact fmtU_small u hs2 w
 ·exact fmtU_big u (by omega) hu w (tabIs_of hs (by kernel_rfl) h)
theorem fmt_ok {σ:ASt} (h:Tab σ) {u:Nat} (hu:u<18446744073709551616):ACalls Tryz.prog 64 [.int .u64 u,.int .i64 10] σ fun v σ'=>v = .str (Lib.decDigits u)/\σ'=σ:=by
 refine a64 (by simp) ?_
 simp (disch:=first|assumption|omega|(simp only [List.length_append,List.length_cons,List.length_nil];omega)) only [go_sem,reduceCtorEq,Nat.reduceEqDiff,Nat.reduceAdd,Nat.reduceSub,Nat.reduceMul,Nat.reduceLeDiff,Int.reduceLT,Int.reduceLE,Int.reduceEq,↓reduceIte,Int.reduceNeg,Int.reduceAdd,Int.reduceSub,Int.reduceMul,true_imp_iff,forall_const,Nat.mul_one,Int.reduceToNat,Nat.reducePow,Int.reducePow,Bool.true_and,Bool.false_and,Bool.and_false]
 refine (ifmt_ok h hu).mono ?_
 rintro v σ' ⟨rfl,rfl⟩
 simp (disch:=first|assumption|omega|(simp only [List.length_append,List.length_cons,List.length_nil];omega)) only [go_sem,reduceCtorEq,Nat.reduceEqDiff,Nat.reduceAdd,Nat.reduceSub,Nat.reduceMul,Nat.reduceLeDiff,Int.reduceLT,Int.reduceLE,Int.reduceEq,↓reduceIte,Int.reduceNeg,Int.reduceAdd,Int.reduceSub,Int.reduceMul,true_imp_iff,forall_const,Nat.mul_one,Int.reduceToNat,Nat.reducePow,Int.reducePow,Bool.true_and,Bool.false_and,Bool.and_false]
 exact retC_by (Drop.refl _) (.refl _) ⟨rfl,rfl⟩
theorem cutPrefix_ok (s p:List UInt8):Pure Tryz.prog 67 [.str s,.str p] (.tuple [.str (Lib.trimPrefix s p),.bool (Lib.hasPrefix s p)]):=by
 intro σ
 refine ACalls.of_ext (u := .tuple #[.string ⟨(Lib.trimPrefix s p).toArray⟩,.bool (Lib.hasPrefix s p)]) (fun w vs hs ha=>?_) fun w => .tuple (.cons (.str _) (.cons (.bool _) .nil))
 cases ha with
 | cons h1 h2=>
 cases h2 with
 | cons h2 h3=>
 cases h1;cases h2;cases h3
 exact (Tryz.strings_CutPrefix ⟨⟨s⟩⟩ ⟨⟨p⟩⟩ w).mono fun e w' ⟨he,hw⟩=>⟨he,Ext.of_eq hw⟩
theorem trimRight_ok (s:List UInt8) (c:UInt8) (hc:c.toNat<128) (hsl:s.length<=9223372036854775807):Pure Tryz.prog 65 [.str s,.str [c]] (.str (Lib.trimRightB s c)):=by
 intro σ
 refine ACalls.of_ext (u := .string ⟨(Lib.trimRightB s c).toArray⟩) (fun w vs hs ha=>?_) fun w => .str _
 cases ha with
 | cons h1 h2=>
 cases h2 with
 | cons h2 h3=>
 cases h1;cases h2;cases h3
 exact (Tryz.strings_TrimRight_one ⟨⟨s⟩⟩ c hc w (by simpa [ByteArray.size] using hsl)).mono fun e w' ⟨he,hw⟩=>⟨he,Ext.of_eq hw⟩
theorem sindex_ok (s:List UInt8) (c:UInt8):Pure Tryz.prog 75 [.str s,.str [c]] (.int .i64 (Lib.indexByte s c)):=by
 intro σ
 refine ACalls.of_ext (u := .int .i64 (Lib.indexByte s c)) (fun w vs hs ha=>?_) fun w => .int _ _
 cases ha with
 | cons h1 h2=>
 cases h2 with
 | cons h2 h3=>
 cases h1;cases h2;cases h3
 exact (Tryz.stringslite_Index_one ⟨⟨s⟩⟩ c w).mono fun e w' ⟨he,hw⟩=>⟨he,Ext.of_eq hw⟩
theorem cutc_ok (l:List UInt8) (c:UInt8) (hl:l.length<=1000000000):Pure Tryz.prog 53 [.str l,.str [c]] (.tuple [.str (Lib.cut l [c]).1,.str (Lib.cut l [c]).2.1,.bool (Lib.cut l [c]).2.2]):=by
 have h1:Pure Tryz.prog 77 [.str l,.str [c]] (.tuple [.str (Lib.cut l [c]).1,.str (Lib.cut l [c]).2.1,.bool (Lib.cut l [c]).2.2]):=by
  intro σ
  have hi:=sindex_ok l c
  have hr:=Lib.index_room l [c]
  unfold Lib.cut
  rw [Lib.index_one] at hr ⊢
  have hg:=Lib.indexByte_ge l c
  refine a77 (by simp) ?_
  by_cases h0:0<=Lib.indexByte l c
  ·obtain ⟨i,e⟩:∃ i:Nat,Lib.indexByte l c=i:=⟨(Lib.indexByte l c).toNat,by omega⟩
   rw [e] at hi hr ⊢
   have hr:=hr (by omega)
   simp only [List.length_cons,List.length_nil] at hr
   rw [if_pos (by omega)]
   have e1:(0:Int)<=i:=by omega
   have e2:((i:Int)+1).toNat=i+1:=by omega
   have e3:(i:Int)<=l.length:=by omega
   have e4:(i:Int)+1<=l.length:=by omega
   simp (disch:=first|assumption|omega|(simp only [List.length_append,List.length_cons,List.length_nil];omega)) only [go_sem,reduceCtorEq,Nat.reduceEqDiff,Nat.reduceAdd,Nat.reduceSub,Nat.reduceMul,Nat.reduceLeDiff,Int.reduceLT,Int.reduceLE,Int.reduceEq,↓reduceIte,Int.reduceNeg,Int.reduceAdd,Int.reduceSub,Int.reduceMul,true_imp_iff,forall_const,Nat.mul_one,Int.reduceToNat,Nat.reducePow,Int.reducePow,Bool.true_and,Bool.false_and,Bool.and_false]
   refine hi.use ?_
   simp (disch:=first|assumption|omega|(simp only [List.length_append,List.length_cons,List.length_nil];omega)) only [go_sem,reduceCtorEq,Nat.reduceEqDiff,Nat.reduceAdd,Nat.reduceSub,Nat.reduceMul,Nat.reduceLeDiff,Int.reduceLT,Int.reduceLE,Int.reduceEq,↓reduceIte,Int.reduceNeg,Int.reduceAdd,Int.reduceSub,Int.reduceMul,true_imp_iff,forall_const,Nat.mul_one,Int.reduceToNat,Nat.reducePow,Int.reducePow,Bool.true_and,Bool.false_and,Bool.and_false,e1,e2,e3,e4,List.take_length]
   exact retC_by (by repeat' (first|exact Drop.refl _|with_reducible refine Drop.off ?_ (by assumption))) (.refl _) ⟨rfl,rfl⟩
  ·have e:Lib.indexByte l c = -1:=by omega
   rw [e] at hi ⊢
   rw [if_neg (by omega)]
   simp (disch:=first|assumption|omega|(simp only [List.length_append,List.length_cons,List.length_nil];omega)) only [go_sem,reduceCtorEq,Nat.reduceEqDiff,Nat.reduceAdd,Nat.reduceSub,Nat.reduceMul,Nat.reduceLeDiff,Int.reduceLT,Int.reduceLE,Int.reduceEq,↓reduceIte,Int.reduceNeg,Int.reduceAdd,Int.reduceSub,Int.reduceMul,true_imp_iff,forall_const,Nat.mul_one,Int.reduceToNat,Nat.reducePow,Int.reducePow,Bool.true_and,Bool.false_and,Bool.and_false]
   refine hi.use ?_
   simp (disch:=first|assumption|omega|(simp only [List.length_append,List.length_cons,List.length_nil];omega)) only [go_sem,reduceCtorEq,Nat.reduceEqDiff,Nat.reduceAdd,Nat.reduceSub,Nat.reduceMul,Nat.reduceLeDiff,Int.reduceLT,Int.reduceLE,Int.reduceEq,↓reduceIte,Int.reduceNeg,Int.reduceAdd,Int.reduceSub,Int.reduceMul,true_imp_iff,forall_const,Nat.mul_one,Int.reduceToNat,Nat.reducePow,Int.reducePow,Bool.true_and,Bool.false_and,Bool.and_false]
   exact retC_by (by repeat' (first|exact Drop.refl _|with_reducible refine Drop.off ?_ (by assumption))) (.refl _) ⟨rfl,rfl⟩
 intro σ
 refine a53 (by simp) ?_
 simp (disch:=first|assumption|omega|(simp only [List.length_append,List.length_cons,List.length_nil];omega)) only [go_sem,reduceCtorEq,Nat.reduceEqDiff,Nat.reduceAdd,Nat.reduceSub,Nat.reduceMul,Nat.reduceLeDiff,Int.reduceLT,Int.reduceLE,Int.reduceEq,↓reduceIte,Int.reduceNeg,Int.reduceAdd,Int.reduceSub,Int.reduceMul,true_imp_iff,forall_const,Nat.mul_one,Int.reduceToNat,Nat.reducePow,Int.reducePow,Bool.true_and,Bool.false_and,Bool.and_false]
 refine h1.use ?_
 simp (disch:=first|assumption|omega|(simp only [List.length_append,List.length_cons,List.length_nil];omega)) only [go_sem,reduceCtorEq,Nat.reduceEqDiff,Nat.reduceAdd,Nat.reduceSub,Nat.reduceMul,Nat.reduceLeDiff,Int.reduceLT,Int.reduceLE,Int.reduceEq,↓reduceIte,Int.reduceNeg,Int.reduceAdd,Int.reduceSub,Int.reduceMul,true_imp_iff,forall_const,Nat.mul_one,Int.reduceToNat,Nat.reducePow,Int.reducePow,Bool.true_and,Bool.false_and,Bool.and_false]
 exact retC_by (by repeat' (first|exact Drop.refl _|with_reducible refine Drop.off ?_ (by assumption))) (.refl _) ⟨rfl,rfl⟩
end Go.A
namespace Go.A
open Go.Proofs
def resAV (o:Option Int):AV := .tuple [.int .i64 (o.getD 0),.bool o.isSome]
theorem size_ok (a:Int) (h0 : -9223372036854775808<=a) (h1:a<=9223372036854775807):Pure Tryz.prog 63 [.int .i64 a] (.int .u64 (a.natAbs:Nat)):=by
 intro σ
 refine a63 (by simp) ?_
 by_cases h:a<0
 ·have e:IntKind.u64.wrap (IntKind.i64.wrap (0-a))=((a.natAbs:Nat):Int):=by rw [IntKind.wrap_u64,IntKind.wrap_i64];omega
  simp (disch:=first|assumption|omega|(simp only [List.length_append,List.length_cons,List.length_nil];omega)) only [go_sem,reduceCtorEq,Nat.reduceEqDiff,Nat.reduceAdd,Nat.reduceSub,Nat.reduceMul,Nat.reduceLeDiff,Int.reduceLT,Int.reduceLE,Int.reduceEq,↓reduceIte,Int.reduceNeg,Int.reduceAdd,Int.reduceSub,Int.reduceMul,true_imp_iff,forall_const,Nat.mul_one,Int.reduceToNat,Nat.reducePow,Int.reducePow,Bool.true_and,Bool.false_and,Bool.and_false,h,e]
  exact retC_by (by repeat' (first|exact Drop.refl _|with_reducible refine Drop.off ?_ (by assumption))) (.refl _) ⟨rfl,rfl⟩
 ·have e:IntKind.u64.wrap a=((a.natAbs:Nat):Int):=by rw [IntKind.wrap_u64];omega
  simp (disch:=first|assumption|omega|(simp only [List.length_append,List.length_cons,List.length_nil];omega)) only [go_sem,reduceCtorEq,Nat.reduceEqDiff,Nat.reduceAdd,Nat.reduceSub,Nat.reduceMul,Nat.reduceLeDiff,Int.reduceLT,Int.reduceLE,Int.reduceEq,↓reduceIte,Int.reduceNeg,Int.reduceAdd,Int.reduceSub,Int.reduceMul,true_imp_iff,forall_const,Nat.mul_one,Int.reduceToNat,Nat.reducePow,Int.reducePow,Bool.true_and,Bool.false_and,Bool.and_false,h,e]
  exact retC_by (by repeat' (first|exact Drop.refl _|with_reducible refine Drop.off ?_ (by assumption))) (.refl _) ⟨rfl,rfl⟩
theorem made_ok (m:Bool) (lo:Nat) (h:lo<18446744073709551616):Pure Tryz.prog 68 [.bool m,.int .u64 0,.int .u64 lo] (resAV (madeP m lo)):=by
 intro σ
 refine a68 (by simp) ?_
 unfold madeP
 by_cases hm:lo<=999999999999999999
 ·have g1:¬ (999999999999999999:Int)<lo:=by omega
  have e1:IntKind.i64.wrap (lo:Int)=lo:=by rw [IntKind.wrap_i64];omega
  have e2:IntKind.i64.wrap (-(lo:Int)) = -lo:=by rw [IntKind.wrap_i64];omega
  rw [if_pos hm]
  cases m
  ·simp (disch:=first|assumption|omega|(simp only [List.length_append,List.length_cons,List.length_nil];omega)) only [go_sem,reduceCtorEq,Nat.reduceEqDiff,Nat.reduceAdd,Nat.reduceSub,Nat.reduceMul,Nat.reduceLeDiff,Int.reduceLT,Int.reduceLE,Int.reduceEq,↓reduceIte,Int.reduceNeg,Int.reduceAdd,Int.reduceSub,Int.reduceMul,true_imp_iff,forall_const,Nat.mul_one,Int.reduceToNat,Nat.reducePow,Int.reducePow,Bool.true_and,Bool.false_and,Bool.and_false,g1,e1,e2]
   exact retC_by (by repeat' (first|exact Drop.refl _|with_reducible refine Drop.off ?_ (by assumption))) (.refl _) ⟨rfl,rfl⟩
  ·simp (disch:=first|assumption|omega|(simp only [List.length_append,List.length_cons,List.length_nil];omega)) only [go_sem,reduceCtorEq,Nat.reduceEqDiff,Nat.reduceAdd,Nat.reduceSub,Nat.reduceMul,Nat.reduceLeDiff,Int.reduceLT,Int.reduceLE,Int.reduceEq,↓reduceIte,Int.reduceNeg,Int.reduceAdd,Int.reduceSub,Int.reduceMul,true_imp_iff,forall_const,Nat.mul_one,Int.reduceToNat,Nat.reducePow,Int.reducePow,Bool.true_and,Bool.false_and,Bool.and_false,g1,e1,e2]
   refine retC_by (by repeat' (first|exact Drop.refl _|with_reducible refine Drop.off ?_ (by assumption))) (.refl _) ⟨?_,rfl⟩
   rw [show (0:Int)-lo = -lo by omega]
   rfl
 ·have g1:(999999999999999999:Int)<lo:=by omega
  rw [if_neg hm]
  simp (disch:=first|assumption|omega|(simp only [List.length_append,List.length_cons,List.length_nil];omega)) only [go_sem,reduceCtorEq,Nat.reduceEqDiff,Nat.reduceAdd,Nat.reduceSub,Nat.reduceMul,Nat.reduceLeDiff,Int.reduceLT,Int.reduceLE,Int.reduceEq,↓reduceIte,Int.reduceNeg,Int.reduceAdd,Int.reduceSub,Int.reduceMul,true_imp_iff,forall_const,Nat.mul_one,Int.reduceToNat,Nat.reducePow,Int.reducePow,Bool.true_and,Bool.false_and,Bool.and_false,g1]
  exact retC_by (by repeat' (first|exact Drop.refl _|with_reducible refine Drop.off ?_ (by assumption))) (.refl _) ⟨rfl,rfl⟩
theorem dgood_ok (a:Int):Pure Tryz.prog 37 [.int .i64 a] (.bool (decide (a.natAbs<=999999999999999999))):=by
 intro σ
 refine a37 (by simp) ?_
 repeat' (first|(simp (disch:=first|assumption|omega|(simp only [List.length_append,List.length_cons,List.length_nil];omega)) only [go_sem,reduceCtorEq,Nat.reduceEqDiff,Nat.reduceAdd,Nat.reduceSub,Nat.reduceMul,Nat.reduceLeDiff,Int.reduceLT,Int.reduceLE,Int.reduceEq,↓reduceIte,Int.reduceNeg,Int.reduceAdd,Int.reduceSub,Int.reduceMul,true_imp_iff,forall_const,Nat.mul_one,Int.reduceToNat,Nat.reducePow,Int.reducePow,Bool.true_and,Bool.false_and,Bool.and_false])|with_reducible refine gC_d (fun h=>?_) (fun h=>?_)|with_reducible refine gC_dn (fun h=>?_) (fun h=>?_)|with_reducible refine condC_d (fun h=>?_) (fun h=>?_)|with_reducible refine condC_n (fun h=>?_) (fun h=>?_)|with_reducible refine condC_b (fun h=>?_) (fun h=>?_)|with_reducible refine boxC_by ?_ fun b hb=>?_)
 all_goals (refine retC_by (by repeat' (first|exact Drop.refl _|with_reducible refine Drop.off ?_ (by assumption))) (.refl _) ⟨?_,rfl⟩)
 ·have e:decide (a<=999999999999999999)=decide (a.natAbs<=999999999999999999):=decide_eq_decide.2 (by omega)
  rw [<-e];rfl
 ·rfl
end Go.A
namespace Go.A
open Go.Proofs
theorem dtext_ok {σ:ASt} (h:Tab σ) {a:Int} (ha:a.natAbs<=999999999999999999):ACalls Tryz.prog 39 [.int .i64 a] σ fun v σ'=>v = .str (textD a)/\σ'=σ:=by
 have hS:=size_ok a (by omega) (by omega)
 obtain ⟨T,hT⟩:∃ T,textD a=T:=⟨_,rfl⟩
 rw [hT]
 unfold textD placesP at hT
 obtain ⟨s,hs⟩:∃ s,a.natAbs=s:=⟨_,rfl⟩
 rw [hs] at hS hT ha
 have hd:(s:Int).tdiv 10000=((s / 10000:Nat):Int):=by rw [Int.tdiv_eq_ediv_of_nonneg (by omega)];rfl
 have hm:(s:Int).tmod 10000=((s % 10000:Nat):Int):=by rw [Int.tmod_eq_emod_of_nonneg (by omega)];rfl
 have hp:s % 10000<10000:=Nat.mod_lt _ (by omega)
 have hw:s / 10000<=99999999999999:=by omega
 obtain ⟨p,hpp⟩:∃ p,s % 10000=p:=⟨_,rfl⟩
 obtain ⟨q,hqq⟩:∃ q,s / 10000=q:=⟨_,rfl⟩
 rw [hpp] at hp hm hT
 rw [hqq] at hd hw hT
 have hqw:IntKind.u64.wrap (q:Int)=q:=by rw [IntKind.wrap_u64];omega
 refine a39 (by simp) ?_
 simp (disch:=first|assumption|omega|(simp only [List.length_append,List.length_cons,List.length_nil];omega)) only [go_sem,reduceCtorEq,Nat.reduceEqDiff,Nat.reduceAdd,Nat.reduceSub,Nat.reduceMul,Nat.reduceLeDiff,Int.reduceLT,Int.reduceLE,Int.reduceEq,↓reduceIte,Int.reduceNeg,Int.reduceAdd,Int.reduceSub,Int.reduceMul,true_imp_iff,forall_const,Nat.mul_one,Int.reduceToNat,Nat.reducePow,Int.reducePow,Bool.true_and,Bool.false_and,Bool.and_false]
 refine hS.use ?_
 simp (disch:=first|assumption|omega|(simp only [List.length_append,List.length_cons,List.length_nil];omega)) only [go_sem,reduceCtorEq,Nat.reduceEqDiff,Nat.reduceAdd,Nat.reduceSub,Nat.reduceMul,Nat.reduceLeDiff,Int.reduceLT,Int.reduceLE,Int.reduceEq,↓reduceIte,Int.reduceNeg,Int.reduceAdd,Int.reduceSub,Int.reduceMul,true_imp_iff,forall_const,Nat.mul_one,Int.reduceToNat,Nat.reducePow,Int.reducePow,Bool.true_and,Bool.false_and,Bool.and_false,hd,hqw]
 refine (fmt_ok h (u:=q) (by omega)).mono ?_
 rintro v σ' ⟨rfl,rfl⟩
 simp (disch:=first|assumption|omega|(simp only [List.length_append,List.length_cons,List.length_nil];omega)) only [go_sem,reduceCtorEq,Nat.reduceEqDiff,Nat.reduceAdd,Nat.reduceSub,Nat.reduceMul,Nat.reduceLeDiff,Int.reduceLT,Int.reduceLE,Int.reduceEq,↓reduceIte,Int.reduceNeg,Int.reduceAdd,Int.reduceSub,Int.reduceMul,true_imp_iff,forall_const,Nat.mul_one,Int.reduceToNat,Nat.reducePow,Int.reducePow,Bool.true_and,Bool.false_and,Bool.and_false,hm]
 have hql:(Lib.decDigits q).length<=15:=dd_len 14 q (by omega)
 by_cases h0:p=0
 ·subst h0
  rw [if_pos rfl,List.append_nil] at hT
  have g0:¬ (0:Int)<((0:Nat):Int):=by omega
  simp (disch:=first|assumption|omega|(simp only [List.length_append,List.length_cons,List.length_nil];omega)) only [go_sem,reduceCtorEq,Nat.reduceEqDiff,Nat.reduceAdd,Nat.reduceSub,Nat.reduceMul,Nat.reduceLeDiff,Int.reduceLT,Int.reduceLE,Int.reduceEq,↓reduceIte,Int.reduceNeg,Int.reduceAdd,Int.reduceSub,Int.reduceMul,true_imp_iff,forall_const,Nat.mul_one,Int.reduceToNat,Nat.reducePow,Int.reducePow,Bool.true_and,Bool.false_and,Bool.and_false,g0]
  by_cases hn:a<0
  ·have e1:binS .add [45] (Lib.decDigits q)=some (.str T):=by rw [binS_add (by simp;omega),← hT,if_pos hn]
   simp (disch:=first|assumption|omega|(simp only [List.length_append,List.length_cons,List.length_nil];omega)) only [go_sem,reduceCtorEq,Nat.reduceEqDiff,Nat.reduceAdd,Nat.reduceSub,Nat.reduceMul,Nat.reduceLeDiff,Int.reduceLT,Int.reduceLE,Int.reduceEq,↓reduceIte,Int.reduceNeg,Int.reduceAdd,Int.reduceSub,Int.reduceMul,true_imp_iff,forall_const,Nat.mul_one,Int.reduceToNat,Nat.reducePow,Int.reducePow,Bool.true_and,Bool.false_and,Bool.and_false,hn,e1]
   exact retC_by (by repeat' (first|exact Drop.refl _|with_reducible refine Drop.off ?_ (by assumption))) (.refl _) ⟨rfl,rfl⟩
  ·rw [if_neg hn,List.nil_append] at hT
   subst hT
   simp (disch:=first|assumption|omega|(simp only [List.length_append,List.length_cons,List.length_nil];omega)) only [go_sem,reduceCtorEq,Nat.reduceEqDiff,Nat.reduceAdd,Nat.reduceSub,Nat.reduceMul,Nat.reduceLeDiff,Int.reduceLT,Int.reduceLE,Int.reduceEq,↓reduceIte,Int.reduceNeg,Int.reduceAdd,Int.reduceSub,Int.reduceMul,true_imp_iff,forall_const,Nat.mul_one,Int.reduceToNat,Nat.reducePow,Int.reducePow,Bool.true_and,Bool.false_and,Bool.and_false,hn]
   exact retC_by (by repeat' (first|exact Drop.refl _|with_reducible refine Drop.off ?_ (by assumption))) (.refl _) ⟨rfl,rfl⟩
 ·rw [if_neg h0] at hT
  have g0:(0:Int)<(p:Int):=by omega
  have hDl:(Lib.decDigits (10000+p)).length<=5:=dd_len 4 _ (by omega)
  have hD1:1<=(Lib.decDigits (10000+p)).length:=List.length_pos_iff.2 (dd_len_pos _)
  have hF:=fmt_ok h (u:=10000+p) (by omega)
  rw [show (((10000+p:Nat):Int))=(10000:Int)+p by omega] at hF
  have htl:(Lib.decDigits (10000+p)).tail.length<=4:=by rw [List.length_tail];omega
  rw [<-List.drop_one] at hT htl
  generalize Lib.decDigits (10000+p)=D at *
  have hR:=trimRight_ok (D.drop 1) 48 (by decide) (by omega)
  have hRl:(Lib.trimRightB (D.drop 1) 48).length<=4:=by
   have:=congrArg List.length (trim_back 48 (D.drop 1))
   rw [List.length_append] at this
   omega
  generalize Lib.trimRightB (D.drop 1) 48=X at *
  have e1:binS .add [46] X=some (.str (46::X)):=binS_add (by simp;omega)
  have e2:binS .add (Lib.decDigits q) (46::X)=some (.str (Lib.decDigits q++46::X)):=binS_add (by simp;omega)
  have g5:(1:Int)<=D.length:=by omega
  simp (disch:=first|assumption|omega|(simp only [List.length_append,List.length_cons,List.length_nil];omega)) only [go_sem,reduceCtorEq,Nat.reduceEqDiff,Nat.reduceAdd,Nat.reduceSub,Nat.reduceMul,Nat.reduceLeDiff,Int.reduceLT,Int.reduceLE,Int.reduceEq,↓reduceIte,Int.reduceNeg,Int.reduceAdd,Int.reduceSub,Int.reduceMul,true_imp_iff,forall_const,Nat.mul_one,Int.reduceToNat,Nat.reducePow,Int.reducePow,Bool.true_and,Bool.false_and,Bool.and_false,g0]
  refine hF.mono ?_
  rintro v σ' ⟨rfl,rfl⟩
  simp (disch:=first|assumption|omega|(simp only [List.length_append,List.length_cons,List.length_nil];omega)) only [go_sem,reduceCtorEq,Nat.reduceEqDiff,Nat.reduceAdd,Nat.reduceSub,Nat.reduceMul,Nat.reduceLeDiff,Int.reduceLT,Int.reduceLE,Int.reduceEq,↓reduceIte,Int.reduceNeg,Int.reduceAdd,Int.reduceSub,Int.reduceMul,true_imp_iff,forall_const,Nat.mul_one,Int.reduceToNat,Nat.reducePow,Int.reducePow,Bool.true_and,Bool.false_and,Bool.and_false,g5,List.take_length]
  refine hR.use ?_
  simp (disch:=first|assumption|omega|(simp only [List.length_append,List.length_cons,List.length_nil];omega)) only [go_sem,reduceCtorEq,Nat.reduceEqDiff,Nat.reduceAdd,Nat.reduceSub,Nat.reduceMul,Nat.reduceLeDiff,Int.reduceLT,Int.reduceLE,Int.reduceEq,↓reduceIte,Int.reduceNeg,Int.reduceAdd,Int.reduceSub,Int.reduceMul,true_imp_iff,forall_const,Nat.mul_one,Int.reduceToNat,Nat.reducePow,Int.reducePow,Bool.true_and,Bool.false_and,Bool.and_false,e1,e2]
  by_cases hn:a<0
  ·have e3:binS .add [45] (Lib.decDigits q++46::X)=some (.str T):=by rw [binS_add (by simp;omega),← hT,if_pos hn]
   simp (disch:=first|assumption|omega|(simp only [List.length_append,List.length_cons,List.length_nil];omega)) only [go_sem,reduceCtorEq,Nat.reduceEqDiff,Nat.reduceAdd,Nat.reduceSub,Nat.reduceMul,Nat.reduceLeDiff,Int.reduceLT,Int.reduceLE,Int.reduceEq,↓reduceIte,Int.reduceNeg,Int.reduceAdd,Int.reduceSub,Int.reduceMul,true_imp_iff,forall_const,Nat.mul_one,Int.reduceToNat,Nat.reducePow,Int.reducePow,Bool.true_and,Bool.false_and,Bool.and_false,hn,e3]
   exact retC_by (by repeat' (first|exact Drop.refl _|with_reducible refine Drop.off ?_ (by assumption))) (.refl _) ⟨rfl,rfl⟩
  ·rw [if_neg hn,List.nil_append] at hT
   subst hT
   simp (disch:=first|assumption|omega|(simp only [List.length_append,List.length_cons,List.length_nil];omega)) only [go_sem,reduceCtorEq,Nat.reduceEqDiff,Nat.reduceAdd,Nat.reduceSub,Nat.reduceMul,Nat.reduceLeDiff,Int.reduceLT,Int.reduceLE,Int.reduceEq,↓reduceIte,Int.reduceNeg,Int.reduceAdd,Int.reduceSub,Int.reduceMul,true_imp_iff,forall_const,Nat.mul_one,Int.reduceToNat,Nat.reducePow,Int.reducePow,Bool.true_and,Bool.false_and,Bool.and_false,hn]
   exact retC_by (by repeat' (first|exact Drop.refl _|with_reducible refine Drop.off ?_ (by assumption))) (.refl _) ⟨rfl,rfl⟩
end Go.A
namespace Go.A
open Go.Proofs
theorem prefix_minus (s:List UInt8):Lib.hasPrefix s [45]=decide (s.head? = some 45):=by
 unfold Lib.hasPrefix
 cases s with
 | nil=>rfl
 | cons c l=>
   simp only [List.isPrefixOf,Bool.and_true,List.head?_cons,Option.some.injEq]
   by_cases h:c=45
   ·subst h;rfl
   ·have h1:(45==c)=false:=by simpa using fun e=>h e.symm
    rw [h1];simp [h]
theorem trim_minus (s:List UInt8):Lib.trimPrefix s [45]=if s.head? = some 45 then s.drop 1 else s:=by
 unfold Lib.trimPrefix
 rw [prefix_minus]
 by_cases h:s.head? = some 45
 ·simp [h]
 ·simp [h]
theorem cut_len (l:List UInt8) (c:UInt8):(Lib.cut l [c]).1.length+(Lib.cut l [c]).2.1.length<=l.length:=by
 unfold Lib.cut
 split
 ·have:=Lib.index_room l [c] (by assumption)
  simp at this ⊢
  omega
 ·simp
set_option maxHeartbeats 1000000 in
theorem dparse_ok (s:List UInt8) (hs:s.length<=100000):Pure Tryz.prog 44 [.str s] (resAV (parseD s)):=by
 intro σ
 have hP:=cutPrefix_ok s [45]
 rw [prefix_minus,trim_minus] at hP
 obtain ⟨R,hR⟩:∃ R,parseD s=R:=⟨_,rfl⟩
 rw [hR]
 unfold parseD at hR
 dsimp only at hR
 generalize hm:decide (s.head? = some 45)=minus at *
 have hbl:(if s.head? = some 45 then s.drop 1 else s).length<=100000:=by
  split
  ·rw [List.length_drop];omega
  ·exact hs
 generalize (if s.head? = some 45 then s.drop 1 else s)=body at *
 have hC:=cutc_ok body 46 (by omega)
 have hCl:=cut_len body 46
 have hnf:(Lib.cut body [46]).2.2=false->(Lib.cut body [46]).2.1 = []:=by
  unfold Lib.cut
  split<;>simp
 generalize (Lib.cut body [46]).1=whole at *
 generalize (Lib.cut body [46]).2.1=part at *
 generalize (Lib.cut body [46]).2.2=dot at *
 unfold parseQ at hR
 obtain ⟨F,hF⟩:∃ F,F=ACode.wp Tryz.prog c44_32:=⟨_,rfl⟩
 have fin:∀ (a:AFr),part.length<=4->(accP 0 (whole++part++List.replicate (4-part.length) 48)).bind (madeP minus)=R->(a 5 = .bool minus/\a 6 = .str whole/\a 7 = .str part)->F (RetQ [.t 2,.t 3] fun v σ'=>v=resAV R/\σ'=σ) a σ:=by
  intro a hp4 hacc hf
  rw [hF]
  have hl2:whole.length+part.length<=9223372036854775807:=by omega
  have g4:(part.length:Int)<=4:=by omega
  have e0:([48,48,48,48]:List UInt8).drop part.length=List.replicate (4-part.length) 48:=by
   have:part.length=0\/part.length=1\/part.length=2\/part.length=3\/part.length=4:=by omega
   rcases this with h|h|h|h|h<;>rw [h]<;>rfl
  have e1:binS .add (whole++part) (List.replicate (4-part.length) 48)=some (.str (whole++part++List.replicate (4-part.length) 48)):=binS_add (by simp;omega)
  obtain ⟨M,hM⟩:∃ M,whole++part++List.replicate (4-part.length) 48=M:=⟨_,rfl⟩
  rw [hM] at hacc e1
  have hMl:M.length<=1000000:=by rw [<-hM];simp;omega
  simp (disch:=first|assumption|omega|(simp only [List.length_append,List.length_cons,List.length_nil];omega)) only [go_sem,reduceCtorEq,Nat.reduceEqDiff,Nat.reduceAdd,Nat.reduceSub,Nat.reduceMul,Nat.reduceLeDiff,Int.reduceLT,Int.reduceLE,Int.reduceEq,↓reduceIte,Int.reduceNeg,Int.reduceAdd,Int.reduceSub,Int.reduceMul,true_imp_iff,forall_const,Nat.mul_one,Int.reduceToNat,Nat.reducePow,Int.reducePow,Bool.true_and,Bool.false_and,Bool.and_false,hf,hl2,g4,e0,e1]
  refine s2b_shr ?_
  simp (disch:=first|assumption|omega|(simp only [List.length_append,List.length_cons,List.length_nil];omega)) only [go_sem,reduceCtorEq,Nat.reduceEqDiff,Nat.reduceAdd,Nat.reduceSub,Nat.reduceMul,Nat.reduceLeDiff,Int.reduceLT,Int.reduceLE,Int.reduceEq,↓reduceIte,Int.reduceNeg,Int.reduceAdd,Int.reduceSub,Int.reduceMul,true_imp_iff,forall_const,Nat.mul_one,Int.reduceToNat,Nat.reducePow,Int.reducePow,Bool.true_and,Bool.false_and,Bool.and_false,hf]
  refine wp_loop_on (fun (i:Nat) a σ'=>i<=M.length/\(∃ n:Nat,n<=999999999999999999/\accP 0 M=accP n (M.drop i)/\a 9 = .int .u64 n)/\(a 5 = .bool minus/\a 44 = .sl .shr (bytesAV M)/\a 45 = .int .i64 M.length/\a 46 = .int .i64 i)/\σ'=σ) (fun i=>M.length-i) 0 ⟨Nat.zero_le _,⟨0,by omega,rfl,?_⟩,?_,rfl⟩ ?_
  ·simp (disch:=first|assumption|omega|(simp only [List.length_append,List.length_cons,List.length_nil];omega)) only [go_sem,reduceCtorEq,Nat.reduceEqDiff,Nat.reduceAdd,Nat.reduceSub,Nat.reduceMul,Nat.reduceLeDiff,Int.reduceLT,Int.reduceLE,Int.reduceEq,↓reduceIte,Int.reduceNeg,Int.reduceAdd,Int.reduceSub,Int.reduceMul,true_imp_iff,forall_const,Nat.mul_one,Int.reduceToNat,Nat.reducePow,Int.reducePow,Bool.true_and,Bool.false_and,Bool.and_false,hf]
  ·simp (disch:=first|assumption|omega|(simp only [List.length_append,List.length_cons,List.length_nil];omega)) only [go_sem,reduceCtorEq,Nat.reduceEqDiff,Nat.reduceAdd,Nat.reduceSub,Nat.reduceMul,Nat.reduceLeDiff,Int.reduceLT,Int.reduceLE,Int.reduceEq,↓reduceIte,Int.reduceNeg,Int.reduceAdd,Int.reduceSub,Int.reduceMul,true_imp_iff,forall_const,Nat.mul_one,Int.reduceToNat,Nat.reducePow,Int.reducePow,Bool.true_and,Bool.false_and,Bool.and_false,hf]
  rintro i a σ1 ⟨hi,⟨n,hn,hac,hf9⟩,hf,rfl⟩
  rw [hac] at hacc
  by_cases hlt:i<M.length
  ·have hidx : M[i]? = some (M[i]'hlt) := List.getElem?_eq_getElem hlt
   rw [List.drop_eq_getElem_cons hlt] at hac hacc
   obtain ⟨c, hc⟩ : ∃ c, M[i]'hlt = c := ⟨_, rfl⟩
   rw [hc] at hidx hac hacc
   have hlt':(i:Int)<M.length:=by omega
   have hcb:c.toNat<256:=c.toNat_lt
   rw [accP] at hac hacc
   by_cases h1:c.toNat<48
   ·have h1':(c.toNat:Int)<48:=by omega
    rw [if_pos (by omega)] at hacc
    subst hacc
    simp (disch:=first|assumption|omega|(simp only [List.length_append,List.length_cons,List.length_nil];omega)) only [go_sem,reduceCtorEq,Nat.reduceEqDiff,Nat.reduceAdd,Nat.reduceSub,Nat.reduceMul,Nat.reduceLeDiff,Int.reduceLT,Int.reduceLE,Int.reduceEq,↓reduceIte,Int.reduceNeg,Int.reduceAdd,Int.reduceSub,Int.reduceMul,true_imp_iff,forall_const,Nat.mul_one,Int.reduceToNat,Nat.reducePow,Int.reducePow,Bool.true_and,Bool.false_and,Bool.and_false,hf,hf9,hlt',hidx,h1']
    exact retC_by (by repeat' (first|exact Drop.refl _|with_reducible refine Drop.off ?_ (by assumption))) (.refl _) ⟨rfl,rfl⟩
   have h1':¬ (c.toNat:Int)<48:=by omega
   by_cases h2:57<c.toNat
   ·have h2':(57:Int)<c.toNat:=by omega
    rw [if_pos (by omega)] at hacc
    subst hacc
    simp (disch:=first|assumption|omega|(simp only [List.length_append,List.length_cons,List.length_nil];omega)) only [go_sem,reduceCtorEq,Nat.reduceEqDiff,Nat.reduceAdd,Nat.reduceSub,Nat.reduceMul,Nat.reduceLeDiff,Int.reduceLT,Int.reduceLE,Int.reduceEq,↓reduceIte,Int.reduceNeg,Int.reduceAdd,Int.reduceSub,Int.reduceMul,true_imp_iff,forall_const,Nat.mul_one,Int.reduceToNat,Nat.reducePow,Int.reducePow,Bool.true_and,Bool.false_and,Bool.and_false,hf,hf9,hlt',hidx,h1',h2']
    exact retC_by (by repeat' (first|exact Drop.refl _|with_reducible refine Drop.off ?_ (by assumption))) (.refl _) ⟨rfl,rfl⟩
   have h2':¬ (57:Int)<c.toNat:=by omega
   by_cases h3:99999999999999999<n
   ·have h3':(99999999999999999:Int)<n:=by omega
    rw [if_pos (by omega)] at hacc
    subst hacc
    simp (disch:=first|assumption|omega|(simp only [List.length_append,List.length_cons,List.length_nil];omega)) only [go_sem,reduceCtorEq,Nat.reduceEqDiff,Nat.reduceAdd,Nat.reduceSub,Nat.reduceMul,Nat.reduceLeDiff,Int.reduceLT,Int.reduceLE,Int.reduceEq,↓reduceIte,Int.reduceNeg,Int.reduceAdd,Int.reduceSub,Int.reduceMul,true_imp_iff,forall_const,Nat.mul_one,Int.reduceToNat,Nat.reducePow,Int.reducePow,Bool.true_and,Bool.false_and,Bool.and_false,hf,hf9,hlt',hidx,h1',h2',h3']
    exact retC_by (by repeat' (first|exact Drop.refl _|with_reducible refine Drop.off ?_ (by assumption))) (.refl _) ⟨rfl,rfl⟩
   have h3':¬ (99999999999999999:Int)<n:=by omega
   rw [if_neg (by omega)] at hac hacc
   obtain ⟨n2,hn2⟩:∃ n2:Nat,10*n+(c.toNat-48)=n2:=⟨_,rfl⟩
   rw [hn2] at hac hacc
   have e2:10*(n:Int)+((c.toNat:Int)-48)=n2:=by omega
   simp (disch:=first|assumption|omega|(simp only [List.length_append,List.length_cons,List.length_nil];omega)) only [go_sem,reduceCtorEq,Nat.reduceEqDiff,Nat.reduceAdd,Nat.reduceSub,Nat.reduceMul,Nat.reduceLeDiff,Int.reduceLT,Int.reduceLE,Int.reduceEq,↓reduceIte,Int.reduceNeg,Int.reduceAdd,Int.reduceSub,Int.reduceMul,true_imp_iff,forall_const,Nat.mul_one,Int.reduceToNat,Nat.reducePow,Int.reducePow,Bool.true_and,Bool.false_and,Bool.and_false,hf,hf9,hlt',hidx,h1',h2',h3',e2]
   exact ⟨i+1,by omega,by omega,⟨n2,by omega,hac,rfl⟩,rfl⟩
  ·have hlt':¬ (i:Int)<M.length:=by omega
   rw [List.drop_eq_nil_of_le (by omega),accP,Option.bind_some] at hacc
   subst hacc
   have hMd:=made_ok minus n (by omega)
   simp (disch:=first|assumption|omega|(simp only [List.length_append,List.length_cons,List.length_nil];omega)) only [go_sem,reduceCtorEq,Nat.reduceEqDiff,Nat.reduceAdd,Nat.reduceSub,Nat.reduceMul,Nat.reduceLeDiff,Int.reduceLT,Int.reduceLE,Int.reduceEq,↓reduceIte,Int.reduceNeg,Int.reduceAdd,Int.reduceSub,Int.reduceMul,true_imp_iff,forall_const,Nat.mul_one,Int.reduceToNat,Nat.reducePow,Int.reducePow,Bool.true_and,Bool.false_and,Bool.and_false,hf,hf9,hlt']
   refine hMd.use ?_
   simp only [resAV]
   simp (disch:=first|assumption|omega|(simp only [List.length_append,List.length_cons,List.length_nil];omega)) only [go_sem,reduceCtorEq,Nat.reduceEqDiff,Nat.reduceAdd,Nat.reduceSub,Nat.reduceMul,Nat.reduceLeDiff,Int.reduceLT,Int.reduceLE,Int.reduceEq,↓reduceIte,Int.reduceNeg,Int.reduceAdd,Int.reduceSub,Int.reduceMul,true_imp_iff,forall_const,Nat.mul_one,Int.reduceToNat,Nat.reducePow,Int.reducePow,Bool.true_and,Bool.false_and,Bool.and_false]
   exact retC_by (by repeat' (first|exact Drop.refl _|with_reducible refine Drop.off ?_ (by assumption))) (.refl _) ⟨rfl,rfl⟩
 refine a44 (by simp) ?_
 simp (disch:=first|assumption|omega|(simp only [List.length_append,List.length_cons,List.length_nil];omega)) only [go_sem,reduceCtorEq,Nat.reduceEqDiff,Nat.reduceAdd,Nat.reduceSub,Nat.reduceMul,Nat.reduceLeDiff,Int.reduceLT,Int.reduceLE,Int.reduceEq,↓reduceIte,Int.reduceNeg,Int.reduceAdd,Int.reduceSub,Int.reduceMul,true_imp_iff,forall_const,Nat.mul_one,Int.reduceToNat,Nat.reducePow,Int.reducePow,Bool.true_and,Bool.false_and,Bool.and_false,←hF]
 refine hP.use ?_
 simp (disch:=first|assumption|omega|(simp only [List.length_append,List.length_cons,List.length_nil];omega)) only [go_sem,reduceCtorEq,Nat.reduceEqDiff,Nat.reduceAdd,Nat.reduceSub,Nat.reduceMul,Nat.reduceLeDiff,Int.reduceLT,Int.reduceLE,Int.reduceEq,↓reduceIte,Int.reduceNeg,Int.reduceAdd,Int.reduceSub,Int.reduceMul,true_imp_iff,forall_const,Nat.mul_one,Int.reduceToNat,Nat.reducePow,Int.reducePow,Bool.true_and,Bool.false_and,Bool.and_false,←hF]
 refine hC.use ?_
 by_cases hw:whole = []
 ·subst hw
  rw [if_pos (.inl rfl)] at hR
  subst hR
  simp (disch:=first|assumption|omega|(simp only [List.length_append,List.length_cons,List.length_nil];omega)) only [go_sem,reduceCtorEq,Nat.reduceEqDiff,Nat.reduceAdd,Nat.reduceSub,Nat.reduceMul,Nat.reduceLeDiff,Int.reduceLT,Int.reduceLE,Int.reduceEq,↓reduceIte,Int.reduceNeg,Int.reduceAdd,Int.reduceSub,Int.reduceMul,true_imp_iff,forall_const,Nat.mul_one,Int.reduceToNat,Nat.reducePow,Int.reducePow,Bool.true_and,Bool.false_and,Bool.and_false,←hF]
  exact retC_by (by repeat' (first|exact Drop.refl _|with_reducible refine Drop.off ?_ (by assumption))) (.refl _) ⟨rfl,rfl⟩
 cases dot with
 | false=>
   have hp:=hnf rfl
   subst hp
   rw [if_neg (by rintro (h|⟨h,_⟩)<;>contradiction)] at hR
   simp (disch:=first|assumption|omega|(simp only [List.length_append,List.length_cons,List.length_nil];omega)) only [go_sem,reduceCtorEq,Nat.reduceEqDiff,Nat.reduceAdd,Nat.reduceSub,Nat.reduceMul,Nat.reduceLeDiff,Int.reduceLT,Int.reduceLE,Int.reduceEq,↓reduceIte,Int.reduceNeg,Int.reduceAdd,Int.reduceSub,Int.reduceMul,true_imp_iff,forall_const,Nat.mul_one,Int.reduceToNat,Nat.reducePow,Int.reducePow,Bool.true_and,Bool.false_and,Bool.and_false,hw,←hF]
   refine fin _ (by simp) hR ?_
   simp (disch:=first|assumption|omega|(simp only [List.length_append,List.length_cons,List.length_nil];omega)) only [go_sem,reduceCtorEq,Nat.reduceEqDiff,Nat.reduceAdd,Nat.reduceSub,Nat.reduceMul,Nat.reduceLeDiff,Int.reduceLT,Int.reduceLE,Int.reduceEq,↓reduceIte,Int.reduceNeg,Int.reduceAdd,Int.reduceSub,Int.reduceMul,true_imp_iff,forall_const,Nat.mul_one,Int.reduceToNat,Nat.reducePow,Int.reducePow,Bool.true_and,Bool.false_and,Bool.and_false]
 | true=>
   by_cases hp:part = []
   ·subst hp
    rw [if_pos (.inr ⟨rfl,.inl rfl⟩)] at hR
    subst hR
    simp (disch:=first|assumption|omega|(simp only [List.length_append,List.length_cons,List.length_nil];omega)) only [go_sem,reduceCtorEq,Nat.reduceEqDiff,Nat.reduceAdd,Nat.reduceSub,Nat.reduceMul,Nat.reduceLeDiff,Int.reduceLT,Int.reduceLE,Int.reduceEq,↓reduceIte,Int.reduceNeg,Int.reduceAdd,Int.reduceSub,Int.reduceMul,true_imp_iff,forall_const,Nat.mul_one,Int.reduceToNat,Nat.reducePow,Int.reducePow,Bool.true_and,Bool.false_and,Bool.and_false,hw,←hF]
    exact retC_by (by repeat' (first|exact Drop.refl _|with_reducible refine Drop.off ?_ (by assumption))) (.refl _) ⟨rfl,rfl⟩
   by_cases h4:4<part.length
   ·have h4':(4:Int)<part.length:=by omega
    rw [if_pos (.inr ⟨rfl,.inr h4⟩)] at hR
    subst hR
    simp (disch:=first|assumption|omega|(simp only [List.length_append,List.length_cons,List.length_nil];omega)) only [go_sem,reduceCtorEq,Nat.reduceEqDiff,Nat.reduceAdd,Nat.reduceSub,Nat.reduceMul,Nat.reduceLeDiff,Int.reduceLT,Int.reduceLE,Int.reduceEq,↓reduceIte,Int.reduceNeg,Int.reduceAdd,Int.reduceSub,Int.reduceMul,true_imp_iff,forall_const,Nat.mul_one,Int.reduceToNat,Nat.reducePow,Int.reducePow,Bool.true_and,Bool.false_and,Bool.and_false,hw,hp,h4',←hF]
    exact retC_by (by repeat' (first|exact Drop.refl _|with_reducible refine Drop.off ?_ (by assumption))) (.refl _) ⟨rfl,rfl⟩
   ·have h4':¬ (4:Int)<part.length:=by omega
    rw [if_neg (by rintro (h|⟨_,h|h⟩)<;>contradiction)] at hR
    simp (disch:=first|assumption|omega|(simp only [List.length_append,List.length_cons,List.length_nil];omega)) only [go_sem,reduceCtorEq,Nat.reduceEqDiff,Nat.reduceAdd,Nat.reduceSub,Nat.reduceMul,Nat.reduceLeDiff,Int.reduceLT,Int.reduceLE,Int.reduceEq,↓reduceIte,Int.reduceNeg,Int.reduceAdd,Int.reduceSub,Int.reduceMul,true_imp_iff,forall_const,Nat.mul_one,Int.reduceToNat,Nat.reducePow,Int.reducePow,Bool.true_and,Bool.false_and,Bool.and_false,hw,hp,h4',←hF]
    refine fin _ (by omega) hR ?_
    simp (disch:=first|assumption|omega|(simp only [List.length_append,List.length_cons,List.length_nil];omega)) only [go_sem,reduceCtorEq,Nat.reduceEqDiff,Nat.reduceAdd,Nat.reduceSub,Nat.reduceMul,Nat.reduceLeDiff,Int.reduceLT,Int.reduceLE,Int.reduceEq,↓reduceIte,Int.reduceNeg,Int.reduceAdd,Int.reduceSub,Int.reduceMul,true_imp_iff,forall_const,Nat.mul_one,Int.reduceToNat,Nat.reducePow,Int.reducePow,Bool.true_and,Bool.false_and,Bool.and_false]
theorem lcut_ok (s:List UInt8) (n:Nat):Pure Tryz.prog 4 [.str s,.int .i64 n] (.str (s.take n)):=by
 intro σ
 refine a4 (by simp) ?_
 by_cases h:n<s.length
 ·have h':(n:Int)<s.length:=by omega
  have g0:(0:Int)<=n:=by omega
  have g1:(n:Int)<=s.length:=by omega
  simp (disch:=first|assumption|omega|(simp only [List.length_append,List.length_cons,List.length_nil];omega)) only [go_sem,reduceCtorEq,Nat.reduceEqDiff,Nat.reduceAdd,Nat.reduceSub,Nat.reduceMul,Nat.reduceLeDiff,Int.reduceLT,Int.reduceLE,Int.reduceEq,↓reduceIte,Int.reduceNeg,Int.reduceAdd,Int.reduceSub,Int.reduceMul,true_imp_iff,forall_const,Nat.mul_one,Int.reduceToNat,Nat.reducePow,Int.reducePow,Bool.true_and,Bool.false_and,Bool.and_false,h',g0,g1]
  exact retC_by (by repeat' (first|exact Drop.refl _|with_reducible refine Drop.off ?_ (by assumption))) (.refl _) ⟨rfl,rfl⟩
 ·have h':¬ (n:Int)<s.length:=by omega
  rw [List.take_of_length_le (by omega)]
  simp (disch:=first|assumption|omega|(simp only [List.length_append,List.length_cons,List.length_nil];omega)) only [go_sem,reduceCtorEq,Nat.reduceEqDiff,Nat.reduceAdd,Nat.reduceSub,Nat.reduceMul,Nat.reduceLeDiff,Int.reduceLT,Int.reduceLE,Int.reduceEq,↓reduceIte,Int.reduceNeg,Int.reduceAdd,Int.reduceSub,Int.reduceMul,true_imp_iff,forall_const,Nat.mul_one,Int.reduceToNat,Nat.reducePow,Int.reducePow,Bool.true_and,Bool.false_and,Bool.and_false,h']
  exact retC_by (by repeat' (first|exact Drop.refl _|with_reducible refine Drop.off ?_ (by assumption))) (.refl _) ⟨rfl,rfl⟩
end Go.A
namespace Go.A
open Go.Proofs
/-! 12: tabular/value.One -/
def c12_3:ACode := .seq (.ops [ oe 2 (.alloc [(.int .i64 0),(.int .i64 0),(.bool false),(.sl .full [])])]) (.seq (.ops [ oq 3 (.mv (.t 0)),oq 4 (.bsl 1 [(.t 3)]),oq 5 (.build [(.int .i64 0),(.int .i64 0),(.bool false),(.sl .full [])] [(0,1,(.v (.int .i64 1))),(1,1,(.v (.int .i64 1))),(3,1,(.t 4))]),oz (.store 4 (.t 2) (.t 5))]) .ret)
@[go_sem] def c12_3_wp:=wp_of c12_3.eq_1
def c12:AFn:=⟨6,[.c 2 (some 4)],c12_3⟩
theorem c12_ok:compF Tryz.prog Tryz.f12=some c12:=by kernel_rfl
theorem a12 {args:List AV} {σ:ASt} {R:AV->ASt->Prop} (hl:args.length<=6) (h:c12_3.wp Tryz.prog (RetQ [.c 2 (some 4)] R) (init args) σ):ACalls Tryz.prog 12 args σ R:=acalls_of Tryz.func12 c12_ok hl h
/-! 16: tabular/value.Of -/
def c16_38:ACode := .seq (.ops [ oe 1 (.box (.t 0)),oq 2 (.mv (.v .nili))]) (.seq (.seq (.ops [ oq 5 (.fa 0 (.t 1)),oq 6 (.ld none (.t 5))]) (.block 0 (.seq (.ops [ oq 8 (.bin .eql (.t 6) (.v (.int .i64 1))),oq 7 (.mv (.t 8))]) (.cond (.t 7) (.seq (.ops [ oq 9 (.fa 1 (.t 1)),oq 10 (.ld none (.t 9)),oe 11 (.call 37 [(.t 10)])]) (.cond (.t 11) (.seq (.ops [ oq 12 (.fa 1 (.t 1)),oq 13 (.ld none (.t 12)),oq 14 (.mki 77 (.t 13)),oq 2 (.mv (.t 14))]) .ret) .skip)) (.seq (.ops [ oq 16 (.bin .eql (.t 6) (.v (.int .i64 2))),oq 15 (.mv (.t 16))]) (.cond (.t 15) (.seq (.ops [ oq 18 (.fa 2 (.t 1)),oq 19 (.ld none (.t 18)),oe 20 (.call 38 [(.t 19)]),oq 17 (.mv (.t 20)),oq 21 (.ext 0 (.t 17)),oq 22 (.ext 1 (.t 17)),oq 3 (.mv (.t 21)),oq 4 (.mv (.t 22))]) (.seq (.ops [ oq 23 (.mv (.t 4)),oq 24 (.mv (.t 23)),⟨some 25,some (24,true),.q (.fa 2 (.t 1)),[]⟩,⟨some 26,some (24,true),.q (.ld none (.t 25)),[]⟩,⟨some 27,some (24,true),.q (.lenS (.t 26)),[]⟩,⟨some 28,some (24,true),.q (.bin .leq (.t 27) (.v (.int .i64 2000))),[]⟩,oq 29 (.pick (.t 24) (.t 28) (.v (.bool false)))]) (.cond (.t 29) (.seq (.ops [ oq 30 (.fa 2 (.t 1)),oq 31 (.ld none (.t 30)),oq 32 (.mki 43 (.t 31)),oq 2 (.mv (.t 32))]) .ret) .skip))) (.seq (.ops [ oq 34 (.bin .eql (.t 6) (.v (.int .i64 3))),oq 33 (.mv (.t 34))]) (.cond (.t 33) (.seq (.ops [ oq 35 (.fa 1 (.t 1)),oq 36 (.ld none (.t 35)),oq 37 (.bin .eql (.t 36) (.v (.int .i64 1))),oq 38 (.mki 70 (.t 37)),oq 2 (.mv (.t 38))]) .ret) (.seq (.ops [ oq 40 (.bin .eql (.t 6) (.v (.int .i64 4))),oq 39 (.mv (.t 40))]) (.cond (.t 39) (.seq (.ops [ oq 41 (.fa 1 (.t 1)),oq 42 (.ld none (.t 41)),oq 43 (.bin .geq (.t 42) (.v (.int .i64 1))),oq 44 (.mv (.t 43)),⟨some 45,some (44,true),.q (.fa 1 (.t 1)),[]⟩,⟨some 46,some (44,true),.q (.ld none (.t 45)),[]⟩,⟨some 47,some (44,true),.e (.call 18 []),[⟨(some (44,true)),.ld none (.t 45),46⟩]⟩,⟨some 48,some (44,true),.q (.len (.t 47)),[]⟩,⟨some 49,some (44,true),.q (.bin .leq (.t 46) (.t 48)),[]⟩,oq 50 (.pick (.t 44) (.t 49) (.v (.bool false)))]) (.cond (.t 50) (.seq (.ops [ oq 51 (.fa 1 (.t 1)),oq 52 (.ld none (.t 51)),oq 53 (.mki 47 (.t 52)),oq 2 (.mv (.t 53))]) .ret) .skip)) .skip)))))))))) (.seq (.ops [ oq 54 (.build [] []),oq 55 (.mki 79 (.t 54)),oq 2 (.mv (.t 55))]) .ret))
@[go_sem] def c16_38_wp:=wp_of c16_38.eq_1
def c16:AFn:=⟨56,[.t 2],c16_38⟩
theorem c16_ok:compF Tryz.prog Tryz.f16=some c16:=by kernel_rfl
theorem a16 {args:List AV} {σ:ASt} {R:AV->ASt->Prop} (hl:args.length<=56) (h:c16_38.wp Tryz.prog (RetQ [.t 2] R) (init args) σ):ACalls Tryz.prog 16 args σ R:=acalls_of Tryz.func16 c16_ok hl h
/-! 17: tabular/value.Failed -/
def c17_5:ACode := .seq (.ops [ oq 2 (.mv (.v (.int .i64 0))),oq 3 (.mv (.v (.bool false)))]) (.seq (.ops [ oq 7 (.mv (.t 0)),oq 8 (.ta 47 (.int .i64 0) true (.t 7)),oq 6 (.mv (.t 8)),oq 9 (.ext 0 (.t 6)),oq 10 (.ext 1 (.t 6)),oq 4 (.mv (.t 9)),oq 5 (.mv (.t 10))]) (.seq (.ops [ oq 11 (.mv (.t 4)),oq 12 (.mv (.t 5)),oq 2 (.mv (.t 11)),oq 3 (.mv (.t 12))]) .ret))
@[go_sem] def c17_5_wp:=wp_of c17_5.eq_1
def c17:AFn:=⟨13,[.t 2,.t 3],c17_5⟩
theorem c17_ok:compF Tryz.prog Tryz.f17=some c17:=by kernel_rfl
theorem a17 {args:List AV} {σ:ASt} {R:AV->ASt->Prop} (hl:args.length<=13) (h:c17_5.wp Tryz.prog (RetQ [.t 2,.t 3] R) (init args) σ):ACalls Tryz.prog 17 args σ R:=acalls_of Tryz.func17 c17_ok hl h
/-! 18: tabular/token.Errors -/
def c18_3:ACode := .seq (.ops [ oq 0 (.mv (.v (.sl .full [])))]) (.seq (.ops [ oq 1 (.bsl 1 [(.v (.str [35,68,73,86,47,48,33])),(.v (.str [35,78,85,77,33])),(.v (.str [35,86,65,76,85,69,33])),(.v (.str [35,82,69,70,33])),(.v (.str [35,78,47,65])),(.v (.str [35,78,65,77,69,63])),(.v (.str [35,67,89,67,76,69,33]))]),oq 0 (.mv (.t 1))]) .ret)
@[go_sem] def c18_3_wp:=wp_of c18_3.eq_1
def c18:AFn:=⟨2,[.t 0],c18_3⟩
theorem c18_ok:compF Tryz.prog Tryz.f18=some c18:=by kernel_rfl
theorem a18 {args:List AV} {σ:ASt} {R:AV->ASt->Prop} (hl:args.length<=2) (h:c18_3.wp Tryz.prog (RetQ [.t 0] R) (init args) σ):ACalls Tryz.prog 18 args σ R:=acalls_of Tryz.func18 c18_ok hl h
/-! 23: tabular/value.AsNumber -/
def c23_49:ACode := .seq (.ops [ oq 2 (.mv (.v (.int .i64 0))),oq 3 (.mv (.v (.int .i64 0)))]) (.seq (.seq (.ops [ oq 10 (.mv (.t 0))]) (.block 0 (.seq (.ops [ oq 11 (.ta 77 (.int .i64 0) true (.t 10)),oq 12 (.ext 1 (.t 11)),oq 13 (.ext 0 (.t 11))]) (.cond (.t 12) (.seq (.ops [ oq 4 (.mv (.t 13))]) (.seq (.ops [ oq 14 (.mv (.t 4)),oq 2 (.mv (.t 14)),oq 3 (.mv (.v (.int .i64 0)))]) .ret)) (.seq (.ops [ oq 15 (.ta 70 (.bool false) true (.t 10)),oq 16 (.ext 1 (.t 15)),oq 17 (.ext 0 (.t 15))]) (.cond (.t 16) (.seq (.ops [ oq 5 (.mv (.t 17))]) (.seq (.seq (.ops [ oq 18 (.mv (.t 5))]) (.cond (.t 18) (.seq (.ops [ oq 2 (.mv (.v (.int .i64 10000))),oq 3 (.mv (.v (.int .i64 0)))]) .ret) .skip)) (.seq (.ops [ oq 2 (.mv (.v (.int .i64 0))),oq 3 (.mv (.v (.int .i64 0)))]) .ret))) (.seq (.ops [ oq 19 (.ta 43 (.str []) true (.t 10)),oq 20 (.ext 1 (.t 19)),oq 21 (.ext 0 (.t 19))]) (.cond (.t 20) (.seq (.ops [ oq 6 (.mv (.t 21))]) (.seq (.seq (.ops [ oq 23 (.mv (.t 6)),oe 24 (.call 45 [(.t 23)]),oe 25 (.call 44 [(.t 24)]),oq 22 (.mv (.t 25)),oq 26 (.ext 0 (.t 22)),oq 27 (.ext 1 (.t 22)),oq 7 (.mv (.t 26)),oq 8 (.mv (.t 27))]) (.seq (.ops [ oq 28 (.mv (.t 8))]) (.cond (.t 28) (.seq (.ops [ oq 29 (.mv (.t 7)),oq 2 (.mv (.t 29)),oq 3 (.mv (.v (.int .i64 0)))]) .ret) .skip))) (.seq (.ops [ oq 2 (.mv (.v (.int .i64 0))),oq 3 (.mv (.v (.int .i64 3)))]) .ret))) (.seq (.ops [ oq 30 (.ta 47 (.int .i64 0) true (.t 10)),oq 31 (.ext 1 (.t 30)),oq 32 (.ext 0 (.t 30))]) (.cond (.t 31) (.seq (.ops [ oq 9 (.mv (.t 32))]) (.seq (.ops [ oq 33 (.mv (.t 9)),oq 2 (.mv (.v (.int .i64 0))),oq 3 (.mv (.t 33))]) .ret)) .skip)))))))))) (.seq (.ops [ oq 2 (.mv (.v (.int .i64 0))),oq 3 (.mv (.v (.int .i64 0)))]) .ret))
@[go_sem] def c23_49_wp:=wp_of c23_49.eq_1
def c23:AFn:=⟨34,[.t 2,.t 3],c23_49⟩
theorem c23_ok:compF Tryz.prog Tryz.f23=some c23:=by kernel_rfl
theorem a23 {args:List AV} {σ:ASt} {R:AV->ASt->Prop} (hl:args.length<=34) (h:c23_49.wp Tryz.prog (RetQ [.t 2,.t 3] R) (init args) σ):ACalls Tryz.prog 23 args σ R:=acalls_of Tryz.func23 c23_ok hl h
/-! 24: (tabular/value.Arg).Value -/
def c24_9:ACode := .seq (.ops [ oe 1 (.box (.t 0)),oq 2 (.mv (.v .nili))]) (.seq (.seq (.ops [ oq 3 (.fa 3 (.t 1)),oq 4 (.ld none (.t 3)),oq 5 (.len (.t 4)),oq 6 (.bin .neq (.t 5) (.v (.int .i64 1)))]) (.cond (.t 6) (.seq (.ops [ oq 7 (.mki 47 (.v (.int .i64 3))),oq 2 (.mv (.t 7))]) .ret) .skip)) (.seq (.ops [ oq 8 (.fa 3 (.t 1)),oq 9 (.ld none (.t 8)),oq 10 (.ia 1 (.t 9) (.v (.int .i64 0))),oq 11 (.ld none (.t 10)),oq 2 (.mv (.t 11))]) .ret))
@[go_sem] def c24_9_wp:=wp_of c24_9.eq_1
def c24:AFn:=⟨12,[.t 2],c24_9⟩
theorem c24_ok:compF Tryz.prog Tryz.f24=some c24:=by kernel_rfl
theorem a24 {args:List AV} {σ:ASt} {R:AV->ASt->Prop} (hl:args.length<=12) (h:c24_9.wp Tryz.prog (RetQ [.t 2] R) (init args) σ):ACalls Tryz.prog 24 args σ R:=acalls_of Tryz.func24 c24_ok hl h
/-! 38: tabular/token.Signs -/
def c38_21:ACode := .seq (.ops [ oe 11 (.nxt (.t 10)),oq 12 (.ext 0 (.t 11))]) (.seq (.cond (.t 12) .skip (.exit 0)) (.block 1 (.seq (.ops [ oq 13 (.ext 1 (.t 11)),oq 14 (.ext 2 (.t 11)),oq 5 (.mv (.t 13)),oq 6 (.mv (.t 14))]) (.seq (.seq (.ops [ oq 15 (.mv (.t 6)),oq 16 (.bin .eql (.t 15) (.v (.int .i32 65533)))]) (.cond (.t 16) (.seq (.ops [ oq 18 (.mv (.t 0)),oq 19 (.mv (.t 5)),oq 20 (.slfrom (true,0) (.t 18) (.t 19)),oe 21 (.call 62 [(.t 20)]),oq 17 (.mv (.t 21)),oq 22 (.ext 0 (.t 17)),oq 23 (.ext 1 (.t 17)),oq 7 (.mv (.t 22)),oq 8 (.mv (.t 23))]) (.seq (.ops [ oq 24 (.mv (.t 8)),oq 25 (.bin .eql (.t 24) (.v (.int .i64 1)))]) (.cond (.t 25) (.seq (.ops [ oq 2 (.mv (.v (.int .i64 0))),oq 3 (.mv (.v (.bool false)))]) .ret) .skip))) .skip)) (.ops [ oq 26 (.mv (.t 4)),oq 27 (.bin .add (.t 26) (.v (.int .i64 1))),oq 4 (.mv (.t 27))])))))
def c38_26:ACode := .seq (.ops [ oq 28 (.mv (.t 4)),oq 2 (.mv (.t 28)),oq 3 (.mv (.v (.bool true)))]) .ret
def c38_29:ACode := .seq (.ops [ oq 2 (.mv (.v (.int .i64 0))),oq 3 (.mv (.v (.bool false)))]) (.seq (.ops [ oq 4 (.mv (.v (.int .i64 0)))]) (.seq (.seq (.ops [ oq 9 (.mv (.t 0)),oe 10 (.rng (.t 9))]) (.block 0 (.loop c38_21))) c38_26))
@[go_sem] def c38_21_wp:=wp_of c38_21.eq_1
@[go_sem] def c38_26_wp:=wp_of c38_26.eq_1
@[go_sem] def c38_29_wp:=wp_of c38_29.eq_1
def c38:AFn:=⟨29,[.t 2,.t 3],c38_29⟩
theorem c38_ok:compF Tryz.prog Tryz.f38=some c38:=by kernel_rfl
theorem a38 {args:List AV} {σ:ASt} {R:AV->ASt->Prop} (hl:args.length<=29) (h:c38_29.wp Tryz.prog (RetQ [.t 2,.t 3] R) (init args) σ):ACalls Tryz.prog 38 args σ R:=acalls_of Tryz.func38 c38_ok hl h
/-! 45: tabular/value.trim -/
def c45_3:ACode := .seq (.ops [ oq 2 (.mv (.v (.str [])))]) (.seq (.ops [ oq 3 (.mv (.t 0)),oe 4 (.call 69 [(.t 3),(.v (.str [32]))]),oq 2 (.mv (.t 4))]) .ret)
@[go_sem] def c45_3_wp:=wp_of c45_3.eq_1
def c45:AFn:=⟨5,[.t 2],c45_3⟩
theorem c45_ok:compF Tryz.prog Tryz.f45=some c45:=by kernel_rfl
theorem a45 {args:List AV} {σ:ASt} {R:AV->ASt->Prop} (hl:args.length<=5) (h:c45_3.wp Tryz.prog (RetQ [.t 2] R) (init args) σ):ACalls Tryz.prog 45 args σ R:=acalls_of Tryz.func45 c45_ok hl h
/-! 51: tabular/value.Counted -/
end Go.A
namespace Go.A
open Go.Proofs
section
variable {σ0 σ:ASt} {k:SK} {n s c:Nat} {q:Role}
theorem set_swap2 {b c:Nat} {r q:Option Role} (h:b≠c):(σ.set b r).set c q=(σ.set c q).set b r:=by
 funext x
 simp only [ASt.set]
 by_cases h1:x=c
 ·subst h1;simp [h.symm]
 ·simp [h1]
theorem Grown.upon (hg:Grown σ0 σ k n s) (hc:σ c=none):Grown (σ0.set c (some q)) (σ.set c (some q)) k n s/\σ0 c=none:=by
 rcases hg with ⟨h1,h2,rfl⟩|⟨t,T,h1,h2,rfl⟩
 ·exact ⟨.inl ⟨h1,h2,rfl⟩,hc⟩
 ·obtain ⟨h3,h4,h5⟩:=set_none hc
  exact ⟨.inr ⟨t,T,h1,by rw [ASt.set_ne h4];exact h2,set_swap2 h4⟩,h5⟩
theorem Grown.off (h:Grown (σ0.set c (some q)) σ k n s) (hc:σ0 c=none):∃ σ',Drop σ σ'/\Grown σ0 σ' k n s:=by
 rcases h with ⟨h1,h2,rfl⟩|⟨t,T,h1,h2,rfl⟩
 ·exact ⟨σ0,Drop.set hc,.inl ⟨h1,h2,rfl⟩⟩
 ·obtain ⟨h3,h4,h5⟩:=set_none h2
  refine ⟨σ0.set t (some (.tok (n*s))),?_,.inr ⟨t,T,h1,h5,rfl⟩⟩
  rw [set_swap2 h4]
  exact Drop.set (by rw [ASt.set_ne h4];exact hc)
end
inductive PV where
 | blank
 | num (n:Int)
 | text (s:List UInt8)
 | bool (b:Bool)
 | fail (n:Int)
 deriving DecidableEq
def PV.av:PV->AV
 | .blank => .iface 79 (.agg [])
 | .num n => .iface 77 (.int .i64 n)
 | .text s => .iface 43 (.str s)
 | .bool b => .iface 70 (.bool b)
 | .fail n => .iface 47 (.int .i64 n)
theorem PV.av_cells (v:PV):v.av.cells = [v.av]:=by cases v<;>rfl
theorem PV.av_any (v:PV):v.av.isAny=false:=by cases v<;>rfl
def PV.small:PV->Prop
 | .text s=>s.length<=100000
 | _=>True
def argAV (v:PV):AV := .agg [.int .i64 1,.int .i64 1,.bool false,.sl .full [v.av]]
theorem argAV_any (v:PV):(argAV v).isAny=false:=rfl
theorem argAV_len (v:PV):(argAV v).cells.length=4:=rfl
def asNum:PV->Int×Int
 | .blank=>(0,0)
 | .num n=>(n,0)
 | .text s=>match parseD (Lib.trimB s 32) with
   | some n=>(n,0)
   | none=>(0,3)
 | .bool b=>(if b=true then 10000 else 0,0)
 | .fail f=>(0,f)
theorem sTrim_ok (s:List UInt8) (hs:s.length<=9223372036854775807):Pure Tryz.prog 69 [.str s,.str [32]] (.str (Lib.trimB s 32)):=by
 intro σ
 refine ACalls.of_ext (u := .string ⟨(Lib.trimB s 32).toArray⟩) (fun w vs hs' ha=>?_) fun w => .str _
 cases ha with
 | cons h1 h2=>
 cases h2 with
 | cons h2 h3=>
 cases h1;cases h2;cases h3
 exact (Tryz.strings_Trim_one ⟨⟨s⟩⟩ 32 (by decide) w hs).mono fun e w' ⟨he,hw⟩=>⟨he,by rcases hw with rfl|rfl;exact Ext.refl _;exact .drew (.refl _)⟩
theorem trimB_len (s:List UInt8) (c:UInt8):(Lib.trimB s c).length<=s.length:=by
 unfold Lib.trimB
 have h1:∀ l:List UInt8,(Lib.trimRightB l c).length<=l.length:=by
  intro l
  unfold Lib.trimRightB
  rw [List.length_reverse]
  exact Nat.le_trans (List.dropWhile_sublist _).length_le (by simp)
 have h2:∀ l:List UInt8,(Lib.trimLeftB l c).length<=l.length:=by
  intro l
  unfold Lib.trimLeftB
  exact (List.dropWhile_sublist _).length_le
 exact Nat.le_trans (h2 _) (h1 _)
theorem trim_ok (s:List UInt8) (hs:s.length<=9223372036854775807):Pure Tryz.prog 45 [.str s] (.str (Lib.trimB s 32)):=by
 intro σ
 have hT:=sTrim_ok s hs
 refine a45 (by simp) ?_
 simp (disch:=first|assumption|omega|(simp only [List.length_append,List.length_cons,List.length_nil];omega)) only [go_sem,reduceCtorEq,Nat.reduceEqDiff,Nat.reduceAdd,Nat.reduceSub,Nat.reduceMul,Nat.reduceLeDiff,Int.reduceLT,Int.reduceLE,Int.reduceEq,↓reduceIte,Int.reduceNeg,Int.reduceAdd,Int.reduceSub,Int.reduceMul,true_imp_iff,forall_const,Nat.mul_one,Int.reduceToNat,Nat.reducePow,Int.reducePow,Bool.true_and,Bool.false_and,Bool.and_false]
 refine hT.use ?_
 simp (disch:=first|assumption|omega|(simp only [List.length_append,List.length_cons,List.length_nil];omega)) only [go_sem,reduceCtorEq,Nat.reduceEqDiff,Nat.reduceAdd,Nat.reduceSub,Nat.reduceMul,Nat.reduceLeDiff,Int.reduceLT,Int.reduceLE,Int.reduceEq,↓reduceIte,Int.reduceNeg,Int.reduceAdd,Int.reduceSub,Int.reduceMul,true_imp_iff,forall_const,Nat.mul_one,Int.reduceToNat,Nat.reducePow,Int.reducePow,Bool.true_and,Bool.false_and,Bool.and_false]
 exact retC_by (by repeat' (first|exact Drop.refl _|with_reducible refine Drop.off ?_ (by assumption))) (.refl _) ⟨rfl,rfl⟩
theorem asNumber_ok (v:PV) (hv:v.small):Pure Tryz.prog 23 [v.av] (.tuple [.int .i64 (asNum v).1,.int .i64 (asNum v).2]):=by
 intro σ
 refine a23 (by simp) ?_
 cases v with
 | blank=>
   simp only [PV.av,asNum]
   simp (disch:=first|assumption|omega|(simp only [List.length_append,List.length_cons,List.length_nil];omega)) only [go_sem,reduceCtorEq,Nat.reduceEqDiff,Nat.reduceAdd,Nat.reduceSub,Nat.reduceMul,Nat.reduceLeDiff,Int.reduceLT,Int.reduceLE,Int.reduceEq,↓reduceIte,Int.reduceNeg,Int.reduceAdd,Int.reduceSub,Int.reduceMul,true_imp_iff,forall_const,Nat.mul_one,Int.reduceToNat,Nat.reducePow,Int.reducePow,Bool.true_and,Bool.false_and,Bool.and_false]
   exact retC_by (by repeat' (first|exact Drop.refl _|with_reducible refine Drop.off ?_ (by assumption))) (.refl _) ⟨rfl,rfl⟩
 | num n=>
   simp only [PV.av,asNum]
   simp (disch:=first|assumption|omega|(simp only [List.length_append,List.length_cons,List.length_nil];omega)) only [go_sem,reduceCtorEq,Nat.reduceEqDiff,Nat.reduceAdd,Nat.reduceSub,Nat.reduceMul,Nat.reduceLeDiff,Int.reduceLT,Int.reduceLE,Int.reduceEq,↓reduceIte,Int.reduceNeg,Int.reduceAdd,Int.reduceSub,Int.reduceMul,true_imp_iff,forall_const,Nat.mul_one,Int.reduceToNat,Nat.reducePow,Int.reducePow,Bool.true_and,Bool.false_and,Bool.and_false]
   exact retC_by (by repeat' (first|exact Drop.refl _|with_reducible refine Drop.off ?_ (by assumption))) (.refl _) ⟨rfl,rfl⟩
 | text s=>
   have hs:s.length<=100000:=hv
   have hT:=trim_ok s (by omega)
   have hP:=dparse_ok (Lib.trimB s 32) (by have:=trimB_len s 32;omega)
   simp only [PV.av,asNum]
   generalize Lib.trimB s 32=t at *
   cases ho:parseD t with
   | none=>
     rw [ho] at hP
     simp only [resAV,Option.getD_none,Option.isSome_none] at hP
     simp (disch:=first|assumption|omega|(simp only [List.length_append,List.length_cons,List.length_nil];omega)) only [go_sem,reduceCtorEq,Nat.reduceEqDiff,Nat.reduceAdd,Nat.reduceSub,Nat.reduceMul,Nat.reduceLeDiff,Int.reduceLT,Int.reduceLE,Int.reduceEq,↓reduceIte,Int.reduceNeg,Int.reduceAdd,Int.reduceSub,Int.reduceMul,true_imp_iff,forall_const,Nat.mul_one,Int.reduceToNat,Nat.reducePow,Int.reducePow,Bool.true_and,Bool.false_and,Bool.and_false]
     refine hT.use ?_
     simp (disch:=first|assumption|omega|(simp only [List.length_append,List.length_cons,List.length_nil];omega)) only [go_sem,reduceCtorEq,Nat.reduceEqDiff,Nat.reduceAdd,Nat.reduceSub,Nat.reduceMul,Nat.reduceLeDiff,Int.reduceLT,Int.reduceLE,Int.reduceEq,↓reduceIte,Int.reduceNeg,Int.reduceAdd,Int.reduceSub,Int.reduceMul,true_imp_iff,forall_const,Nat.mul_one,Int.reduceToNat,Nat.reducePow,Int.reducePow,Bool.true_and,Bool.false_and,Bool.and_false]
     refine hP.use ?_
     simp (disch:=first|assumption|omega|(simp only [List.length_append,List.length_cons,List.length_nil];omega)) only [go_sem,reduceCtorEq,Nat.reduceEqDiff,Nat.reduceAdd,Nat.reduceSub,Nat.reduceMul,Nat.reduceLeDiff,Int.reduceLT,Int.reduceLE,Int.reduceEq,↓reduceIte,Int.reduceNeg,Int.reduceAdd,Int.reduceSub,Int.reduceMul,true_imp_iff,forall_const,Nat.mul_one,Int.reduceToNat,Nat.reducePow,Int.reducePow,Bool.true_and,Bool.false_and,Bool.and_false]
     exact retC_by (by repeat' (first|exact Drop.refl _|with_reducible refine Drop.off ?_ (by assumption))) (.refl _) ⟨rfl,rfl⟩
   | some n=>
     rw [ho] at hP
     simp only [resAV,Option.getD_some,Option.isSome_some] at hP
     simp (disch:=first|assumption|omega|(simp only [List.length_append,List.length_cons,List.length_nil];omega)) only [go_sem,reduceCtorEq,Nat.reduceEqDiff,Nat.reduceAdd,Nat.reduceSub,Nat.reduceMul,Nat.reduceLeDiff,Int.reduceLT,Int.reduceLE,Int.reduceEq,↓reduceIte,Int.reduceNeg,Int.reduceAdd,Int.reduceSub,Int.reduceMul,true_imp_iff,forall_const,Nat.mul_one,Int.reduceToNat,Nat.reducePow,Int.reducePow,Bool.true_and,Bool.false_and,Bool.and_false]
     refine hT.use ?_
     simp (disch:=first|assumption|omega|(simp only [List.length_append,List.length_cons,List.length_nil];omega)) only [go_sem,reduceCtorEq,Nat.reduceEqDiff,Nat.reduceAdd,Nat.reduceSub,Nat.reduceMul,Nat.reduceLeDiff,Int.reduceLT,Int.reduceLE,Int.reduceEq,↓reduceIte,Int.reduceNeg,Int.reduceAdd,Int.reduceSub,Int.reduceMul,true_imp_iff,forall_const,Nat.mul_one,Int.reduceToNat,Nat.reducePow,Int.reducePow,Bool.true_and,Bool.false_and,Bool.and_false]
     refine hP.use ?_
     simp (disch:=first|assumption|omega|(simp only [List.length_append,List.length_cons,List.length_nil];omega)) only [go_sem,reduceCtorEq,Nat.reduceEqDiff,Nat.reduceAdd,Nat.reduceSub,Nat.reduceMul,Nat.reduceLeDiff,Int.reduceLT,Int.reduceLE,Int.reduceEq,↓reduceIte,Int.reduceNeg,Int.reduceAdd,Int.reduceSub,Int.reduceMul,true_imp_iff,forall_const,Nat.mul_one,Int.reduceToNat,Nat.reducePow,Int.reducePow,Bool.true_and,Bool.false_and,Bool.and_false]
     exact retC_by (by repeat' (first|exact Drop.refl _|with_reducible refine Drop.off ?_ (by assumption))) (.refl _) ⟨rfl,rfl⟩
 | bool b=>
   simp only [PV.av,asNum]
   cases b
   ·simp (disch:=first|assumption|omega|(simp only [List.length_append,List.length_cons,List.length_nil];omega)) only [go_sem,reduceCtorEq,Nat.reduceEqDiff,Nat.reduceAdd,Nat.reduceSub,Nat.reduceMul,Nat.reduceLeDiff,Int.reduceLT,Int.reduceLE,Int.reduceEq,↓reduceIte,Int.reduceNeg,Int.reduceAdd,Int.reduceSub,Int.reduceMul,true_imp_iff,forall_const,Nat.mul_one,Int.reduceToNat,Nat.reducePow,Int.reducePow,Bool.true_and,Bool.false_and,Bool.and_false]
    exact retC_by (by repeat' (first|exact Drop.refl _|with_reducible refine Drop.off ?_ (by assumption))) (.refl _) ⟨rfl,rfl⟩
   ·simp (disch:=first|assumption|omega|(simp only [List.length_append,List.length_cons,List.length_nil];omega)) only [go_sem,reduceCtorEq,Nat.reduceEqDiff,Nat.reduceAdd,Nat.reduceSub,Nat.reduceMul,Nat.reduceLeDiff,Int.reduceLT,Int.reduceLE,Int.reduceEq,↓reduceIte,Int.reduceNeg,Int.reduceAdd,Int.reduceSub,Int.reduceMul,true_imp_iff,forall_const,Nat.mul_one,Int.reduceToNat,Nat.reducePow,Int.reducePow,Bool.true_and,Bool.false_and,Bool.and_false]
    exact retC_by (by repeat' (first|exact Drop.refl _|with_reducible refine Drop.off ?_ (by assumption))) (.refl _) ⟨rfl,rfl⟩
 | fail f=>
   simp only [PV.av,asNum]
   simp (disch:=first|assumption|omega|(simp only [List.length_append,List.length_cons,List.length_nil];omega)) only [go_sem,reduceCtorEq,Nat.reduceEqDiff,Nat.reduceAdd,Nat.reduceSub,Nat.reduceMul,Nat.reduceLeDiff,Int.reduceLT,Int.reduceLE,Int.reduceEq,↓reduceIte,Int.reduceNeg,Int.reduceAdd,Int.reduceSub,Int.reduceMul,true_imp_iff,forall_const,Nat.mul_one,Int.reduceToNat,Nat.reducePow,Int.reducePow,Bool.true_and,Bool.false_and,Bool.and_false]
   exact retC_by (by repeat' (first|exact Drop.refl _|with_reducible refine Drop.off ?_ (by assumption))) (.refl _) ⟨rfl,rfl⟩
theorem argval_ok (v:PV):Pure Tryz.prog 24 [argAV v] v.av:=by
 intro σ
 unfold argAV
 have h1:=PV.av_cells v
 have h2:=PV.av_any v
 obtain ⟨x,hx⟩:∃ x,v.av=x:=⟨_,rfl⟩
 rw [hx] at h1 h2 ⊢
 refine a24 (by simp) ?_
 simp (disch:=first|assumption|omega|(simp only [List.length_append,List.length_cons,List.length_nil];omega)) only [go_sem,reduceCtorEq,Nat.reduceEqDiff,Nat.reduceAdd,Nat.reduceSub,Nat.reduceMul,Nat.reduceLeDiff,Int.reduceLT,Int.reduceLE,Int.reduceEq,↓reduceIte,Int.reduceNeg,Int.reduceAdd,Int.reduceSub,Int.reduceMul,true_imp_iff,forall_const,Nat.mul_one,Int.reduceToNat,Nat.reducePow,Int.reducePow,Bool.true_and,Bool.false_and,Bool.and_false]
 refine boxC_by rfl fun b hb=>?_
 simp (disch:=first|assumption|omega|(simp only [List.length_append,List.length_cons,List.length_nil];omega)) only [go_sem,reduceCtorEq,Nat.reduceEqDiff,Nat.reduceAdd,Nat.reduceSub,Nat.reduceMul,Nat.reduceLeDiff,Int.reduceLT,Int.reduceLE,Int.reduceEq,↓reduceIte,Int.reduceNeg,Int.reduceAdd,Int.reduceSub,Int.reduceMul,true_imp_iff,forall_const,Nat.mul_one,Int.reduceToNat,Nat.reducePow,Int.reducePow,Bool.true_and,Bool.false_and,Bool.and_false,h1,h2]
 exact retC_by (by repeat' (first|exact Drop.refl _|with_reducible refine Drop.off ?_ (by assumption))) (.refl _) ⟨by cases v<;>subst hx<;>rfl,rfl⟩
theorem vone_ok (v:PV):Pure Tryz.prog 12 [v.av] (argAV v):=by
 intro σ
 unfold argAV
 have h1:=PV.av_cells v
 have h2:=PV.av_any v
 generalize v.av=x at *
 refine a12 (by simp) ?_
 simp (disch:=first|assumption|omega|(simp only [List.length_append,List.length_cons,List.length_nil];omega)) only [go_sem,reduceCtorEq,Nat.reduceEqDiff,Nat.reduceAdd,Nat.reduceSub,Nat.reduceMul,Nat.reduceLeDiff,Int.reduceLT,Int.reduceLE,Int.reduceEq,↓reduceIte,Int.reduceNeg,Int.reduceAdd,Int.reduceSub,Int.reduceMul,true_imp_iff,forall_const,Nat.mul_one,Int.reduceToNat,Nat.reducePow,Int.reducePow,Bool.true_and,Bool.false_and,Bool.and_false,h1,h2]
 refine allocC_by fun b hb=>?_
 simp (disch:=first|assumption|omega|(simp only [List.length_append,List.length_cons,List.length_nil];omega)) only [go_sem,reduceCtorEq,Nat.reduceEqDiff,Nat.reduceAdd,Nat.reduceSub,Nat.reduceMul,Nat.reduceLeDiff,Int.reduceLT,Int.reduceLE,Int.reduceEq,↓reduceIte,Int.reduceNeg,Int.reduceAdd,Int.reduceSub,Int.reduceMul,true_imp_iff,forall_const,Nat.mul_one,Int.reduceToNat,Nat.reducePow,Int.reducePow,Bool.true_and,Bool.false_and,Bool.and_false,h1,h2]
 exact retC_by (by repeat' (first|exact Drop.refl _|with_reducible refine Drop.off ?_ (by assumption))) (.refl _) ⟨rfl,rfl⟩
def failedP:PV->Int×Bool
 | .fail n=>(n,true)
 | _=>(0,false)
theorem failed_ok (v:PV):Pure Tryz.prog 17 [v.av] (.tuple [.int .i64 (failedP v).1,.bool (failedP v).2]):=by
 intro σ
 refine a17 (by simp) ?_
 cases v<;>simp only [PV.av,failedP]<;>simp (disch:=first|assumption|omega|(simp only [List.length_append,List.length_cons,List.length_nil];omega)) only [go_sem,reduceCtorEq,Nat.reduceEqDiff,Nat.reduceAdd,Nat.reduceSub,Nat.reduceMul,Nat.reduceLeDiff,Int.reduceLT,Int.reduceLE,Int.reduceEq,↓reduceIte,Int.reduceNeg,Int.reduceAdd,Int.reduceSub,Int.reduceMul,true_imp_iff,forall_const,Nat.mul_one,Int.reduceToNat,Nat.reducePow,Int.reducePow,Bool.true_and,Bool.false_and,Bool.and_false]
 all_goals exact retC_by (by repeat' (first|exact Drop.refl _|with_reducible refine Drop.off ?_ (by assumption))) (.refl _) ⟨rfl,rfl⟩
end Go.A
namespace Go.A
open Go.Proofs
/-! 47: tabular/texts.skip -/
def c47_16:ACode := .seq (.ops [ oe 9 (.nxt (.t 8)),oq 10 (.ext 0 (.t 9))]) (.seq (.cond (.t 10) .skip (.exit 0)) (.block 1 (.seq (.ops [ oq 11 (.ext 1 (.t 9)),oq 6 (.mv (.t 11))]) (.seq (.seq (.ops [ oq 12 (.mv (.t 5)),oq 13 (.mv (.t 1)),oq 14 (.bin .geq (.t 12) (.t 13))]) (.cond (.t 14) (.seq (.ops [ oq 15 (.mv (.t 6)),oq 4 (.mv (.t 15))]) .ret) .skip)) (.ops [ oq 16 (.mv (.t 5)),oq 17 (.bin .add (.t 16) (.v (.int .i64 1))),oq 5 (.mv (.t 17))])))))
def c47_21:ACode := .seq (.ops [ oq 18 (.mv (.t 0)),oq 19 (.lenS (.t 18)),oq 4 (.mv (.t 19))]) .ret
def c47_24:ACode := .seq (.ops [ oq 4 (.mv (.v (.int .i64 0)))]) (.seq (.ops [ oq 5 (.mv (.v (.int .i64 0)))]) (.seq (.seq (.ops [ oq 7 (.mv (.t 0)),oe 8 (.rng (.t 7))]) (.block 0 (.loop c47_16))) c47_21))
@[go_sem] def c47_16_wp:=wp_of c47_16.eq_1
@[go_sem] def c47_21_wp:=wp_of c47_21.eq_1
@[go_sem] def c47_24_wp:=wp_of c47_24.eq_1
def c47:AFn:=⟨20,[.t 4],c47_24⟩
theorem c47_ok:compF Tryz.prog Tryz.f47=some c47:=by kernel_rfl
theorem a47 {args:List AV} {σ:ASt} {R:AV->ASt->Prop} (hl:args.length<=20) (h:c47_24.wp Tryz.prog (RetQ [.t 4] R) (init args) σ):ACalls Tryz.prog 47 args σ R:=acalls_of Tryz.func47 c47_ok hl h
/-! 48: tabular/texts.count -/
def c48_3:ACode := .seq (.ops [ oq 2 (.mv (.v (.int .i64 0)))]) (.seq (.ops [ oq 3 (.mv (.t 0)),oe 4 (.call 71 [(.t 3)]),oq 2 (.mv (.t 4))]) .ret)
@[go_sem] def c48_3_wp:=wp_of c48_3.eq_1
def c48:AFn:=⟨5,[.t 2],c48_3⟩
theorem c48_ok:compF Tryz.prog Tryz.f48=some c48:=by kernel_rfl
theorem a48 {args:List AV} {σ:ASt} {R:AV->ASt->Prop} (hl:args.length<=5) (h:c48_3.wp Tryz.prog (RetQ [.t 2] R) (init args) σ):ACalls Tryz.prog 48 args σ R:=acalls_of Tryz.func48 c48_ok hl h
end Go.A
namespace Go.A
open Go.Proofs Go.Lib
theorem range_at {s:List UInt8} {p:Nat} (hlt:p<s.length):s.drop p ≠ []/\Utf8.decode ⟨⟨s⟩⟩ p=decodeL (s.drop p)/\1<=(decodeL (s.drop p)).2/\p+(decodeL (s.drop p)).2<=s.length:=by
 have hne:s.drop p ≠ []:=by
  intro e
  have:=congrArg List.length e
  rw [List.length_drop] at this
  simp at this
  omega
 have hw:=decodeL_width (s.drop p)
 have hwle:=decodeL_le (s.drop p) hne
 rw [List.length_drop] at hwle
 exact ⟨hne,(decodeL_drop ⟨⟨s⟩⟩ p).symm,hw,by omega⟩
theorem signsN_pcs:∀ r,signsN r=(pcs r).length:=by
 have key:∀ (l:List UInt8) (k pos:Nat),l.length<=pos+k->runeCountFrom ⟨⟨l⟩⟩ k pos=(pcs (l.drop pos)).length:=by
  intro l k
  induction k with
  | zero=>
    intro pos h
    rw [List.drop_eq_nil_of_le (by omega)]
    rfl
  | succ k ih=>
    intro pos h
    unfold runeCountFrom
    have e:(⟨⟨l⟩⟩:ByteArray).size=l.length:=rfl
    rw [e]
    by_cases hlt:pos<l.length
    ·obtain ⟨h1,h2,h3,h4⟩:=range_at hlt
     rw [if_pos hlt,h2,ih _ (by omega),pcs_step h1,List.drop_drop,List.length_cons]
     omega
    ·rw [if_neg hlt,List.drop_eq_nil_of_le (by omega)]
     rfl
 intro r
 unfold signsN runeCount
 have e:(⟨⟨r⟩⟩:ByteArray).size=r.length:=rfl
 rw [e,key r _ _ (by omega),List.drop_zero]
theorem xcount_ok (s:List UInt8) (hs:s.length<9223372036854775807):Pure Tryz.prog 48 [.str s] (.int .i64 (pcs s).length):=by
 intro σ
 have hc:=count_ok s hs
 rw [signsN_pcs] at hc
 refine a48 (by simp) ?_
 simp (disch:=first|assumption|omega|(simp only [List.length_append,List.length_cons,List.length_nil];omega)) only [go_sem,reduceCtorEq,Nat.reduceEqDiff,Nat.reduceAdd,Nat.reduceSub,Nat.reduceMul,Nat.reduceLeDiff,Int.reduceLT,Int.reduceLE,Int.reduceEq,↓reduceIte,Int.reduceNeg,Int.reduceAdd,Int.reduceSub,Int.reduceMul,true_imp_iff,forall_const,Nat.mul_one,Int.reduceToNat,Nat.reducePow,Int.reducePow,Bool.true_and,Bool.false_and,Bool.and_false]
 refine hc.use ?_
 simp (disch:=first|assumption|omega|(simp only [List.length_append,List.length_cons,List.length_nil];omega)) only [go_sem,reduceCtorEq,Nat.reduceEqDiff,Nat.reduceAdd,Nat.reduceSub,Nat.reduceMul,Nat.reduceLeDiff,Int.reduceLT,Int.reduceLE,Int.reduceEq,↓reduceIte,Int.reduceNeg,Int.reduceAdd,Int.reduceSub,Int.reduceMul,true_imp_iff,forall_const,Nat.mul_one,Int.reduceToNat,Nat.reducePow,Int.reducePow,Bool.true_and,Bool.false_and,Bool.and_false]
 exact retC_by (.refl _) (.refl _) ⟨rfl,rfl⟩
theorem skipP_at {s:List UInt8} {p k:Nat} (h:p=((pcs s).take k).flatten.length):s.drop p=((pcs s).drop k).flatten:=by
 have:=skip_drop s (k:Int)
 unfold skipP at this
 rw [Int.toNat_natCast] at this
 rw [h,this]
theorem take_more {s:List UInt8} {p k:Nat} (h:p=((pcs s).take k).flatten.length) (hlt:p<s.length) :
  k<(pcs s).length/\p+(decodeL (s.drop p)).2=((pcs s).take (k+1)).flatten.length:=by
 obtain ⟨h1,h2,h3,h4⟩:=range_at hlt
 have hd:=skipP_at h
 have hp:=pcs_skip s k
 rw [<-hd,pcs_step h1] at hp
 have hk:k<(pcs s).length:=by
  rcases Nat.lt_or_ge k (pcs s).length with h|h
  ·exact h
  ·rw [List.drop_eq_nil_of_le h] at hp;cases hp
 refine ⟨hk,?_⟩
 rw [List.drop_eq_getElem_cons hk] at hp
 injection hp with hp1 hp2
 rw [List.take_succ_eq_append_getElem hk,List.flatten_append,List.length_append,← h,← hp1]
 simp only [List.flatten_cons,List.flatten_nil,List.append_nil,List.length_take,List.length_drop]
 omega
theorem xskip_ok (s:List UInt8) (n:Int) (hs:s.length<4611686018427387904):Pure Tryz.prog 47 [.str s,.int .i64 n] (.int .i64 (skipP s n)):=by
 intro σ
 obtain ⟨R,hR⟩:∃ R,skipP s n=R:=⟨_,rfl⟩
 rw [hR]
 refine a47 (by simp) ?_
 obtain ⟨F,hF⟩:∃ F,F=ACode.wp Tryz.prog c47_21:=⟨_,rfl⟩
 simp (disch:=first|assumption|omega|(simp only [List.length_append,List.length_cons,List.length_nil];omega)) only [go_sem,reduceCtorEq,Nat.reduceEqDiff,Nat.reduceAdd,Nat.reduceSub,Nat.reduceMul,Nat.reduceLeDiff,Int.reduceLT,Int.reduceLE,Int.reduceEq,↓reduceIte,Int.reduceNeg,Int.reduceAdd,Int.reduceSub,Int.reduceMul,true_imp_iff,forall_const,Nat.mul_one,Int.reduceToNat,Nat.reducePow,Int.reducePow,Bool.true_and,Bool.false_and,Bool.and_false,←hF]
 refine rngC_by fun b hb=>?_
 simp (disch:=first|assumption|omega|(simp only [List.length_append,List.length_cons,List.length_nil];omega)) only [go_sem,reduceCtorEq,Nat.reduceEqDiff,Nat.reduceAdd,Nat.reduceSub,Nat.reduceMul,Nat.reduceLeDiff,Int.reduceLT,Int.reduceLE,Int.reduceEq,↓reduceIte,Int.reduceNeg,Int.reduceAdd,Int.reduceSub,Int.reduceMul,true_imp_iff,forall_const,Nat.mul_one,Int.reduceToNat,Nat.reducePow,Int.reducePow,Bool.true_and,Bool.false_and,Bool.and_false,←hF]
 refine wp_loop_by (fun (pk:Nat×Nat) a σ'=>pk.1<=s.length/\pk.2<=pk.1/\pk.1=((pcs s).take pk.2).flatten.length/\((pk.2:Int)<=n\/pk.2=0)/\(a 0 = .str s/\a 1 = .int .i64 n/\a 5 = .int .i64 pk.2/\a 8 = .ptr b 0)/\σ'=σ.set b (some (.iter s pk.1))) (fun pk=>s.length-pk.1) (0,0) (Dr.now ⟨Nat.zero_le _,Nat.le_refl _,rfl,.inr rfl,?_,rfl⟩) ?_
 ·simp (disch:=first|assumption|omega|(simp only [List.length_append,List.length_cons,List.length_nil];omega)) only [go_sem,reduceCtorEq,Nat.reduceEqDiff,Nat.reduceAdd,Nat.reduceSub,Nat.reduceMul,Nat.reduceLeDiff,Int.reduceLT,Int.reduceLE,Int.reduceEq,↓reduceIte,Int.reduceNeg,Int.reduceAdd,Int.reduceSub,Int.reduceMul,true_imp_iff,forall_const,Nat.mul_one,Int.reduceToNat,Nat.reducePow,Int.reducePow,Bool.true_and,Bool.false_and,Bool.and_false]
 rintro ⟨p,k⟩ a σ1 ⟨hp,hk,hpk,hkn,hf,rfl⟩
 dsimp only at hp hk hpk hkn hf ⊢
 by_cases hlt:p<s.length
 ·obtain ⟨h1,h2,h3,h4⟩:=range_at hlt
  obtain ⟨h5,h6⟩:=take_more hpk hlt
  generalize decodeL (s.drop p)=D at *
  obtain ⟨r,w⟩:=D
  dsimp only at h3 h4 h6
  simp (disch:=first|assumption|omega|(simp only [List.length_append,List.length_cons,List.length_nil];omega)) only [go_sem,reduceCtorEq,Nat.reduceEqDiff,Nat.reduceAdd,Nat.reduceSub,Nat.reduceMul,Nat.reduceLeDiff,Int.reduceLT,Int.reduceLE,Int.reduceEq,↓reduceIte,Int.reduceNeg,Int.reduceAdd,Int.reduceSub,Int.reduceMul,true_imp_iff,forall_const,Nat.mul_one,Int.reduceToNat,Nat.reducePow,Int.reducePow,Bool.true_and,Bool.false_and,Bool.and_false,hf,←hF]
  refine nxt_more hlt ?_
  rw [h2]
  by_cases hn:n<=k
  ·simp (disch:=first|assumption|omega|(simp only [List.length_append,List.length_cons,List.length_nil];omega)) only [go_sem,reduceCtorEq,Nat.reduceEqDiff,Nat.reduceAdd,Nat.reduceSub,Nat.reduceMul,Nat.reduceLeDiff,Int.reduceLT,Int.reduceLE,Int.reduceEq,↓reduceIte,Int.reduceNeg,Int.reduceAdd,Int.reduceSub,Int.reduceMul,true_imp_iff,forall_const,Nat.mul_one,Int.reduceToNat,Nat.reducePow,Int.reducePow,Bool.true_and,Bool.false_and,Bool.and_false,hf,hn,←hF]
   have e:R=p:=by
    rw [<-hR,hpk]
    unfold skipP
    rcases hkn with h|h
    ·rw [show n.toNat=k by omega]
    ·rw [show n.toNat=k by omega]
   rw [e]
   exact retC_by (by repeat' (first|exact Drop.refl _|with_reducible refine Drop.off ?_ (by assumption))) (.refl _) ⟨rfl,rfl⟩
  ·simp (disch:=first|assumption|omega|(simp only [List.length_append,List.length_cons,List.length_nil];omega)) only [go_sem,reduceCtorEq,Nat.reduceEqDiff,Nat.reduceAdd,Nat.reduceSub,Nat.reduceMul,Nat.reduceLeDiff,Int.reduceLT,Int.reduceLE,Int.reduceEq,↓reduceIte,Int.reduceNeg,Int.reduceAdd,Int.reduceSub,Int.reduceMul,true_imp_iff,forall_const,Nat.mul_one,Int.reduceToNat,Nat.reducePow,Int.reducePow,Bool.true_and,Bool.false_and,Bool.and_false,hf,hn,←hF]
   refine ⟨(p+w,k+1),by dsimp only;omega,Dr.now ⟨h4,by dsimp only;omega,h6,.inl (by dsimp only;omega),?_,?_⟩⟩
   ·simp (disch:=first|assumption|omega|(simp only [List.length_append,List.length_cons,List.length_nil];omega)) only [go_sem,reduceCtorEq,Nat.reduceEqDiff,Nat.reduceAdd,Nat.reduceSub,Nat.reduceMul,Nat.reduceLeDiff,Int.reduceLT,Int.reduceLE,Int.reduceEq,↓reduceIte,Int.reduceNeg,Int.reduceAdd,Int.reduceSub,Int.reduceMul,true_imp_iff,forall_const,Nat.mul_one,Int.reduceToNat,Nat.reducePow,Int.reducePow,Bool.true_and,Bool.false_and,Bool.and_false,hf]
   ·simp only [ASt.set_set]
 ·simp (disch:=first|assumption|omega|(simp only [List.length_append,List.length_cons,List.length_nil];omega)) only [go_sem,reduceCtorEq,Nat.reduceEqDiff,Nat.reduceAdd,Nat.reduceSub,Nat.reduceMul,Nat.reduceLeDiff,Int.reduceLT,Int.reduceLE,Int.reduceEq,↓reduceIte,Int.reduceNeg,Int.reduceAdd,Int.reduceSub,Int.reduceMul,true_imp_iff,forall_const,Nat.mul_one,Int.reduceToNat,Nat.reducePow,Int.reducePow,Bool.true_and,Bool.false_and,Bool.and_false,hf,←hF]
  refine nxt_over (by omega) ?_
  simp (disch:=first|assumption|omega|(simp only [List.length_append,List.length_cons,List.length_nil];omega)) only [go_sem,reduceCtorEq,Nat.reduceEqDiff,Nat.reduceAdd,Nat.reduceSub,Nat.reduceMul,Nat.reduceLeDiff,Int.reduceLT,Int.reduceLE,Int.reduceEq,↓reduceIte,Int.reduceNeg,Int.reduceAdd,Int.reduceSub,Int.reduceMul,true_imp_iff,forall_const,Nat.mul_one,Int.reduceToNat,Nat.reducePow,Int.reducePow,Bool.true_and,Bool.false_and,Bool.and_false,hf,←hF]
  rw [hF]
  have e:R=s.length:=by
   have h7:=skipP_at hpk
   rw [List.drop_eq_nil_of_le (by omega)] at h7
   have h8:=pcs_skip s k
   rw [<-h7,pcs_nil] at h8
   have h9:(pcs s).length<=k:=by
    have:=congrArg List.length h8
    rw [List.length_drop] at this
    simp only [List.length_nil] at this
    omega
   rw [<-hR]
   unfold skipP
   rw [List.take_of_length_le (by rcases hkn with h|h<;>omega),pcs_flat]
  rw [e]
  simp (disch:=first|assumption|omega|(simp only [List.length_append,List.length_cons,List.length_nil];omega)) only [go_sem,reduceCtorEq,Nat.reduceEqDiff,Nat.reduceAdd,Nat.reduceSub,Nat.reduceMul,Nat.reduceLeDiff,Int.reduceLT,Int.reduceLE,Int.reduceEq,↓reduceIte,Int.reduceNeg,Int.reduceAdd,Int.reduceSub,Int.reduceMul,true_imp_iff,forall_const,Nat.mul_one,Int.reduceToNat,Nat.reducePow,Int.reducePow,Bool.true_and,Bool.false_and,Bool.and_false,hf]
  exact retC_by (by repeat' (first|exact Drop.refl _|with_reducible refine Drop.off ?_ (by assumption))) (.refl _) ⟨rfl,rfl⟩
end Go.A
namespace Go.A
open Go.Proofs
/-! 5: tabular/tabularref11.Signs -/
def c5_18:ACode := .seq (.seq (.ops [ oq 7 (.mv (.t 5)),oq 8 (.mv (.t 0)),oq 9 (.lenS (.t 8)),oq 10 (.bin .lss (.t 7) (.t 9))]) (.cond (.t 10) .skip (.exit 0))) (.block 1 (.seq (.ops [ oq 11 (.mv (.t 0)),oq 12 (.mv (.t 5)),oe 13 (.call 8 [(.t 11),(.t 12)]),oq 6 (.mv (.t 13))]) (.seq (.seq (.ops [ oq 14 (.mv (.t 6)),oq 15 (.bin .eql (.t 14) (.v (.int .i64 0)))]) (.cond (.t 15) (.seq (.ops [ oq 2 (.mv (.v (.int .i64 0))),oq 3 (.mv (.v (.bool false)))]) .ret) .skip)) (.seq (.ops [ oq 16 (.mv (.t 5)),oq 17 (.mv (.t 6)),oq 18 (.bin .add (.t 16) (.t 17)),oq 5 (.mv (.t 18))]) (.ops [ oq 19 (.mv (.t 4)),oq 20 (.bin .add (.t 19) (.v (.int .i64 1))),oq 4 (.mv (.t 20))])))))
def c5_26:ACode := .seq (.ops [ oq 2 (.mv (.v (.int .i64 0))),oq 3 (.mv (.v (.bool false)))]) (.seq (.ops [ oq 4 (.mv (.v (.int .i64 0)))]) (.seq (.seq (.ops [ oq 5 (.mv (.v (.int .i64 0)))]) (.block 0 (.loop c5_18))) (.seq (.ops [ oq 21 (.mv (.t 4)),oq 2 (.mv (.t 21)),oq 3 (.mv (.v (.bool true)))]) .ret)))
@[go_sem] def c5_18_wp:=wp_of c5_18.eq_1
@[go_sem] def c5_26_wp:=wp_of c5_26.eq_1
def c5:AFn:=⟨22,[.t 2,.t 3],c5_26⟩
theorem c5_ok:compF Tryz.prog Tryz.f5=some c5:=by kernel_rfl
theorem a5 {args:List AV} {σ:ASt} {R:AV->ASt->Prop} (hl:args.length<=22) (h:c5_26.wp Tryz.prog (RetQ [.t 2,.t 3] R) (init args) σ):ACalls Tryz.prog 5 args σ R:=acalls_of Tryz.func5 c5_ok hl h
/-! 8: tabular/tabularref11.Sign -/
def c8_47:ACode := .seq (.seq (.ops [ oq 42 (.mv (.t 5)),oq 43 (.bin .geq (.t 42) (.v (.int .i64 224))),oq 44 (.mv (.t 43)),⟨some 45,some (44,true),.q (.mv (.t 5)),[]⟩,⟨some 46,some (44,true),.q (.bin .leq (.t 45) (.v (.int .i64 239))),[]⟩,oq 47 (.pick (.t 44) (.t 46) (.v (.bool false))),oq 48 (.mv (.t 47)),⟨some 49,some (48,true),.q (.mv (.t 0)),[]⟩,⟨some 50,some (48,true),.q (.mv (.t 1)),[]⟩,⟨some 51,some (48,true),.q (.bin .add (.t 50) (.v (.int .i64 1))),[]⟩,⟨some 52,some (48,true),.q (.mv (.t 6)),[]⟩,⟨some 53,some (48,true),.q (.mv (.t 7)),[]⟩,⟨some 54,some (48,true),.e (.call 13 [(.t 49),(.t 51),(.t 52),(.t 53)]),[]⟩,oq 55 (.pick (.t 48) (.t 54) (.v (.bool false))),oq 56 (.mv (.t 55)),⟨some 57,some (56,true),.q (.mv (.t 0)),[]⟩,⟨some 58,some (56,true),.q (.mv (.t 1)),[]⟩,⟨some 59,some (56,true),.q (.bin .add (.t 58) (.v (.int .i64 2))),[]⟩,⟨some 60,some (56,true),.e (.call 13 [(.t 57),(.t 59),(.v (.int .i64 128)),(.v (.int .i64 191))]),[]⟩,oq 61 (.pick (.t 56) (.t 60) (.v (.bool false)))]) (.cond (.t 61) (.seq (.ops [ oq 4 (.mv (.v (.int .i64 3)))]) .ret) .skip)) (.seq (.seq (.ops [ oq 62 (.mv (.t 5)),oq 63 (.bin .geq (.t 62) (.v (.int .i64 240))),oq 64 (.mv (.t 63)),⟨some 65,some (64,true),.q (.mv (.t 5)),[]⟩,⟨some 66,some (64,true),.q (.bin .leq (.t 65) (.v (.int .i64 244))),[]⟩,oq 67 (.pick (.t 64) (.t 66) (.v (.bool false))),oq 68 (.mv (.t 67)),⟨some 69,some (68,true),.q (.mv (.t 0)),[]⟩,⟨some 70,some (68,true),.q (.mv (.t 1)),[]⟩,⟨some 71,some (68,true),.q (.bin .add (.t 70) (.v (.int .i64 1))),[]⟩,⟨some 72,some (68,true),.q (.mv (.t 6)),[]⟩,⟨some 73,some (68,true),.q (.mv (.t 7)),[]⟩,⟨some 74,some (68,true),.e (.call 13 [(.t 69),(.t 71),(.t 72),(.t 73)]),[]⟩,oq 75 (.pick (.t 68) (.t 74) (.v (.bool false))),oq 76 (.mv (.t 75)),⟨some 77,some (76,true),.q (.mv (.t 0)),[]⟩,⟨some 78,some (76,true),.q (.mv (.t 1)),[]⟩,⟨some 79,some (76,true),.q (.bin .add (.t 78) (.v (.int .i64 2))),[]⟩,⟨some 80,some (76,true),.e (.call 13 [(.t 77),(.t 79),(.v (.int .i64 128)),(.v (.int .i64 191))]),[]⟩,oq 81 (.pick (.t 76) (.t 80) (.v (.bool false))),oq 82 (.mv (.t 81)),⟨some 83,some (82,true),.q (.mv (.t 0)),[]⟩,⟨some 84,some (82,true),.q (.mv (.t 1)),[]⟩,⟨some 85,some (82,true),.q (.bin .add (.t 84) (.v (.int .i64 3))),[]⟩,⟨some 86,some (82,true),.e (.call 13 [(.t 83),(.t 85),(.v (.int .i64 128)),(.v (.int .i64 191))]),[]⟩,oq 87 (.pick (.t 82) (.t 86) (.v (.bool false)))]) (.cond (.t 87) (.seq (.ops [ oq 4 (.mv (.v (.int .i64 4)))]) .ret) .skip)) (.seq (.ops [ oq 4 (.mv (.v (.int .i64 0)))]) .ret))
def c8_52:ACode := .seq (.ops [ oq 6 (.mv (.v (.int .i64 128))),oq 7 (.mv (.v (.int .i64 191)))]) (.seq (.seq (.ops [ oq 30 (.mv (.t 5)),oq 31 (.bin .eql (.t 30) (.v (.int .i64 224))),oq 32 (.mv (.t 31)),⟨some 33,some (32,false),.q (.mv (.t 5)),[]⟩,⟨some 34,some (32,false),.q (.bin .eql (.t 33) (.v (.int .i64 240))),[]⟩,oq 35 (.pick (.t 32) (.v (.bool true)) (.t 34))]) (.cond (.t 35) (.ops [ oq 6 (.mv (.v (.int .i64 160)))]) .skip)) (.seq (.seq (.ops [ oq 36 (.mv (.t 5)),oq 37 (.bin .eql (.t 36) (.v (.int .i64 240)))]) (.cond (.t 37) (.ops [ oq 6 (.mv (.v (.int .i64 144)))]) .skip)) (.seq (.seq (.ops [ oq 38 (.mv (.t 5)),oq 39 (.bin .eql (.t 38) (.v (.int .i64 237)))]) (.cond (.t 39) (.ops [ oq 7 (.mv (.v (.int .i64 159)))]) .skip)) (.seq (.seq (.ops [ oq 40 (.mv (.t 5)),oq 41 (.bin .eql (.t 40) (.v (.int .i64 244)))]) (.cond (.t 41) (.ops [ oq 7 (.mv (.v (.int .i64 143)))]) .skip)) c8_47))))
def c8_57:ACode := .seq (.ops [ oq 4 (.mv (.v (.int .i64 0)))]) (.seq (.seq (.ops [ oq 8 (.mv (.t 1)),oq 9 (.mv (.t 0)),oq 10 (.lenS (.t 9)),oq 11 (.bin .geq (.t 8) (.t 10))]) (.cond (.t 11) (.seq (.ops [ oq 4 (.mv (.v (.int .i64 0)))]) .ret) .skip)) (.seq (.ops [ oq 12 (.mv (.t 0)),oq 13 (.mv (.t 1)),oq 14 (.idx (.t 12) (.t 13)),oq 15 (.conv .i64 (.t 14)),oq 5 (.mv (.t 15))]) (.seq (.seq (.ops [ oq 16 (.mv (.t 5)),oq 17 (.bin .lss (.t 16) (.v (.int .i64 128)))]) (.cond (.t 17) (.seq (.ops [ oq 4 (.mv (.v (.int .i64 1)))]) .ret) .skip)) (.seq (.seq (.ops [ oq 18 (.mv (.t 5)),oq 19 (.bin .geq (.t 18) (.v (.int .i64 194))),oq 20 (.mv (.t 19)),⟨some 21,some (20,true),.q (.mv (.t 5)),[]⟩,⟨some 22,some (20,true),.q (.bin .leq (.t 21) (.v (.int .i64 223))),[]⟩,oq 23 (.pick (.t 20) (.t 22) (.v (.bool false))),oq 24 (.mv (.t 23)),⟨some 25,some (24,true),.q (.mv (.t 0)),[]⟩,⟨some 26,some (24,true),.q (.mv (.t 1)),[]⟩,⟨some 27,some (24,true),.q (.bin .add (.t 26) (.v (.int .i64 1))),[]⟩,⟨some 28,some (24,true),.e (.call 13 [(.t 25),(.t 27),(.v (.int .i64 128)),(.v (.int .i64 191))]),[]⟩,oq 29 (.pick (.t 24) (.t 28) (.v (.bool false)))]) (.cond (.t 29) (.seq (.ops [ oq 4 (.mv (.v (.int .i64 2)))]) .ret) .skip)) c8_52))))
@[go_sem] def c8_47_wp:=wp_of c8_47.eq_1
@[go_sem] def c8_52_wp:=wp_of c8_52.eq_1
@[go_sem] def c8_57_wp:=wp_of c8_57.eq_1
def c8:AFn:=⟨88,[.t 4],c8_57⟩
theorem c8_ok:compF Tryz.prog Tryz.f8=some c8:=by kernel_rfl
theorem a8 {args:List AV} {σ:ASt} {R:AV->ASt->Prop} (hl:args.length<=88) (h:c8_57.wp Tryz.prog (RetQ [.t 4] R) (init args) σ):ACalls Tryz.prog 8 args σ R:=acalls_of Tryz.func8 c8_ok hl h
/-! 13: tabular/tabularref11.more -/
def c13_3:ACode := .seq (.ops [ oq 8 (.mv (.v (.bool false)))]) (.seq (.ops [ oq 9 (.mv (.t 1)),oq 10 (.mv (.t 0)),oq 11 (.lenS (.t 10)),oq 12 (.bin .lss (.t 9) (.t 11)),oq 13 (.mv (.t 12)),⟨some 14,some (13,true),.q (.mv (.t 0)),[]⟩,⟨some 15,some (13,true),.q (.mv (.t 1)),[]⟩,⟨some 16,some (13,true),.q (.idx (.t 14) (.t 15)),[]⟩,⟨some 17,some (13,true),.q (.conv .i64 (.t 16)),[]⟩,⟨some 18,some (13,true),.q (.mv (.t 2)),[]⟩,⟨some 19,some (13,true),.q (.bin .geq (.t 17) (.t 18)),[]⟩,oq 20 (.pick (.t 13) (.t 19) (.v (.bool false))),oq 21 (.mv (.t 20)),⟨some 22,some (21,true),.q (.mv (.t 0)),[]⟩,⟨some 23,some (21,true),.q (.mv (.t 1)),[]⟩,⟨some 24,some (21,true),.q (.idx (.t 22) (.t 23)),[]⟩,⟨some 25,some (21,true),.q (.conv .i64 (.t 24)),[]⟩,⟨some 26,some (21,true),.q (.mv (.t 3)),[]⟩,⟨some 27,some (21,true),.q (.bin .leq (.t 25) (.t 26)),[]⟩,oq 28 (.pick (.t 21) (.t 27) (.v (.bool false))),oq 8 (.mv (.t 28))]) .ret)
@[go_sem] def c13_3_wp:=wp_of c13_3.eq_1
def c13:AFn:=⟨29,[.t 8],c13_3⟩
theorem c13_ok:compF Tryz.prog Tryz.f13=some c13:=by kernel_rfl
theorem a13 {args:List AV} {σ:ASt} {R:AV->ASt->Prop} (hl:args.length<=29) (h:c13_3.wp Tryz.prog (RetQ [.t 8] R) (init args) σ):ACalls Tryz.prog 13 args σ R:=acalls_of Tryz.func13 c13_ok hl h
end Go.A
