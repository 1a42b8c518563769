/- Part 7 of what TabularSpelled leans on: Zg CodeZw Zw CodeEb Eb CodeEc Ec CodeEd Ed CodeEe Ee CodeEh Eh Ej Pa CodeZk. -/
import Derived.Test.YthdpkgfdjmeaiaaGreatDoorProg
import Derived.KernelRfl
import Derived.Test.YthdpkgfdjmeaiaaGreatDoorZTabularSpelledf
set_option linter.defProp false
set_option linter.unusedSimpArgs false
set_option linter.unusedVariables false
set_option maxRecDepth 100000
namespace Go.A
theorem ne_of_role {σ:ASt} {b c:Nat} {r:Role} (h:σ b=some r) (k:σ c=none):b≠c/\c≠b:=by
 constructor<;>rintro rfl<;>rw [h] at k<;>cases k
def GO (σ0:ASt) (b:Nat) (cs:SK->List AV) (n s:Nat) (σ:ASt):Prop:=∃ k,Grown (σ0.set b (some (.obj (cs k)))) σ k n s
theorem GO.cell {σ0 σ:ASt} {b n s:Nat} {k:SK} {cs:SK->List AV} (h:Grown (σ0.set b (some (.obj (cs k)))) σ k n s):σ b=some (.obj (cs k)):=h.at (ASt.set_same _ _ _)
theorem GO.add {σ0 σ:ASt} {b c n s:Nat} {cs:SK->List AV} {r:Role} (h:GO σ0 b cs n s σ) (hc:σ c=none):GO (σ0.set c (some r)) b cs n s (σ.set c (some r))/\c≠b/\σ0 c=none:=by
 obtain ⟨k,hg⟩:=h
 have hb:=GO.cell hg
 have hcb:c≠b:=by rintro rfl;rw [hb] at hc;cases hc
 have h0:σ0 c=none:=by
  rcases hg with ⟨_,_,rfl⟩|⟨t,T,_,_,rfl⟩
  ·rwa [ASt.set_ne hcb] at hc
  ·obtain ⟨_,_,hc⟩:=set_none hc
   rwa [ASt.set_ne hcb] at hc
 refine ⟨⟨k,?_⟩,hcb,h0⟩
 rcases hg with ⟨h1,h2,rfl⟩|⟨t,T,h1,h2,rfl⟩
 ·exact .inl ⟨h1,h2,set_swap (Ne.symm hcb)⟩
 ·obtain ⟨h3,h4,_⟩:=set_none hc
  obtain ⟨h5,h6,h7⟩:=set_none h2
  refine .inr ⟨t,T,h1,?_,?_⟩
  ·rw [ASt.set_ne h5,ASt.set_ne (Ne.symm h3)];exact h7
  ·rw [set_swap h4,set_swap (Ne.symm hcb)]
theorem GO.off {σ0 σ:ASt} {b c n s:Nat} {cs:SK->List AV} {r:Role} (h:GO (σ0.set c (some r)) b cs n s σ) (hcb:c≠b) (hc:σ0 c=none):∃ σ',Drop σ σ'/\GO σ0 b cs n s σ':=by
 obtain ⟨k,hg⟩:=h
 rcases hg with ⟨h1,h2,rfl⟩|⟨t,T,h1,h2,rfl⟩
 ·refine ⟨σ0.set b (some (.obj (cs k))),?_,⟨k,.inl ⟨h1,h2,rfl⟩⟩⟩
  rw [set_swap hcb]
  exact Drop.set (by rw [ASt.set_ne hcb];exact hc)
 ·obtain ⟨h3,h4,h5⟩:=set_none h2
  obtain ⟨h6,h7,h8⟩:=set_none h5
  have e:((σ0.set c (some r)).set b (some (.obj (cs k)))).set t (some (.tok (n*s)))=((σ0.set b (some (.obj (cs k)))).set t (some (.tok (n*s)))).set c (some r):=by
   rw [set_swap hcb,set_swap h7]
  refine ⟨(σ0.set b (some (.obj (cs k)))).set t (some (.tok (n*s))),?_,⟨k,.inr ⟨t,T,h1,?_,rfl⟩⟩⟩
  ·rw [e]
   exact Drop.set (by rw [ASt.set_ne h7,ASt.set_ne hcb];exact hc)
  ·rw [ASt.set_ne h3];exact h8
theorem GO.at {σ0 σ:ASt} {b n s x:Nat} {cs:SK->List AV} {r:Role} (h:GO σ0 b cs n s σ) (hx:x≠b) (h0:σ0 x=some r):σ x=some r:=by
 obtain ⟨k,hg⟩:=h
 exact hg.at (by rw [ASt.set_ne hx];exact h0)
inductive Over (τ:ASt):ASt->Prop
 | refl:Over τ τ
 | set {σ:ASt} (c:Nat) (r:Role):Over τ σ->σ c=none->Over τ (σ.set c (some r))
theorem Over.at {τ σ:ASt} (h:Over τ σ) {x:Nat} {r:Role} (hx:τ x=some r):σ x=some r:=by
 induction h with
 | refl=>exact hx
 | set c q h hc ih=>
   have:x≠c:=by rintro rfl;rw [ih] at hc;cases hc
   rw [ASt.set_ne this];exact ih
theorem Over.drop {τ σ:ASt} (h:Over τ σ):Drop σ τ:=by
 induction h with
 | refl=>exact Drop.refl _
 | set c q h hc ih=>
   intro x
   by_cases hx:x=c
   ·subst hx
    rcases ih x with h1|h1
    ·exact .inr (h1.trans hc)
    ·exact .inr h1
   ·rcases ih x with h1|h1
    ·exact .inl (by rw [ASt.set_ne hx];exact h1)
    ·exact .inr h1
theorem Over.trans {τ σ ρ:ASt} (h:Over τ σ) (k:Over σ ρ):Over τ ρ:=by
 induction k with
 | refl=>exact h
 | set c r _ hc ih=>exact .set c r ih hc
theorem GO.over {σ0 τ σ:ASt} {b n s:Nat} {cs:SK->List AV} (h:GO σ0 b cs n s τ) (ho:Over τ σ) :
  ∃ σ0',GO σ0' b cs n s σ/\Over σ0 σ0'/\∀ cs' n' σ',GO σ0' b cs' n' s σ'->∃ σ'',Drop σ' σ''/\GO σ0 b cs' n' s σ'':=by
 induction ho with
 | refl=>exact ⟨σ0,h,.refl,fun cs' n' σ' h'=>⟨σ',Drop.refl _,h'⟩⟩
 | set c r ho hc ih=>
   obtain ⟨σ0',h1,h2,h3⟩:=ih
   obtain ⟨h4,h5,h6⟩:=h1.add (r:=r) hc
   refine ⟨σ0'.set c (some r),h4,.set c r h2 h6,fun cs' n' σ' h'=>?_⟩
   obtain ⟨σ1,h7,h8⟩:=h'.off h5 h6
   obtain ⟨σ2,h9,h10⟩:=h3 _ _ _ h8
   exact ⟨σ2,h7.trans h9,h10⟩
def BW (T U:TypeId) (σ0:ASt) (b:Nat) (l:List UInt8) (σ:ASt):Prop:=
 (l = []/\σ=σ0.set b (some (.typ T [.pointer none,.slice none 0 0])))\/(l ≠ []/\∃ k,GrownT U (σ0.set b (some (.obj [.ptr b 0,.sl k (bytesAV l)]))) σ k l.length 1)
theorem BW.over {T U:TypeId} {σ0 σ:ASt} {b:Nat} {l:List UInt8} (h:BW T U σ0 b l σ) (hb:σ0 b=none):Over σ0 σ:=by
 rcases h with ⟨_,rfl⟩|⟨_,k,h1|⟨g,_,hg,rfl⟩⟩
 ·exact .set b _ .refl hb
 ·obtain ⟨_,_,rfl⟩:=h1
  exact .set b _ .refl hb
 ·exact .set g _ (.set b _ .refl hb) hg
theorem BW.iter {T U:TypeId} {σ0 σ:ASt} {b it:Nat} {l:List UInt8} {r r':Role} (h:BW T U (σ0.set it (some r)) b l σ) (hb:it≠b):BW T U (σ0.set it (some r')) b l (σ.set it (some r'))/\σ it=some r:=by
 rcases h with ⟨h0,rfl⟩|⟨h0,k,h1|⟨g,h1,hg,rfl⟩⟩
 ·refine ⟨.inl ⟨h0,?_⟩,by rw [ASt.set_ne hb,ASt.set_same]⟩
  rw [<-set_swap hb,ASt.set_set]
 ·obtain ⟨h1,h2,rfl⟩:=h1
  refine ⟨.inr ⟨h0,k,.inl ⟨h1,h2,?_⟩⟩,by rw [ASt.set_ne hb,ASt.set_same]⟩
  rw [<-set_swap hb,ASt.set_set]
 ·obtain ⟨h3,h4,h5⟩:=set_none hg
  obtain ⟨h6,h7,h8⟩:=set_none h5
  refine ⟨.inr ⟨h0,k,.inr ⟨g,h1,?_,?_⟩⟩,by rw [ASt.set_ne h7,ASt.set_ne hb,ASt.set_same]⟩
  ·rw [ASt.set_ne h3,ASt.set_ne h6];exact h8
  ·rw [<-set_swap h7,← set_swap hb,ASt.set_set]
end Go.A
namespace Go.A
open Go.Proofs Go.Lib
abbrev BD:=BW 100 5
abbrev GT:=GrownT 5
theorem cc_ok {σ0 σ:ASt} {b:Nat} {l:List UInt8} (h:BD σ0 b l σ):ACalls Tryz.prog 113 [.ptr b 0] σ fun v σ'=>v = .tuple []/\∃ k,GT (σ0.set b (some (.obj [.ptr b 0,.sl k (bytesAV l)]))) σ' k l.length 1:=by
 rcases h with ⟨rfl,rfl⟩|⟨h0,k,hg⟩
 ·refine (copyCheck_typ (ASt.set_same _ _ _)).mono ?_
  rintro v σ' ⟨rfl,rfl⟩
  exact ⟨rfl,.full,.inl ⟨rfl,rfl,by rw [ASt.set_set];rfl⟩⟩
 ·refine (copyCheck_used (hg.at (ASt.set_same _ _ _))).mono ?_
  rintro v σ' ⟨rfl,rfl⟩
  exact ⟨rfl,k,hg⟩
theorem bytesAV_app (l m:List UInt8):bytesAV l++bytesAV m=bytesAV (l++m):=by simp [bytesAV]
theorem bytesAV_len (l:List UInt8):(bytesAV l).length=l.length:=by simp [bytesAV]
theorem bytes_leaves (l:List UInt8):leaves ((bytesAV l).flatMap AV.cells)=true:=by unfold bytesAV;exact leaves_map (fun _=>rfl) l
theorem bytes_well (l:List UInt8):wellSz 1 (bytesAV l)=true:=by unfold bytesAV;exact wellSz_map (f:=fun c:UInt8=>AV.int .u8 c.toNat) (fun _=>⟨rfl,rfl⟩) l
theorem appB_by {σ σ0:ASt} {k k2:SK} {l m:List UInt8} {ys z:List AV} {K:AV->ASt->Prop} (h:GT σ0 σ k l.length 1) (hy:ys=bytesAV m) (hl:l.length+m.length<=4611686018427)
  (hK:∀ k' σ',GT σ0 σ' k' (l++m).length 1->K (.sl k' (bytesAV (l++m))) σ'):appC 5 1 1 z (.sl k (bytesAV l)) (.sl k2 ys) σ K:=by
 subst hy
 refine appCT_by (by rw [bytesAV_len];exact h) (bytes_well m) (bytes_leaves m) (by simp only [bytesAV_len];omega) (by simp only [bytesAV_len];omega) fun k' σ' hg=>?_
 rw [bytesAV_app] at hg ⊢
 rw [bytesAV_len] at hg
 exact hK k' σ' hg
theorem writeByte_ok {σ0 σ:ASt} {b:Nat} {l:List UInt8} (h:BD σ0 b l σ) (c:UInt8) (hl:l.length<=1000000000) :
  ACalls Tryz.prog 83 [.ptr b 0,.int .u8 c.toNat] σ fun v σ'=>v = .nili/\BD σ0 b (l ++ [c]) σ':=by
 refine a83 (by simp) ?_
 simp (disch:=first|assumption|omega) only [go_sem,reduceCtorEq,↓reduceIte]
 refine (cc_ok h).mono ?_
 rintro v σ1 ⟨rfl,k,hg⟩
 have hb:=hg.at (ASt.set_same _ _ _)
 simp (disch:=first|assumption|omega) only [go_sem,reduceCtorEq,Nat.reduceEqDiff,↓reduceIte,Bool.true_and,hb]
 refine appB_by (m := [c]) hg rfl (by simp;omega) fun k' σ' hg'=>?_
 have hb':=hg'.at (ASt.set_same _ _ _)
 simp (disch:=first|assumption|omega) only [go_sem,Nat.reduceEqDiff,Nat.reduceAdd,Nat.reduceLeDiff,↓reduceIte,Bool.true_and,hb']
 exact retC_by (Drop.refl _) (.refl _) ⟨rfl,.inr ⟨by simp,k',hg'.obj⟩⟩
theorem or_a:∀ y:Int,0<=y->y<64->((BitVec.ofInt 8 128 ||| BitVec.ofInt 8 y).toNat:Int)=128+y:=by
 have key:∀ n:Fin 64,((BitVec.ofInt 8 128 ||| BitVec.ofInt 8 ((n.val:Nat):Int)).toNat:Int)=128+((n.val:Nat):Int):=by decide
 intro y h0 h1
 have:=key ⟨y.toNat,by omega⟩
 rwa [Int.toNat_of_nonneg h0] at this
theorem or_b:∀ y:Int,0<=y->y<32->((BitVec.ofInt 8 192 ||| BitVec.ofInt 8 y).toNat:Int)=192+y:=by
 have key:∀ n:Fin 32,((BitVec.ofInt 8 192 ||| BitVec.ofInt 8 ((n.val:Nat):Int)).toNat:Int)=192+((n.val:Nat):Int):=by decide
 intro y h0 h1
 have:=key ⟨y.toNat,by omega⟩
 rwa [Int.toNat_of_nonneg h0] at this
theorem or_c:∀ y:Int,0<=y->y<16->((BitVec.ofInt 8 224 ||| BitVec.ofInt 8 y).toNat:Int)=224+y:=by
 have key:∀ n:Fin 16,((BitVec.ofInt 8 224 ||| BitVec.ofInt 8 ((n.val:Nat):Int)).toNat:Int)=224+((n.val:Nat):Int):=by decide
 intro y h0 h1
 have:=key ⟨y.toNat,by omega⟩
 rwa [Int.toNat_of_nonneg h0] at this
theorem or_d:∀ y:Int,0<=y->y<8->((BitVec.ofInt 8 240 ||| BitVec.ofInt 8 y).toNat:Int)=240+y:=by
 have key:∀ n:Fin 8,((BitVec.ofInt 8 240 ||| BitVec.ofInt 8 ((n.val:Nat):Int)).toNat:Int)=240+((n.val:Nat):Int):=by decide
 intro y h0 h1
 have:=key ⟨y.toNat,by omega⟩
 rwa [Int.toNat_of_nonneg h0] at this
theorem and_63 (y:Int):((BitVec.ofInt 8 (y % 256) &&& BitVec.ofInt 8 63).toNat:Int)=y % 64:=by
 have key:∀ n:Fin 256,((BitVec.ofInt 8 ((n.val:Nat):Int) &&& BitVec.ofInt 8 63).toNat:Int)=((n.val:Nat):Int) % 64:=by decide
 have:=key ⟨(y % 256).toNat,by omega⟩
 rw [Int.toNat_of_nonneg (by omega)] at this
 rw [this]
 omega
theorem wrap_8 (y:Int):IntKind.wrap .u8 y=y % 256:=IntKind.wrap_u8 y
theorem encAV (r:Int):(encodeRuneZ r).map (AV.int .u8)=bytesAV (encodeRune r):=by
 unfold bytesAV encodeRune
 rw [List.map_map]
 apply List.map_congr_left
 intro x hx
 obtain ⟨h0,h1⟩:=encodeRuneZ_byte r x hx
 simp [Function.comp]
 omega
theorem enc_len (r:Int):(encodeRune r).length<=4:=by
 have:=encodeRuneZ_length r
 simp [encodeRune]
 omega
def RuneOk (r:Int):Prop:=0<=r/\r<=1114111/\¬ (55296<=r/\r<=57343)
set_option maxHeartbeats 1000000 in
theorem appendRuneN_ok {σ0 σ:ASt} {k:SK} {l:List UInt8} (h:GT σ0 σ k l.length 1) {r:Int} (hr:RuneOk r) (h128:127<r) (hl:l.length<=1000000000) :
  ACalls Tryz.prog 174 [.sl k (bytesAV l),.int .i32 r] σ fun v σ'=>∃ k',v = .sl k' (bytesAV (l++encodeRune r))/\GT σ0 σ' k' (l++encodeRune r).length 1:=by
 obtain ⟨r0,r1,r2⟩:=hr
 have hel:=enc_len r
 have hea:=encAV r
 have w1:=wrap_8 r
 have w2:=wrap_8 (r / 64)
 have w3:=wrap_8 (r / 4096)
 have a1:=and_63 r
 have a2:=and_63 (r / 64)
 have a3:=and_63 (r / 4096)
 have o1:=or_a (r % 64) (by omega) (by omega)
 have o2:=or_a (r / 64 % 64) (by omega) (by omega)
 have o3:=or_a (r / 4096 % 64) (by omega) (by omega)
 refine a174 (by simp) ?_
 by_cases c1:r<=2047
 ·have o4:=or_b (r / 64) (by omega) (by omega)
  have e : [AV.int .u8 ((BitVec.ofInt 8 192 ||| BitVec.ofInt 8 (r / 64)).toNat:Int),AV.int .u8 ((BitVec.ofInt 8 128 ||| BitVec.ofInt 8 ((BitVec.ofInt 8 (r % 256) &&& BitVec.ofInt 8 63).toNat:Int)).toNat:Int)] = [192+r / 64,128+r % 64].map (AV.int .u8):=by
   rw [a1,o1,o4];rfl
  rw [encodeRuneZ_two (by omega) c1] at hea
  simp (disch:=first|assumption|omega) only [go_sem,reduceCtorEq,Nat.reduceEqDiff,↓reduceIte,Int.reduceToNat,Int.reducePow,Bool.true_and,c1,w1]
  refine appB_by (m:=encodeRune r) h (e.trans hea) (by omega) fun k' σ' hg'=>?_
  rw [List.length_append] at hg'
  simp (disch:=first|assumption|omega) only [go_sem,↓reduceIte]
  exact retC_by (Drop.refl _) (.refl _) ⟨k',rfl,hg'⟩
 by_cases c2:r<55296
 ·have o4:=or_c (r / 4096) (by omega) (by omega)
  have e : [AV.int .u8 ((BitVec.ofInt 8 224 ||| BitVec.ofInt 8 (r / 4096)).toNat:Int),AV.int .u8 ((BitVec.ofInt 8 128 ||| BitVec.ofInt 8 ((BitVec.ofInt 8 (r / 64 % 256) &&& BitVec.ofInt 8 63).toNat:Int)).toNat:Int),
   AV.int .u8 ((BitVec.ofInt 8 128 ||| BitVec.ofInt 8 ((BitVec.ofInt 8 (r % 256) &&& BitVec.ofInt 8 63).toNat:Int)).toNat:Int)] = [224+r / 4096,128+r / 64 % 64,128+r % 64].map (AV.int .u8):=by
   rw [a1,a2,o1,o2,o4];rfl
  rw [encodeRuneZ_three (by omega)] at hea
  simp (disch:=first|assumption|omega) only [go_sem,reduceCtorEq,Nat.reduceEqDiff,↓reduceIte,Int.reduceToNat,Int.reducePow,Bool.true_and,c1,c2,w1,w2]
  refine appB_by (m:=encodeRune r) h (e.trans hea) (by omega) fun k' σ' hg'=>?_
  rw [List.length_append] at hg'
  simp (disch:=first|assumption|omega) only [go_sem,↓reduceIte]
  exact retC_by (Drop.refl _) (.refl _) ⟨k',rfl,hg'⟩
 have c3:57343<r:=by omega
 by_cases c4:r<=65535
 ·have o4:=or_c (r / 4096) (by omega) (by omega)
  have e : [AV.int .u8 ((BitVec.ofInt 8 224 ||| BitVec.ofInt 8 (r / 4096)).toNat:Int),AV.int .u8 ((BitVec.ofInt 8 128 ||| BitVec.ofInt 8 ((BitVec.ofInt 8 (r / 64 % 256) &&& BitVec.ofInt 8 63).toNat:Int)).toNat:Int),
   AV.int .u8 ((BitVec.ofInt 8 128 ||| BitVec.ofInt 8 ((BitVec.ofInt 8 (r % 256) &&& BitVec.ofInt 8 63).toNat:Int)).toNat:Int)] = [224+r / 4096,128+r / 64 % 64,128+r % 64].map (AV.int .u8):=by
   rw [a1,a2,o1,o2,o4];rfl
  rw [encodeRuneZ_three (by omega)] at hea
  simp (disch:=first|assumption|omega) only [go_sem,reduceCtorEq,Nat.reduceEqDiff,↓reduceIte,Int.reduceToNat,Int.reducePow,Bool.true_and,c1,c2,c3,c4,w1,w2]
  refine appB_by (m:=encodeRune r) h (e.trans hea) (by omega) fun k' σ' hg'=>?_
  rw [List.length_append] at hg'
  simp (disch:=first|assumption|omega) only [go_sem,↓reduceIte]
  exact retC_by (Drop.refl _) (.refl _) ⟨k',rfl,hg'⟩
 ·have c5:65535<r:=by omega
  have o4:=or_d (r / 262144) (by omega) (by omega)
  have e : [AV.int .u8 ((BitVec.ofInt 8 240 ||| BitVec.ofInt 8 (r / 262144)).toNat:Int),AV.int .u8 ((BitVec.ofInt 8 128 ||| BitVec.ofInt 8 ((BitVec.ofInt 8 (r / 4096 % 256) &&& BitVec.ofInt 8 63).toNat:Int)).toNat:Int),
   AV.int .u8 ((BitVec.ofInt 8 128 ||| BitVec.ofInt 8 ((BitVec.ofInt 8 (r / 64 % 256) &&& BitVec.ofInt 8 63).toNat:Int)).toNat:Int),AV.int .u8 ((BitVec.ofInt 8 128 ||| BitVec.ofInt 8 ((BitVec.ofInt 8 (r % 256) &&& BitVec.ofInt 8 63).toNat:Int)).toNat:Int)] = [240+r / 262144,128+r / 4096 % 64,128+r / 64 % 64,128+r % 64].map (AV.int .u8):=by
   rw [a1,a2,a3,o1,o2,o3,o4];rfl
  rw [encodeRuneZ_four (by omega) (by omega)] at hea
  simp (disch:=first|assumption|omega) only [go_sem,reduceCtorEq,Nat.reduceEqDiff,↓reduceIte,Int.reduceToNat,Int.reducePow,Bool.true_and,c1,c2,c3,c4,c5,w1,w2,w3]
  refine appB_by (m:=encodeRune r) h (e.trans hea) (by omega) fun k' σ' hg'=>?_
  rw [List.length_append] at hg'
  simp (disch:=first|assumption|omega) only [go_sem,↓reduceIte]
  exact retC_by (Drop.refl _) (.refl _) ⟨k',rfl,hg'⟩
theorem appendRune_ok {σ0 σ:ASt} {k:SK} {l:List UInt8} (h:GT σ0 σ k l.length 1) {r:Int} (hr:RuneOk r) (hl:l.length<=1000000000) :
  ACalls Tryz.prog 156 [.sl k (bytesAV l),.int .i32 r] σ fun v σ'=>∃ k',v = .sl k' (bytesAV (l++encodeRune r))/\GT σ0 σ' k' (l++encodeRune r).length 1:=by
 obtain ⟨r0,r1,r2⟩:=hr
 have hel:=enc_len r
 have hea:=encAV r
 refine a156 (by simp) ?_
 by_cases c1:r<=127
 ·rw [encodeRuneZ_one r0 c1] at hea
  simp (disch:=first|assumption|omega) only [go_sem,reduceCtorEq,Nat.reduceEqDiff,↓reduceIte,Bool.true_and,c1]
  refine appB_by (m:=encodeRune r) h hea (by omega) fun k' σ' hg'=>?_
  rw [List.length_append] at hg'
  simp (disch:=first|assumption|omega) only [go_sem,↓reduceIte]
  exact retC_by (Drop.refl _) (.refl _) ⟨k',rfl,hg'⟩
 ·simp (disch:=first|assumption|omega) only [go_sem,reduceCtorEq,Nat.reduceEqDiff,↓reduceIte,c1]
  refine (appendRuneN_ok h ⟨r0,r1,r2⟩ (by omega) hl).mono ?_
  rintro v σ' ⟨k',rfl,hg'⟩
  rw [List.length_append] at hg'
  simp (disch:=first|assumption|omega) only [go_sem,↓reduceIte]
  exact retC_by (Drop.refl _) (.refl _) ⟨k',rfl,hg'⟩
theorem writeRune_ok {σ0 σ:ASt} {b:Nat} {l:List UInt8} (h:BD σ0 b l σ) {r:Int} (hr:RuneOk r) (hl:l.length<=1000000000) :
  ACalls Tryz.prog 134 [.ptr b 0,.int .i32 r] σ fun v σ'=>BD σ0 b (l++encodeRune r) σ':=by
 refine a134 (by simp) ?_
 have hel:=enc_len r
 have hne:encodeRune r ≠ []:=by
  intro h
  have:=encodeRuneZ_length r
  have h2:=congrArg List.length h
  simp [encodeRune] at h2
  rw [h2] at this
  simp at this
 simp (disch:=first|assumption|omega) only [go_sem,reduceCtorEq,↓reduceIte]
 refine (cc_ok h).mono ?_
 rintro v σ1 ⟨rfl,k,hg⟩
 have hb:=hg.at (ASt.set_same _ _ _)
 have hbl:=bytesAV_len l
 simp (disch:=first|assumption|omega) only [go_sem,reduceCtorEq,Nat.reduceEqDiff,↓reduceIte,hb,hbl]
 refine (appendRune_ok hg hr hl).mono ?_
 rintro v σ' ⟨k',rfl,hg'⟩
 have hb':=hg'.at (ASt.set_same _ _ _)
 have hbl':=bytesAV_len (l++encodeRune r)
 have hll:(l++encodeRune r).length<=1000000004:=by simp;omega
 simp (disch:=first|assumption|omega) only [go_sem,reduceCtorEq,Nat.reduceEqDiff,Nat.reduceAdd,Nat.reduceLeDiff,↓reduceIte,Bool.true_and,hb',hbl']
 exact retC_by (Drop.refl _) (.refl _) (.inr ⟨by simp [hne],k',hg'.obj⟩)
theorem bstring_ok {σ0 σ:ASt} {b:Nat} {l:List UInt8} (h:BD σ0 b l σ) (hl:l.length<=1000000000):ACalls Tryz.prog 49 [.ptr b 0] σ fun v σ'=>v = .str l/\σ'=σ:=by
 rcases h with ⟨rfl,rfl⟩|⟨h0,k,hg⟩
 ·exact bstring_typ (ASt.set_same _ _ _)
 ·have hb:=hg.at (ASt.set_same _ _ _)
  rcases hg with ⟨_,h1,_⟩|⟨g,rfl,hg,rfl⟩
  ·exact absurd (List.eq_nil_of_length_eq_zero h1) h0
  ·refine bstring_used h0 (by omega) hb (by rw [ASt.set_same,Nat.mul_one])
end Go.A
namespace Go.A
open Go.Proofs
/-! 76: (*strings.Builder).WriteString -/
def c76_7:ACode := .seq (.ops [ oq 4 (.mv (.v (.int .i64 0))),oq 5 (.mv (.v .nili))]) (.seq (.ops [ oq 6 (.mv (.t 0)),oe 7 (.call 113 [(.t 6)])]) (.seq (.ops [ oq 8 (.mv (.t 0)),oq 9 (.mv (.t 0)),oq 10 (.nc (.t 9)),oq 11 (.fa 1 (.t 10)),oq 12 (.ld none (.t 11)),oq 13 (.mv (.t 1)),oe 14 (.apps 5 (.t 12) (.t 13)),oq 15 (.nc (.t 8)),oq 16 (.fa 1 (.t 15)),oz (.store 1 (.t 16) (.t 14))]) (.seq (.ops [ oq 17 (.mv (.t 1)),oq 18 (.lenS (.t 17)),oq 4 (.mv (.t 18)),oq 5 (.mv (.v .nili))]) .ret)))
@[go_sem] def c76_7_wp:=wp_of c76_7.eq_1
def c76:AFn:=⟨19,[.t 4,.t 5],c76_7⟩
theorem c76_ok:compF Tryz.prog Tryz.f76=some c76:=by kernel_rfl
theorem a76 {args:List AV} {σ:ASt} {R:AV->ASt->Prop} (hl:args.length<=19) (h:c76_7.wp Tryz.prog (RetQ [.t 4,.t 5] R) (init args) σ):ACalls Tryz.prog 76 args σ R:=acalls_of Tryz.func76 c76_ok hl h
end Go.A
namespace Go.A
open Go.Proofs Go.Lib
section
variable {T U:TypeId} {σ0 σ:ASt} {b c x:Nat} {l:List UInt8} {r:Role}
theorem BW.role (h:BW T U σ0 b l σ):σ b≠none:=by
 rcases h with ⟨_,rfl⟩|⟨_,k,hg⟩
 ·rw [ASt.set_same];simp
 ·rw [hg.at (ASt.set_same _ _ _)];simp
theorem BW.at (h:BW T U σ0 b l σ) (hx:x≠b) (h0:σ0 x=some r):σ x=some r:=by
 rcases h with ⟨_,rfl⟩|⟨_,k,hg⟩
 ·rw [ASt.set_ne hx];exact h0
 ·exact hg.at (by rw [ASt.set_ne hx];exact h0)
theorem BW.add (h:BW T U σ0 b l σ) (hc:σ c=none):BW T U (σ0.set c (some r)) b l (σ.set c (some r))/\c≠b/\σ0 c=none:=by
 have hcb:c≠b:=by rintro rfl;exact h.role hc
 rcases h with ⟨h0,rfl⟩|⟨h0,k,h1|⟨t,h1,h2,rfl⟩⟩
 ·rw [ASt.set_ne hcb] at hc
  exact ⟨.inl ⟨h0,set_swap (Ne.symm hcb)⟩,hcb,hc⟩
 ·obtain ⟨h1,h2,rfl⟩:=h1
  rw [ASt.set_ne hcb] at hc
  exact ⟨.inr ⟨h0,k,.inl ⟨h1,h2,set_swap (Ne.symm hcb)⟩⟩,hcb,hc⟩
 ·obtain ⟨h3,h4,hc⟩:=set_none hc
  rw [ASt.set_ne hcb] at hc
  obtain ⟨h5,h6,h7⟩:=set_none h2
  refine ⟨.inr ⟨h0,k,.inr ⟨t,h1,?_,?_⟩⟩,hcb,hc⟩
  ·rw [ASt.set_ne h5,ASt.set_ne (Ne.symm h3)];exact h7
  ·rw [set_swap h4,set_swap (Ne.symm hcb)]
theorem BW.off (h:BW T U (σ0.set c (some r)) b l σ) (hcb:c≠b) (hc:σ0 c=none):∃ σ',Drop σ σ'/\BW T U σ0 b l σ':=by
 rcases h with ⟨h0,rfl⟩|⟨h0,k,h1|⟨t,h1,h2,rfl⟩⟩
 ·refine ⟨_,?_,.inl ⟨h0,rfl⟩⟩
  rw [set_swap hcb]
  exact Drop.set (by rw [ASt.set_ne hcb];exact hc)
 ·obtain ⟨h1,h2,rfl⟩:=h1
  refine ⟨_,?_,.inr ⟨h0,k,.inl ⟨h1,h2,rfl⟩⟩⟩
  rw [set_swap hcb]
  exact Drop.set (by rw [ASt.set_ne hcb];exact hc)
 ·obtain ⟨h3,h4,h5⟩:=set_none h2
  obtain ⟨h6,h7,h8⟩:=set_none h5
  refine ⟨(σ0.set b (some (.obj [.ptr b 0,.sl k (bytesAV l)]))).set t (some (.tok (l.length*1))),?_,.inr ⟨h0,k,.inr ⟨t,h1,?_,rfl⟩⟩⟩
  ·rw [set_swap hcb,set_swap h7]
   exact Drop.set (by rw [ASt.set_ne h7,ASt.set_ne hcb];exact hc)
  ·rw [ASt.set_ne h3];exact h8
end
theorem appsB_by {σ σ0:ASt} {k:SK} {l m:List UInt8} {K:AV->ASt->Prop} (h:GT σ0 σ k l.length 1) (hl:l.length+m.length<=4611686018427)
  (hK:∀ k' σ',GT σ0 σ' k' (l++m).length 1->K (.sl k' (bytesAV (l++m))) σ'):appsC 5 (.sl k (bytesAV l)) (.str m) σ K:=by
 refine appsCT_by (by rw [bytesAV_len];exact h) (by rw [bytesAV_len];omega) fun k' σ' hg=>?_
 rw [bytesAV_app]
 rw [bytesAV_len] at hg
 exact hK k' σ' (by rw [List.length_append];exact hg)
theorem writes_ok {σ0 σ:ASt} {b:Nat} {l:List UInt8} (h:BD σ0 b l σ) (m:List UInt8) (hl:l.length+m.length<=1000000000) :
  ACalls Tryz.prog 76 [.ptr b 0,.str m] σ fun v σ'=>v = .tuple [.int .i64 m.length,.nili]/\((l++m = []/\∃ k,GT (σ0.set b (some (.obj [.ptr b 0,.sl k []]))) σ' k 0 1)\/BD σ0 b (l++m) σ'):=by
 refine a76 (by simp) ?_
 simp (disch:=first|assumption|omega) only [go_sem,reduceCtorEq,↓reduceIte]
 refine (cc_ok h).mono ?_
 rintro v σ1 ⟨rfl,k,hg⟩
 have hb:=hg.at (ASt.set_same _ _ _)
 simp (disch:=first|assumption|omega) only [go_sem,reduceCtorEq,Nat.reduceEqDiff,↓reduceIte,hb]
 refine appsB_by hg (by omega) fun k' σ' hg'=>?_
 have hb':=hg'.at (ASt.set_same _ _ _)
 simp (disch:=first|assumption|omega) only [go_sem,Nat.reduceEqDiff,Nat.reduceAdd,Nat.reduceLeDiff,↓reduceIte,Bool.true_and,hb']
 refine retC_by (Drop.refl _) (.refl _) ⟨rfl,?_⟩
 by_cases he:l++m = []
 ·refine .inl ⟨he,k',?_⟩
  have:=hg'.obj (r' := .obj [.ptr b 0,.sl k' (bytesAV (l++m))])
  rw [he] at this
  rw [he]
  exact this
 ·exact .inr (.inr ⟨he,k',hg'.obj⟩)
theorem writes1_ok {σ0 σ:ASt} {b:Nat} {l:List UInt8} (h:BD σ0 b l σ) (m:List UInt8) (hm:m ≠ []) (hl:l.length+m.length<=1000000000) :
  ACalls Tryz.prog 76 [.ptr b 0,.str m] σ fun v σ'=>v = .tuple [.int .i64 m.length,.nili]/\BD σ0 b (l++m) σ':=
 (writes_ok h m hl).mono fun _ _ ⟨h1,h2⟩=>⟨h1,h2.resolve_left fun h=>hm (List.append_eq_nil_iff.1 h.1).2⟩
end Go.A
namespace Go.A
open Go.Proofs
/-! 71: tabular/expr.Signs -/
def c71_3:ACode := .seq (.ops [ oq 0 (.mv (.v (.sl .full [])))]) (.seq (.ops [ oq 1 (.bsl 1 [(.v (.str [43])),(.v (.str [45])),(.v (.str [42])),(.v (.str [47])),(.v (.str [94])),(.v (.str [38])),(.v (.str [61])),(.v (.str [60,62])),(.v (.str [60])),(.v (.str [60,61])),(.v (.str [62])),(.v (.str [62,61]))]),oq 0 (.mv (.t 1))]) .ret)
@[go_sem] def c71_3_wp:=wp_of c71_3.eq_1
def c71:AFn:=⟨2,[.t 0],c71_3⟩
theorem c71_ok:compF Tryz.prog Tryz.f71=some c71:=by kernel_rfl
theorem a71 {args:List AV} {σ:ASt} {R:AV->ASt->Prop} (hl:args.length<=2) (h:c71_3.wp Tryz.prog (RetQ [.t 0] R) (init args) σ):ACalls Tryz.prog 71 args σ R:=acalls_of Tryz.func71 c71_ok hl h
/-! 79: tabular/expr.truth -/
def c79_9:ACode := .seq (.ops [ oq 2 (.mv (.v (.str [])))]) (.seq (.seq (.ops [ oq 3 (.mv (.t 0))]) (.cond (.t 3) (.seq (.ops [ oq 2 (.mv (.v (.str [84,82,85,69])))]) .ret) .skip)) (.seq (.ops [ oq 2 (.mv (.v (.str [70,65,76,83,69])))]) .ret))
@[go_sem] def c79_9_wp:=wp_of c79_9.eq_1
def c79:AFn:=⟨4,[.t 2],c79_9⟩
theorem c79_ok:compF Tryz.prog Tryz.f79=some c79:=by kernel_rfl
theorem a79 {args:List AV} {σ:ASt} {R:AV->ASt->Prop} (hl:args.length<=4) (h:c79_9.wp Tryz.prog (RetQ [.t 2] R) (init args) σ):ACalls Tryz.prog 79 args σ R:=acalls_of Tryz.func79 c79_ok hl h
/-! 85: tabular/expr.level -/
def c85_20:ACode := .seq (.ops [ oq 2 (.mv (.v (.int .i64 0)))]) (.seq (.block 0 (.seq (.ops [ oq 4 (.mv (.t 0)),oq 5 (.bin .eql (.t 4) (.v (.int .i64 7))),oq 6 (.mv (.t 5)),⟨some 7,some (6,false),.q (.mv (.t 0)),[]⟩,⟨some 8,some (6,false),.q (.bin .eql (.t 7) (.v (.int .i64 8))),[]⟩,oq 9 (.pick (.t 6) (.v (.bool true)) (.t 8)),oq 3 (.mv (.t 9))]) (.cond (.t 3) (.seq (.ops [ oq 2 (.mv (.v (.int .i64 6)))]) .ret) (.seq (.ops [ oq 11 (.mv (.t 0)),oq 12 (.bin .eql (.t 11) (.v (.int .i64 9))),oq 10 (.mv (.t 12))]) (.cond (.t 10) (.seq (.ops [ oq 2 (.mv (.v (.int .i64 7)))]) .ret) (.seq (.ops [ oq 14 (.mv (.t 0)),oq 15 (.bin .lss (.t 14) (.v (.int .i64 10))),oq 16 (.mv (.t 15)),⟨some 17,some (16,false),.q (.mv (.t 0)),[]⟩,⟨some 18,some (16,false),.q (.bin .geq (.t 17) (.v (.int .i64 22))),[]⟩,oq 19 (.pick (.t 16) (.v (.bool true)) (.t 18)),oq 13 (.mv (.t 19))]) (.cond (.t 13) (.seq (.ops [ oq 2 (.mv (.v (.int .i64 8)))]) .ret) .skip))))))) (.seq (.ops [ oq 20 (.bsl 1 [(.v (.int .i64 3)),(.v (.int .i64 3)),(.v (.int .i64 4)),(.v (.int .i64 4)),(.v (.int .i64 5)),(.v (.int .i64 2)),(.v (.int .i64 1)),(.v (.int .i64 1)),(.v (.int .i64 1)),(.v (.int .i64 1)),(.v (.int .i64 1)),(.v (.int .i64 1))]),oq 21 (.mv (.t 0)),oq 22 (.bin .sub (.t 21) (.v (.int .i64 10))),oq 23 (.ia 1 (.t 20) (.t 22)),oq 24 (.ld none (.t 23)),oq 2 (.mv (.t 24))]) .ret))
@[go_sem] def c85_20_wp:=wp_of c85_20.eq_1
def c85:AFn:=⟨25,[.t 2],c85_20⟩
theorem c85_ok:compF Tryz.prog Tryz.f85=some c85:=by kernel_rfl
theorem a85 {args:List AV} {σ:ASt} {R:AV->ASt->Prop} (hl:args.length<=25) (h:c85_20.wp Tryz.prog (RetQ [.t 2] R) (init args) σ):ACalls Tryz.prog 85 args σ R:=acalls_of Tryz.func85 c85_ok hl h
end Go.A
namespace Go.A
open Go.Proofs Go.Lib
theorem esigns_ok:Pure Tryz.prog 71 [] (.sl .shr (signL.map AV.str)):=by
 intro σ
 refine a71 (by simp) ?_
 simp (disch:=first|assumption|omega) only [go_sem,↓reduceIte,Bool.true_and]
 exact retC_by (by repeat' (first|exact Drop.refl _|with_reducible refine Drop.off ?_ (by assumption))) (.sl _ _) ⟨rfl,rfl⟩
theorem tenames_ok:Pure Tryz.prog 119 [] (.sl .shr (errL.map AV.str)):=by
 intro σ
 refine a119 (by simp) ?_
 simp (disch:=first|assumption|omega) only [go_sem,↓reduceIte,Bool.true_and]
 exact retC_by (by repeat' (first|exact Drop.refl _|with_reducible refine Drop.off ?_ (by assumption))) (.sl _ _) ⟨rfl,rfl⟩
theorem level_ok (op:Int) (h0 : -1000<=op) (h1:op<=1000):Pure Tryz.prog 85 [.int .i64 op] (.int .i64 (levelP op)):=by
 intro σ
 obtain ⟨q,hq⟩:∃ q,levelP op=q:=⟨_,rfl⟩
 rw [hq]
 unfold levelP at hq
 refine a85 (by simp) ?_
 by_cases h7:op=7
 ·rw [if_pos (.inl h7)] at hq
  subst hq
  simp (disch:=first|assumption|omega) only [go_sem,reduceCtorEq,Nat.reduceEqDiff,↓reduceIte,h7]
  exact retC_by (by repeat' (first|exact Drop.refl _|with_reducible refine Drop.off ?_ (by assumption))) (.refl _) ⟨rfl,rfl⟩
 by_cases h8:op=8
 ·rw [if_pos (.inr h8)] at hq
  subst hq
  simp (disch:=first|assumption|omega) only [go_sem,reduceCtorEq,Nat.reduceEqDiff,Int.reduceEq,↓reduceIte,h8]
  exact retC_by (by repeat' (first|exact Drop.refl _|with_reducible refine Drop.off ?_ (by assumption))) (.refl _) ⟨rfl,rfl⟩
 rw [if_neg (by omega)] at hq
 by_cases h9:op=9
 ·rw [if_pos h9] at hq
  subst hq
  simp (disch:=first|assumption|omega) only [go_sem,reduceCtorEq,Nat.reduceEqDiff,Int.reduceEq,↓reduceIte,h9]
  exact retC_by (by repeat' (first|exact Drop.refl _|with_reducible refine Drop.off ?_ (by assumption))) (.refl _) ⟨rfl,rfl⟩
 rw [if_neg h9] at hq
 by_cases ha:op<10
 ·rw [if_pos (.inl ha)] at hq
  subst hq
  simp (disch:=first|assumption|omega) only [go_sem,reduceCtorEq,Nat.reduceEqDiff,↓reduceIte,h7,h8,h9,ha]
  exact retC_by (by repeat' (first|exact Drop.refl _|with_reducible refine Drop.off ?_ (by assumption))) (.refl _) ⟨rfl,rfl⟩
 by_cases hb:22<=op
 ·rw [if_pos (.inr hb)] at hq
  subst hq
  simp (disch:=first|assumption|omega) only [go_sem,reduceCtorEq,Nat.reduceEqDiff,↓reduceIte,h7,h8,h9,ha,hb]
  exact retC_by (by repeat' (first|exact Drop.refl _|with_reducible refine Drop.off ?_ (by assumption))) (.refl _) ⟨rfl,rfl⟩
 rw [if_neg (by omega)] at hq
 have hc:op=10\/op=11\/op=12\/op=13\/op=14\/op=15\/op=16\/op=17\/op=18\/op=19\/op=20\/op=21:=by omega
 rcases hc with rfl|rfl|rfl|rfl|rfl|rfl|rfl|rfl|rfl|rfl|rfl|rfl
 all_goals
  simp at hq
  subst hq
  simp (disch:=first|assumption|omega) only [go_sem,reduceCtorEq,Nat.reduceEqDiff,Int.reduceLT,Int.reduceLE,Int.reduceEq,↓reduceIte,Int.reduceSub,Int.reduceToNat,Bool.true_and]
  exact retC_by (by repeat' (first|exact Drop.refl _|with_reducible refine Drop.off ?_ (by assumption))) (.refl _) ⟨rfl,rfl⟩
theorem truth_ok (b:Bool):Pure Tryz.prog 79 [.bool b] (.str (truthP b)):=by
 intro σ
 refine a79 (by simp) ?_
 cases b<;>simp (disch:=first|assumption|omega) only [go_sem,reduceCtorEq,↓reduceIte]
 all_goals exact retC_by (by repeat' (first|exact Drop.refl _|with_reducible refine Drop.off ?_ (by assumption))) (.refl _) ⟨rfl,rfl⟩
end Go.A
namespace Go.A
open Go.Proofs
/-! 80: tabular/expr.Failure -/
def c80_11:ACode := .seq (.ops [ oe 1 (.box (.t 0)),oq 2 (.mv (.v (.str [])))]) (.seq (.ops [ oq 4 (.fa 1 (.t 1)),oq 5 (.ld none (.t 4)),oe 6 (.call 118 [(.t 5)]),oq 3 (.mv (.t 6))]) (.seq (.seq (.ops [ oq 7 (.fa 0 (.t 1)),oq 8 (.ld none (.t 7)),oq 9 (.bin .neq (.t 8) (.v (.int .i64 4))),oq 10 (.mv (.t 9)),⟨some 11,some (10,false),.q (.mv (.t 3)),[]⟩,⟨some 12,some (10,false),.q (.bin .lss (.t 11) (.v (.int .i64 1))),[]⟩,oq 13 (.pick (.t 10) (.v (.bool true)) (.t 12)),oq 14 (.mv (.t 13)),⟨some 15,some (14,false),.q (.mv (.t 3)),[]⟩,⟨some 16,some (14,false),.e (.call 119 []),[]⟩,⟨some 17,some (14,false),.q (.len (.t 16)),[]⟩,⟨some 18,some (14,false),.q (.bin .gtr (.t 15) (.t 17)),[]⟩,oq 19 (.pick (.t 14) (.v (.bool true)) (.t 18))]) (.cond (.t 19) (.seq (.ops [ oq 2 (.mv (.v (.str [])))]) .ret) .skip)) (.seq (.ops [ oe 20 (.call 119 []),oq 21 (.mv (.t 3)),oq 22 (.bin .sub (.t 21) (.v (.int .i64 1))),oq 23 (.ia 1 (.t 20) (.t 22)),oq 24 (.ld none (.t 23)),oq 2 (.mv (.t 24))]) .ret)))
@[go_sem] def c80_11_wp:=wp_of c80_11.eq_1
def c80:AFn:=⟨25,[.t 2],c80_11⟩
theorem c80_ok:compF Tryz.prog Tryz.f80=some c80:=by kernel_rfl
theorem a80 {args:List AV} {σ:ASt} {R:AV->ASt->Prop} (hl:args.length<=25) (h:c80_11.wp Tryz.prog (RetQ [.t 2] R) (init args) σ):ACalls Tryz.prog 80 args σ R:=acalls_of Tryz.func80 c80_ok hl h
end Go.A
namespace Go.A
open Go.Proofs Go.Lib
theorem failure_ok (op n:Int) (s:List UInt8) (a b:Ref) (kids:List Nd) (hn:n.natAbs<=999999999999999999):Pure Tryz.prog 80 [(Nd.mk op n s a b kids).av] (.str (failT op n)):=by
 intro σ
 have hW:=whole_ok hn
 have hE:=tenames_ok
 obtain ⟨q,hq⟩:∃ q,failT op n=q:=⟨_,rfl⟩
 rw [hq]
 unfold failT at hq
 rw [Nd.av_cs]
 generalize n.tdiv 10000=i at *
 refine a80 (by simp) ?_
 simp (disch:=first|assumption|omega) only [go_sem]
 refine boxC_by rfl fun c hc=>?_
 simp (disch:=first|assumption|omega) only [go_sem,Nat.reduceEqDiff,↓reduceIte]
 refine hW.use ?_
 by_cases h4:op=4
 ·by_cases h2:i<1
  ·rw [if_pos (.inr (.inl h2))] at hq
   subst hq
   simp (disch:=first|assumption|omega) only [go_sem,Nat.reduceEqDiff,↓reduceIte,h4,h2]
   exact retC_by (by repeat' (first|exact Drop.refl _|with_reducible refine Drop.off ?_ (by assumption))) (.refl _) ⟨rfl,rfl⟩
  ·by_cases h3:7<i
   ·rw [if_pos (.inr (.inr h3))] at hq
    subst hq
    simp (disch:=first|assumption|omega) only [go_sem,Nat.reduceEqDiff,↓reduceIte,h4,h2]
    refine hE.use ?_
    unfold errL
    simp (disch:=first|assumption|omega) only [go_sem,Nat.reduceEqDiff,Nat.reduceAdd,↓reduceIte,h3]
    exact retC_by (by repeat' (first|exact Drop.refl _|with_reducible refine Drop.off ?_ (by assumption))) (.refl _) ⟨rfl,rfl⟩
   ·rw [if_neg (by omega)] at hq
    have hc:i=1\/i=2\/i=3\/i=4\/i=5\/i=6\/i=7:=by omega
    subst hq
    rcases hc with rfl|rfl|rfl|rfl|rfl|rfl|rfl
    all_goals
     simp (disch:=first|assumption|omega) only [go_sem,Nat.reduceEqDiff,Int.reduceLT,↓reduceIte,Int.reduceSub,Int.reduceToNat,h4]
     refine hE.use ?_
     unfold errL
     simp (disch:=first|assumption|omega) only [go_sem,Nat.reduceEqDiff,Nat.reduceAdd,Int.reduceLT,↓reduceIte]
     refine hE.use ?_
     unfold errL
     simp (disch:=first|assumption|omega) only [go_sem,Nat.reduceEqDiff,↓reduceIte,Int.reduceSub,Int.reduceToNat]
     exact retC_by (by repeat' (first|exact Drop.refl _|with_reducible refine Drop.off ?_ (by assumption))) (.refl _) ⟨rfl,rfl⟩
 ·rw [if_pos (.inl h4)] at hq
  subst hq
  simp (disch:=first|assumption|omega) only [go_sem,Nat.reduceEqDiff,↓reduceIte,h4]
  exact retC_by (by repeat' (first|exact Drop.refl _|with_reducible refine Drop.off ?_ (by assumption))) (.refl _) ⟨rfl,rfl⟩
theorem sizes_len:∀ l:List Nd,l.length<=Nd.sizes l
 | []=>by simp
 | x::l=>by have:=x.size_pos;have:=sizes_len l;rw [Nd.sizes,List.length_cons];omega
end Go.A
namespace Go.A
open Go.Proofs
/-! 48: tabular/expr.spell -/
def c48_43:ACode := .seq (.ops [ oq 117 (.bin .lss (.t 116) (.t 115))]) (.seq (.cond (.t 117) .skip (.exit 1)) (.seq (.block 2 (.seq (.ops [ oq 118 (.mv (.t 116)),oq 119 (.ia 12 (.t 114) (.t 116)),oq 120 (.ld (some 12) (.t 119)),oe 5 (.alloc [(.int .i64 0),(.int .i64 0),(.str []),(.int .i64 0),(.int .i64 0),(.bool false),(.bool false),(.int .i64 0),(.int .i64 0),(.bool false),(.bool false),(.sl .full [])]),oq 4 (.mv (.t 118)),oz (.store 12 (.t 5) (.t 120))]) (.seq (.seq (.ops [ oq 121 (.mv (.t 4)),oq 122 (.bin .gtr (.t 121) (.v (.int .i64 0)))]) (.cond (.t 122) (.ops [ oq 123 (.mv (.t 0)),oe 124 (.call 83 [(.t 123),(.v (.int .u8 44))])]) .skip)) (.ops [ oq 125 (.mv (.t 0)),oq 126 (.ld (some 12) (.t 5)),oe 127 (.call 48 [(.t 125),(.t 126)])])))) (.ops [ oq 128 (.bin .add (.t 116) (.v (.int .i64 1))),oq 116 (.mv (.t 128))])))
def c48_47:ACode := .ops [ oq 129 (.mv (.t 0)),oe 130 (.call 83 [(.t 129),(.v (.int .u8 41))])]
def c48_67:ACode := .cond (.t 70) (.ops [ oq 72 (.mv (.t 0)),oq 73 (.fa 3 (.t 3)),oq 74 (.ld (some 4) (.t 73)),oq 75 (.fa 7 (.t 3)),oq 76 (.ld (some 4) (.t 75)),oq 77 (.build [(.int .i64 0),(.int .i64 0),(.bool false),(.bool false),(.int .i64 0),(.int .i64 0),(.bool false),(.bool false)] [(0,4,(.t 74)),(4,4,(.t 76))]),oe 78 (.call 82 [(.t 77)]),oe 79 (.call 76 [(.t 72),(.t 78)])]) (.seq (.seq (.ops [ oq 81 (.bin .eql (.t 8) (.v (.int .i64 7))),oq 80 (.mv (.t 81))]) (.cond (.t 80) .skip (.ops [ oq 82 (.bin .eql (.t 8) (.v (.int .i64 8))),oq 80 (.mv (.t 82))]))) (.cond (.t 80) (.seq (.ops [ oq 83 (.mv (.t 0)),oq 84 (.fa 0 (.t 3)),oq 85 (.ld none (.t 84)),oq 86 (.bin .sub (.t 85) (.v (.int .i64 7))),oq 87 (.idx (.v (.str [45,43])) (.t 86)),oe 88 (.call 83 [(.t 83),(.t 87)])]) (.ops [ oq 89 (.mv (.t 0)),oq 90 (.fa 11 (.t 3)),oq 91 (.ld none (.t 90)),oq 92 (.ia 12 (.t 91) (.v (.int .i64 0))),oq 93 (.ld (some 12) (.t 92)),oe 94 (.call 84 [(.t 89),(.t 93),(.v (.int .i64 6))])])) (.seq (.ops [ oq 96 (.bin .eql (.t 8) (.v (.int .i64 9))),oq 95 (.mv (.t 96))]) (.cond (.t 95) (.seq (.ops [ oq 97 (.mv (.t 0)),oq 98 (.fa 11 (.t 3)),oq 99 (.ld none (.t 98)),oq 100 (.ia 12 (.t 99) (.v (.int .i64 0))),oq 101 (.ld (some 12) (.t 100)),oe 102 (.call 84 [(.t 97),(.t 101),(.v (.int .i64 7))])]) (.ops [ oq 103 (.mv (.t 0)),oe 104 (.call 83 [(.t 103),(.v (.int .u8 37))])])) (.seq (.ops [ oq 106 (.bin .eql (.t 8) (.v (.int .i64 22))),oq 105 (.mv (.t 106))]) (.cond (.t 105) (.seq (.ops [ oq 107 (.mv (.t 0)),oq 108 (.fa 2 (.t 3)),oq 109 (.ld none (.t 108)),oe 110 (.call 76 [(.t 107),(.t 109)])]) (.seq (.ops [ oq 111 (.mv (.t 0)),oe 112 (.call 83 [(.t 111),(.v (.int .u8 40))])]) (.seq (.seq (.ops [ oq 113 (.fa 11 (.t 3)),oq 114 (.ld none (.t 113)),oq 115 (.len (.t 114)),oq 116 (.mv (.v (.int .i64 0)))]) (.block 1 (.loop c48_43))) c48_47))) (.seq (.ops [ oq 132 (.bin .eql (.t 8) (.v (.int .i64 23))),oq 131 (.mv (.t 132))]) (.cond (.t 131) .skip (.seq (.ops [ oq 9 (.fa 0 (.t 3)),oq 10 (.ld none (.t 9)),oe 11 (.call 85 [(.t 10)]),oq 6 (.mv (.t 11))]) (.seq (.ops [ oq 12 (.mv (.t 0)),oq 13 (.fa 11 (.t 3)),oq 14 (.ld none (.t 13)),oq 15 (.ia 12 (.t 14) (.v (.int .i64 0))),oq 16 (.ld (some 12) (.t 15)),oq 17 (.mv (.t 6)),oe 18 (.call 84 [(.t 12),(.t 16),(.t 17)])]) (.seq (.ops [ oq 19 (.mv (.t 0)),oq 21 (.fa 0 (.t 3)),oq 22 (.ld none (.t 21)),oq 23 (.bin .sub (.t 22) (.v (.int .i64 10))),⟨some 20,none,.e (.call 71 []),[⟨none,.ld none (.t 21),22⟩]⟩,oq 24 (.ia 1 (.t 20) (.t 23)),oq 25 (.ld none (.t 24)),oe 26 (.call 76 [(.t 19),(.t 25)])]) (.ops [ oq 27 (.mv (.t 0)),oq 28 (.fa 11 (.t 3)),oq 29 (.ld none (.t 28)),oq 30 (.ia 12 (.t 29) (.v (.int .i64 1))),oq 31 (.ld (some 12) (.t 30)),oq 32 (.mv (.t 6)),oq 33 (.bin .add (.t 32) (.v (.int .i64 1))),oe 34 (.call 84 [(.t 27),(.t 31),(.t 33)])]))))))))))))
def c48_81:ACode := .seq (.ops [ oe 3 (.box (.t 1))]) (.seq (.ops [ oq 7 (.fa 0 (.t 3)),oq 8 (.ld none (.t 7))]) (.block 0 (.seq (.ops [ oq 36 (.bin .eql (.t 8) (.v (.int .i64 1))),oq 35 (.mv (.t 36))]) (.cond (.t 35) (.ops [ oq 37 (.mv (.t 0)),oq 38 (.fa 1 (.t 3)),oq 39 (.ld none (.t 38)),oe 40 (.call 77 [(.t 39)]),oe 41 (.call 76 [(.t 37),(.t 40)])]) (.seq (.ops [ oq 43 (.bin .eql (.t 8) (.v (.int .i64 2))),oq 42 (.mv (.t 43))]) (.cond (.t 42) (.ops [ oq 44 (.mv (.t 0)),oq 45 (.fa 2 (.t 3)),oq 46 (.ld none (.t 45)),oe 47 (.call 78 [(.t 46)]),oe 48 (.call 76 [(.t 44),(.t 47)])]) (.seq (.ops [ oq 50 (.bin .eql (.t 8) (.v (.int .i64 3))),oq 49 (.mv (.t 50))]) (.cond (.t 49) (.ops [ oq 51 (.mv (.t 0)),oq 52 (.fa 1 (.t 3)),oq 53 (.ld none (.t 52)),oq 54 (.bin .neq (.t 53) (.v (.int .i64 0))),oe 55 (.call 79 [(.t 54)]),oe 56 (.call 76 [(.t 51),(.t 55)])]) (.seq (.ops [ oq 58 (.bin .eql (.t 8) (.v (.int .i64 4))),oq 57 (.mv (.t 58))]) (.cond (.t 57) (.ops [ oq 59 (.mv (.t 0)),oq 60 (.ld (some 12) (.t 3)),oe 61 (.call 80 [(.t 60)]),oe 62 (.call 76 [(.t 59),(.t 61)])]) (.seq (.ops [ oq 64 (.bin .eql (.t 8) (.v (.int .i64 5))),oq 63 (.mv (.t 64))]) (.cond (.t 63) (.ops [ oq 65 (.mv (.t 0)),oq 66 (.fa 3 (.t 3)),oq 67 (.ld (some 4) (.t 66)),oe 68 (.call 81 [(.t 67)]),oe 69 (.call 76 [(.t 65),(.t 68)])]) (.seq (.ops [ oq 71 (.bin .eql (.t 8) (.v (.int .i64 6))),oq 70 (.mv (.t 71))]) c48_67)))))))))))))
@[go_sem] def c48_43_wp:=wp_of c48_43.eq_1
@[go_sem] def c48_47_wp:=wp_of c48_47.eq_1
@[go_sem] def c48_67_wp:=wp_of c48_67.eq_1
@[go_sem] def c48_81_wp:=wp_of c48_81.eq_1
def c48:AFn:=⟨133,[],c48_81⟩
theorem c48_ok:compF Tryz.prog Tryz.f48=some c48:=by kernel_rfl
theorem a48 {args:List AV} {σ:ASt} {R:AV->ASt->Prop} (hl:args.length<=133) (h:c48_81.wp Tryz.prog (RetQ [] R) (init args) σ):ACalls Tryz.prog 48 args σ R:=acalls_of Tryz.func48 c48_ok hl h
/-! 84: tabular/expr.inside -/
def c84_12:ACode := .seq (.ops [ oe 4 (.box (.t 1))]) (.seq (.seq (.ops [ oq 6 (.fa 0 (.t 4)),oq 7 (.ld none (.t 6)),oe 8 (.call 85 [(.t 7)]),oq 9 (.mv (.t 2)),oq 10 (.bin .geq (.t 8) (.t 9))]) (.cond (.t 10) (.seq (.ops [ oq 11 (.mv (.t 0)),oq 12 (.ld (some 12) (.t 4)),oe 13 (.call 48 [(.t 11),(.t 12)])]) .ret) .skip)) (.seq (.ops [ oq 14 (.mv (.t 0)),oe 15 (.call 83 [(.t 14),(.v (.int .u8 40))])]) (.seq (.ops [ oq 16 (.mv (.t 0)),oq 17 (.ld (some 12) (.t 4)),oe 18 (.call 48 [(.t 16),(.t 17)])]) (.ops [ oq 19 (.mv (.t 0)),oe 20 (.call 83 [(.t 19),(.v (.int .u8 41))])]))))
@[go_sem] def c84_12_wp:=wp_of c84_12.eq_1
def c84:AFn:=⟨21,[],c84_12⟩
theorem c84_ok:compF Tryz.prog Tryz.f84=some c84:=by kernel_rfl
theorem a84 {args:List AV} {σ:ASt} {R:AV->ASt->Prop} (hl:args.length<=21) (h:c84_12.wp Tryz.prog (RetQ [] R) (init args) σ):ACalls Tryz.prog 84 args σ R:=acalls_of Tryz.func84 c84_ok hl h
end Go.A
namespace Go.A
open Go.Proofs Go.Lib
theorem BD.tab {σ0 σ:ASt} {b:Nat} {l:List UInt8} (h:BD σ0 b l σ) (hb:σ0 b=none) (hT:Tab σ0):Tab σ:=h.at (by intro e;unfold Tab at hT;rw [e,hb] at hT;cases hT) hT
theorem BD.maxL {σ0 σ:ASt} {b:Nat} {l:List UInt8} (h:BD σ0 b l σ) (hb:σ0 b=none) (hM:MaxL σ0):MaxL σ:=by
 obtain ⟨m,hm⟩:=hM
 exact ⟨m,h.at (by intro e;rw [e,hb] at hm;cases hm) hm⟩
theorem MaxL.set {σ:ASt} {b:Nat} {r:Option Role} (h:MaxL σ) (hb:σ b=none):MaxL (σ.set b r):=by
 obtain ⟨m,hm⟩:=h
 exact ⟨m,by rw [ASt.set_ne];exact hm;intro e;rw [e,hb] at hm;cases hm⟩
def SpellOk (n:Nd):Prop:=∀ (σ0 σ:ASt) (b:Nat) (l:List UInt8),BD σ0 b l σ->σ0 b=none->Tab σ0->MaxL σ0->l.length+n.spell.length<=900000000 →
  ACalls Tryz.prog 48 [.ptr b 0,n.av] σ fun v σ'=>v = .tuple []/\BD σ0 b (l++n.spell) σ'
theorem inside_ok {n:Nd} (hs:SpellOk n) (ho:1<=n.op/\n.op<=23) (least:Int) {σ0 σ:ASt} {b:Nat} {l:List UInt8} (h:BD σ0 b l σ) (hb:σ0 b=none) (hT:Tab σ0) (hM:MaxL σ0) (hl:l.length+(insT least n.op n.spell).length<=900000000) :
  ACalls Tryz.prog 84 [.ptr b 0,n.av,.int .i64 least] σ fun v σ'=>v = .tuple []/\BD σ0 b (l++insT least n.op n.spell) σ':=by
 have hL:=level_ok n.op (by omega) (by omega)
 have hS:∀ {σ0 σ:ASt} {b:Nat} {l:List UInt8},BD σ0 b l σ->σ0 b=none->Tab σ0->MaxL σ0->l.length+n.spell.length<=900000000 →
  ACalls Tryz.prog 48 [.ptr b 0,n.av] σ fun v σ'=>v = .tuple []/\BD σ0 b (l++n.spell) σ':=fun {_ _ _ _}=>hs _ _ _ _
 clear hs
 obtain ⟨op,m,s,a,d,kids⟩:=n
 rw [Nd.av_cs] at hS ⊢
 generalize (Nd.mk op m s a d kids).spell=t at *
 simp only [Nd.op] at hL hl ho ⊢
 generalize kids.map Nd.av=L at *
 refine a84 (by simp) ?_
 simp (disch:=first|assumption|omega) only [go_sem]
 refine boxC_by rfl fun c hc=>?_
 obtain ⟨hB,hcb,hc0⟩:=h.add hc (r := .obj (Nd.cs op m s a d L))
 have hb1:(σ0.set c (some (.obj (Nd.cs op m s a d L)))) b=none:=by rw [ASt.set_ne (Ne.symm hcb)];exact hb
 have hT1:=hT.set hc0 (r:=some (.obj (Nd.cs op m s a d L)))
 have hM1:=hM.set hc0 (r:=some (.obj (Nd.cs op m s a d L)))
 have hcell:∀ {l':List UInt8} {σ1:ASt},BD (σ0.set c (some (.obj (Nd.cs op m s a d L)))) b l' σ1->σ1 c=some (.obj (Nd.cs op m s a d L)):=fun h=>h.at hcb (ASt.set_same _ _ _)
 have hoff:∀ {l':List UInt8} {σ1:ASt},BD (σ0.set c (some (.obj (Nd.cs op m s a d L)))) b l' σ1->∃ σ',Drop σ1 σ'/\BD σ0 b l' σ':=fun h=>h.off hcb hc0
 have hc1:=hcell hB
 rw [cells_agg]
 generalize σ0.set c (some (.obj (Nd.cs op m s a d L)))=τ at hB hb1 hT1 hM1 hcell hoff
 generalize σ.set c (some (.obj (Nd.cs op m s a d L)))=σ1 at hB hc1 ⊢
 unfold insT at hl ⊢
 by_cases hlv:least<=levelP op
 ·rw [if_pos hlv] at hl ⊢
  generalize levelP op=lv at *
  simp (disch:=first|assumption|omega) only [go_sem,↓reduceIte,hc1]
  refine hL.use ?_
  simp (disch:=first|assumption|omega) only [go_sem,reduceCtorEq,Nat.reduceEqDiff,Nat.reduceLeDiff,↓reduceIte,hc1,hlv]
  refine (hS hB hb1 hT1 hM1 hl).mono ?_
  rintro v σ2 ⟨rfl,hB2⟩
  simp (disch:=first|assumption|omega) only [go_sem]
  obtain ⟨σ3,hd,hB3⟩:=hoff hB2
  exact retC_by hd (.refl _) ⟨rfl,hB3⟩
 ·rw [if_neg hlv] at hl ⊢
  generalize levelP op=lv at *
  simp only [List.length_append,List.length_cons,List.length_nil] at hl
  simp (disch:=first|assumption|omega) only [go_sem,↓reduceIte,hc1]
  refine hL.use ?_
  simp (disch:=first|assumption|omega) only [go_sem,reduceCtorEq,Nat.reduceEqDiff,↓reduceIte,hlv]
  refine (writeByte_ok hB 40 (by omega)).mono ?_
  rintro v σ2 ⟨rfl,hB2⟩
  have hc2:=hcell hB2
  simp (disch:=first|assumption|omega) only [go_sem,reduceCtorEq,Nat.reduceEqDiff,Nat.reduceLeDiff,↓reduceIte,hc2]
  refine (hS hB2 hb1 hT1 hM1 (by simp only [List.length_append,List.length_cons,List.length_nil];omega)).mono ?_
  rintro v σ3 ⟨rfl,hB3⟩
  simp (disch:=first|assumption|omega) only [go_sem,reduceCtorEq,↓reduceIte]
  refine (writeByte_ok hB3 41 (by simp only [List.length_append,List.length_cons,List.length_nil];omega)).mono ?_
  rintro v σ4 ⟨rfl,hB4⟩
  simp (disch:=first|assumption|omega) only [go_sem]
  obtain ⟨σ5,hd,hB5⟩:=hoff hB4
  refine retC_by hd (.refl _) ⟨rfl,?_⟩
  have e:l++40::(t ++ [41])=l ++ [40]++t ++ [41]:=by simp
  rw [e];exact hB5
theorem textD_ne (n:Int):textD n ≠ []:=by
 unfold textD
 have:=dd_len_pos (n.natAbs / 10000)
 intro h
 rw [List.append_eq_nil_iff,List.append_eq_nil_iff] at h
 exact this h.2.1
theorem failT_ne {n:Int} (h1:1<=n.tdiv 10000) (h2:n.tdiv 10000<=7):failT 4 n ≠ []:=by
 unfold failT
 generalize n.tdiv 10000=i at *
 rw [if_neg (by omega)]
 have hc:i=1\/i=2\/i=3\/i=4\/i=5\/i=6\/i=7:=by omega
 rcases hc with rfl|rfl|rfl|rfl|rfl|rfl|rfl<;>decide
theorem truthP_ne (b:Bool):truthP b ≠ []:=by cases b<;>decide
theorem joinC_snoc:∀ (L:List (Int×List UInt8)) (p:Int×List UInt8),L ≠ []->joinC (L ++ [p])=joinC L++44::p.2
 | [],p,h=>absurd rfl h
 | q::r,p,_=>by simp [joinC]
theorem joinC_take_le:∀ (L:List (Int×List UInt8)) (i:Nat),(joinC (L.take i)).length<=(joinC L).length
 | [],i=>by simp
 | q::r,0=>by simp [joinC]
 | q::r,i+1=>by
   rw [List.take_succ_cons]
   simp only [joinC,List.length_append]
   have:∀ (r:List (Int×List UInt8)) (i:Nat),((r.take i).flatMap fun q=>44::q.2).length<=(r.flatMap fun q=>44::q.2).length:=by
    intro r
    induction r with
    | nil=>intro i;simp
    | cons x r ih=>
      intro i
      cases i with
      | zero=>simp
      | succ i=>rw [List.take_succ_cons,List.flatMap_cons,List.flatMap_cons,List.length_append,List.length_append];have:=ih i;omega
   have:=this r i
   omega
theorem textP_ne {r:Ref} (h:r.good=true):textP r ≠ []:=by
 intro e
 have:=(text_len h).1
 rw [e] at this
 simp at this
theorem sign_len (k:Nat):(signL.getD k []).length<=2:=by
 unfold signL
 rcases k with _|_|_|_|_|_|_|_|_|_|_|_|k<;>simp
set_option maxHeartbeats 2000000 in
theorem spell_ok:∀ (k:Nat) (n:Nd),n.size<=k->n.ok->SpellOk n
 | 0,n,hk,_=>by have:=n.size_pos;omega
 | k+1,n,hk,hn=>by
   have ih:=spell_ok k
   intro σ0 σ b l h hb hT hM hl
   obtain ⟨op,m,s,a,d,kids⟩:=n
   rw [Nd.size] at hk
   rw [Nd.ok] at hn
   obtain ⟨⟨ho,g1,g2,g4,gc,g5,g6,g7,gb,gk⟩,hks⟩:=hn
   have hkid:∀ x∈kids,SpellOk x/\1<=x.op/\x.op<=23:=fun x hx=>by
    have h1:=Nd.size_kid hx
    have h2:=Nd.oks_mem.1 hks x hx
    refine ⟨ih x (by omega) h2,?_⟩
    obtain ⟨o',_,_,_,_,_⟩:=x
    rw [Nd.ok] at h2
    exact h2.1.1
   obtain ⟨w,hw⟩:∃ w,(Nd.mk op m s a d kids).spell=w:=⟨_,rfl⟩
   rw [hw] at hl ⊢
   rw [Nd.spell,Nd.spells_map] at hw
   unfold spellK at hw
   rw [Nd.av_cs]
   refine a48 (by simp) ?_
   simp (disch:=first|assumption|omega) only [go_sem]
   refine boxC_by rfl fun c hc=>?_
   obtain ⟨hB,hcb,hc0⟩:=h.add hc (r := .obj (Nd.cs op m s a d (kids.map Nd.av)))
   have hb1:(σ0.set c (some (.obj (Nd.cs op m s a d (kids.map Nd.av))))) b=none:=by rw [ASt.set_ne (Ne.symm hcb)];exact hb
   have hT1:=hT.set hc0 (r:=some (.obj (Nd.cs op m s a d (kids.map Nd.av))))
   have hM1:=hM.set hc0 (r:=some (.obj (Nd.cs op m s a d (kids.map Nd.av))))
   have hcell:∀ {l':List UInt8} {σ1:ASt},BD (σ0.set c (some (.obj (Nd.cs op m s a d (kids.map Nd.av))))) b l' σ1->σ1 c=some (.obj (Nd.cs op m s a d (kids.map Nd.av))):=fun h=>h.at hcb (ASt.set_same _ _ _)
   have hoff:∀ {l':List UInt8} {σ1:ASt},BD (σ0.set c (some (.obj (Nd.cs op m s a d (kids.map Nd.av))))) b l' σ1->∃ σ',Drop σ1 σ'/\BD σ0 b l' σ':=fun h=>h.off hcb hc0
   have hc1:=hcell hB
   rw [cells_agg]
   generalize σ0.set c (some (.obj (Nd.cs op m s a d (kids.map Nd.av))))=τ at hB hb1 hT1 hM1 hcell hoff
   generalize σ.set c (some (.obj (Nd.cs op m s a d (kids.map Nd.av))))=σ1 at hB hc1 ⊢
   have hT2:=BD.tab hB hb1 hT1
   have hM2:=BD.maxL hB hb1 hM1
   by_cases h1:op=1
   ·subst h1
    rw [if_pos rfl] at hw
    subst hw
    simp (disch:=first|assumption|omega) only [go_sem,reduceCtorEq,Nat.reduceEqDiff,↓reduceIte,hc1]
    refine (dtext_ok hT2 (g1 rfl)).mono ?_
    rintro v σ' ⟨rfl,rfl⟩
    simp (disch:=first|assumption|omega) only [go_sem,Nat.reduceEqDiff,↓reduceIte]
    refine (writes1_ok hB _ (textD_ne m) (by omega)).mono ?_
    rintro v σ2 ⟨rfl,hB2⟩
    simp (disch:=first|assumption|omega) only [go_sem]
    obtain ⟨σ3,hd,hB3⟩:=hoff hB2
    exact retC_by hd (.refl _) ⟨rfl,hB3⟩
   rw [if_neg h1] at hw
   by_cases h2:op=2
   ·subst h2
    rw [if_pos rfl] at hw
    have hQ2:=tquote_ok hM2 s (g2 rfl)
    have hQ:quotT s=34::dbl s ++ [34]:=rfl
    rw [hQ] at hw
    rw [hw] at hQ2
    have hwn:w ≠ []:=by rw [<-hw];simp
    simp (disch:=first|assumption|omega) only [go_sem,reduceCtorEq,Nat.reduceEqDiff,Int.reduceEq,↓reduceIte,hc1]
    refine hQ2.mono ?_
    rintro v σ' ⟨rfl,rfl⟩
    simp (disch:=first|assumption|omega) only [go_sem,Nat.reduceEqDiff,↓reduceIte]
    refine (writes1_ok hB _ hwn (by omega)).mono ?_
    rintro v σ2 ⟨rfl,hB2⟩
    simp (disch:=first|assumption|omega) only [go_sem]
    obtain ⟨σ3,hd,hB3⟩:=hoff hB2
    exact retC_by hd (.refl _) ⟨rfl,hB3⟩
   rw [if_neg h2] at hw
   by_cases h3:op=3
   ·subst h3
    rw [if_pos rfl] at hw
    have hQ:=truth_ok (!decide (m=0))
    have hwn:w ≠ []:=by rw [<-hw];exact truthP_ne _
    rw [hw] at hQ
    simp (disch:=first|assumption|omega) only [go_sem,reduceCtorEq,Nat.reduceEqDiff,Int.reduceEq,↓reduceIte,hc1]
    refine hQ.use ?_
    simp (disch:=first|assumption|omega) only [go_sem,Nat.reduceEqDiff,↓reduceIte]
    refine (writes1_ok hB _ hwn (by omega)).mono ?_
    rintro v σ2 ⟨rfl,hB2⟩
    simp (disch:=first|assumption|omega) only [go_sem]
    obtain ⟨σ3,hd,hB3⟩:=hoff hB2
    exact retC_by hd (.refl _) ⟨rfl,hB3⟩
   rw [if_neg h3] at hw
   by_cases h4:op=4
   ·subst h4
    rw [if_pos rfl] at hw
    obtain ⟨f1,f2⟩:=g4 rfl
    have hwn:w ≠ []:=by rw [<-hw];exact failT_ne f1 f2
    have hmb:m.natAbs<=999999999999999999:=by have:(m.tdiv 10000).natAbs=m.natAbs / 10000:=Int.natAbs_tdiv m 10000;omega
    have hQ:=failure_ok 4 m s a d kids hmb
    rw [Nd.av_cs,hw] at hQ
    simp (disch:=first|assumption|omega) only [go_sem,reduceCtorEq,Nat.reduceEqDiff,Nat.reduceLeDiff,Int.reduceEq,↓reduceIte,hc1]
    refine hQ.use ?_
    simp (disch:=first|assumption|omega) only [go_sem,Nat.reduceEqDiff,↓reduceIte]
    refine (writes1_ok hB _ hwn (by omega)).mono ?_
    rintro v σ2 ⟨rfl,hB2⟩
    simp (disch:=first|assumption|omega) only [go_sem]
    obtain ⟨σ3,hd,hB3⟩:=hoff hB2
    exact retC_by hd (.refl _) ⟨rfl,hB3⟩
   rw [if_neg h4] at hw
   by_cases h5:op=5
   ·subst h5
    rw [if_pos rfl] at hw
    have hQ:=text_ok hT2 (g5 (.inl rfl))
    have hwn:w ≠ []:=by rw [<-hw];exact textP_ne (g5 (.inl rfl))
    rw [hw] at hQ
    unfold refAV at hQ
    simp (disch:=first|assumption|omega) only [go_sem,reduceCtorEq,Nat.reduceEqDiff,Nat.reduceAdd,Nat.reduceLeDiff,Int.reduceEq,↓reduceIte,hc1]
    refine hQ.mono ?_
    rintro v σ' ⟨rfl,rfl⟩
    simp (disch:=first|assumption|omega) only [go_sem,Nat.reduceEqDiff,↓reduceIte]
    refine (writes1_ok hB _ hwn (by omega)).mono ?_
    rintro v σ2 ⟨rfl,hB2⟩
    simp (disch:=first|assumption|omega) only [go_sem]
    obtain ⟨σ3,hd,hB3⟩:=hoff hB2
    exact retC_by hd (.refl _) ⟨rfl,hB3⟩
   rw [if_neg h5] at hw
   by_cases h6:op=6
   ·subst h6
    rw [if_pos rfl] at hw
    have hQ:=atext_ok hT2 (g5 (.inr rfl)) (g6 rfl)
    have hwn:w ≠ []:=by rw [<-hw];simp
    rw [hw] at hQ
    unfold areaAV at hQ
    simp (disch:=first|assumption|omega) only [go_sem,reduceCtorEq,Nat.reduceEqDiff,Nat.reduceAdd,Nat.reduceLeDiff,Int.reduceEq,↓reduceIte,hc1]
    refine hQ.mono ?_
    rintro v σ' ⟨rfl,rfl⟩
    simp (disch:=first|assumption|omega) only [go_sem,Nat.reduceEqDiff,↓reduceIte]
    refine (writes1_ok hB _ hwn (by omega)).mono ?_
    rintro v σ2 ⟨rfl,hB2⟩
    simp (disch:=first|assumption|omega) only [go_sem]
    obtain ⟨σ3,hd,hB3⟩:=hoff hB2
    exact retC_by hd (.refl _) ⟨rfl,hB3⟩
   rw [if_neg h6] at hw
   by_cases h7:op=7\/op=8
   ·rw [if_pos h7] at hw
    obtain ⟨x,ks,rfl⟩:∃ x ks,kids=x::ks:=by
     cases kids with
     | nil=>have:=g7 (by omega);simp at this
     | cons x ks=>exact ⟨x,ks,rfl⟩
    obtain ⟨i1,i2⟩:=hkid x (by simp)
    have hI:=fun l' σ' (hB:BD τ b l' σ') hl'=>inside_ok i1 i2 6 hB hb1 hT1 hM1 hl'
    simp only [List.map_cons,List.getD_cons_zero] at hw
    generalize insT 6 x.op x.spell=t at *
    obtain ⟨xo,xm,xs,xa,xb,xk⟩:=x
    simp only [List.map_cons] at hcell hc1 ⊢
    rw [Nd.av_cs] at hI
    simp only [Nd.av_cs] at hcell hc1 ⊢
    generalize ks.map Nd.av=K at *
    rcases h7 with rfl|rfl
    ·simp only [if_true] at hw
     subst hw
     simp only [List.length_cons] at hl
     simp (disch:=first|assumption|omega) only [go_sem,reduceCtorEq,Nat.reduceEqDiff,Int.reduceEq,↓reduceIte,Int.reduceSub,hc1]
     refine (writeByte_ok hB 45 (by omega)).mono ?_
     rintro v σ2 ⟨rfl,hB2⟩
     have hc2:=hcell hB2
     simp (disch:=first|assumption|omega) only [go_sem,reduceCtorEq,Nat.reduceEqDiff,Nat.reduceLeDiff,↓reduceIte,hc2]
     refine (hI _ _ hB2 (by simp only [List.length_append,List.length_cons,List.length_nil];omega)).mono ?_
     rintro v σ3 ⟨rfl,hB3⟩
     simp (disch:=first|assumption|omega) only [go_sem]
     obtain ⟨σ4,hd,hB4⟩:=hoff hB3
     refine retC_by hd (.refl _) ⟨rfl,?_⟩
     have e:l++45::t=l ++ [45]++t:=by simp
     rw [e];exact hB4
    ·rw [if_neg (by decide)] at hw
     subst hw
     simp only [List.length_cons] at hl
     simp (disch:=first|assumption|omega) only [go_sem,reduceCtorEq,Nat.reduceEqDiff,Int.reduceEq,↓reduceIte,Int.reduceSub,Int.reduceToNat,hc1]
     refine (writeByte_ok hB 43 (by omega)).mono ?_
     rintro v σ2 ⟨rfl,hB2⟩
     have hc2:=hcell hB2
     simp (disch:=first|assumption|omega) only [go_sem,reduceCtorEq,Nat.reduceEqDiff,Nat.reduceLeDiff,↓reduceIte,hc2]
     refine (hI _ _ hB2 (by simp only [List.length_append,List.length_cons,List.length_nil];omega)).mono ?_
     rintro v σ3 ⟨rfl,hB3⟩
     simp (disch:=first|assumption|omega) only [go_sem]
     obtain ⟨σ4,hd,hB4⟩:=hoff hB3
     refine retC_by hd (.refl _) ⟨rfl,?_⟩
     have e:l++43::t=l ++ [43]++t:=by simp
     rw [e];exact hB4
   rw [if_neg h7] at hw
   have h7a:op≠7:=by omega
   have h7b:op≠8:=by omega
   by_cases h9:op=9
   ·subst h9
    rw [if_pos rfl] at hw
    obtain ⟨x,ks,rfl⟩:∃ x ks,kids=x::ks:=by
     cases kids with
     | nil=>have:=g7 (by omega);simp at this
     | cons x ks=>exact ⟨x,ks,rfl⟩
    obtain ⟨i1,i2⟩:=hkid x (by simp)
    have hI:=fun l' σ' (hB:BD τ b l' σ') hl'=>inside_ok i1 i2 7 hB hb1 hT1 hM1 hl'
    simp only [List.map_cons,List.getD_cons_zero] at hw
    generalize insT 7 x.op x.spell=t at *
    obtain ⟨xo,xm,xs,xa,xb,xk⟩:=x
    rw [Nd.av_cs] at hI
    simp only [List.map_cons,Nd.av_cs] at hcell hc1 ⊢
    generalize ks.map Nd.av=K at *
    subst hw
    simp only [List.length_append,List.length_cons,List.length_nil] at hl
    simp (disch:=first|assumption|omega) only [go_sem,reduceCtorEq,Nat.reduceEqDiff,Nat.reduceLeDiff,Int.reduceEq,↓reduceIte,hc1]
    refine (hI _ _ hB (by omega)).mono ?_
    rintro v σ2 ⟨rfl,hB2⟩
    simp (disch:=first|assumption|omega) only [go_sem,reduceCtorEq,↓reduceIte]
    refine (writeByte_ok hB2 37 (by simp only [List.length_append];omega)).mono ?_
    rintro v σ3 ⟨rfl,hB3⟩
    simp (disch:=first|assumption|omega) only [go_sem]
    obtain ⟨σ4,hd,hB4⟩:=hoff hB3
    refine retC_by hd (.refl _) ⟨rfl,?_⟩
    rw [<-List.append_assoc];exact hB4
   rw [if_neg h9] at hw
   by_cases h22:op=22
   ·subst h22
    rw [if_pos rfl] at hw
    have hsn:=gc rfl
    have hjt:=joinC_take_le (kids.map fun x=>(x.op,x.spell))
    have hspl:∀ (i:Nat) (x:Nd),kids[i]? = some x->(kids.map fun x=>(x.op,x.spell)).take (i+1)=(kids.map fun x=>(x.op,x.spell)).take i ++ [(x.op,x.spell)]:=by
     intro i x hx
     have hlt:i<kids.length:=(List.getElem?_eq_some_iff.1 hx).1
     rw [List.take_add_one,List.getElem?_map,hx]
     rfl
    have hspn:∀ i,0<i->i<kids.length->(kids.map fun x=>(x.op,x.spell)).take i ≠ []:=by
     intro i h0 h1 e
     have:=congrArg List.length e
     rw [List.length_take,List.length_map,List.length_nil] at this
     omega
    have hspa:(kids.map fun x=>(x.op,x.spell)).take kids.length=kids.map fun x=>(x.op,x.spell):=List.take_of_length_le (by simp)
    have hspz:joinC ((kids.map fun x=>(x.op,x.spell)).take 0) = []:=rfl
    generalize (kids.map fun x=>(x.op,x.spell))=sp at *
    subst hw
    simp only [List.length_append,List.length_cons,List.length_nil] at hl
    simp (disch:=first|assumption|omega) only [go_sem,reduceCtorEq,Nat.reduceEqDiff,Int.reduceEq,↓reduceIte,hc1]
    refine (writes1_ok hB _ hsn (by omega)).mono ?_
    rintro v σ2 ⟨rfl,hB2⟩
    simp (disch:=first|assumption|omega) only [go_sem,reduceCtorEq,↓reduceIte]
    refine (writeByte_ok hB2 40 (by simp only [List.length_append];omega)).mono ?_
    rintro v σ3 ⟨rfl,hB3⟩
    have hc3:=hcell hB3
    obtain ⟨G,hG⟩:∃ G,G=ACode.wp Tryz.prog c48_47:=⟨_,rfl⟩
    simp (disch:=first|assumption|omega) only [go_sem,Nat.reduceEqDiff,↓reduceIte,hc3,←hG]
    refine wp_loop_by (fun (i:Nat) a1 s2=>i<=kids.length/\(a1 0 = .ptr b 0/\a1 114 = .sl .shr (kids.map Nd.av)/\a1 115 = .int .i64 kids.length/\a1 116 = .int .i64 i)/\BD τ b (l++s ++ [40]++joinC (sp.take i)) s2) (fun i=>kids.length-i) 0 (Dr.now ⟨Nat.zero_le _,?_,?_⟩) ?_
    ·simp (disch:=first|assumption|omega) only [go_sem,reduceCtorEq,Nat.reduceEqDiff,↓reduceIte]
    ·rw [hspz,List.append_nil];exact hB3
    rintro i a1 s2 ⟨hi,hf,hBi⟩
    have hji:=hjt i
    by_cases hlt:i<kids.length
    ·have hlt':(i:Int)<kids.length:=by omega
     have hx : kids[i]? = some (kids[i]'hlt) := List.getElem?_eq_getElem hlt
     obtain ⟨x, hxe⟩ : ∃ x, kids[i]'hlt = x := ⟨_, rfl⟩
     rw [hxe] at hx
     have hmx:=Nd.get hx
     have hspx:=hspl i x hx
     have hjs:=hjt (i+1)
     obtain ⟨i1,i2⟩:=hkid x (List.mem_of_getElem? hx)
     obtain ⟨xo,xm,xs,xa,xb,xk⟩:=x
     rw [Nd.av_cs] at hmx
     have i1':∀ (σ0 σ:ASt) (b:Nat) (l:List UInt8),BD σ0 b l σ->σ0 b=none->Tab σ0->MaxL σ0->l.length+(Nd.mk xo xm xs xa xb xk).spell.length<=900000000 →
       ACalls Tryz.prog 48 [.ptr b 0,.agg (Nd.cs xo xm xs xa xb (xk.map Nd.av))] σ fun v σ'=>v = .tuple []/\BD σ0 b (l++(Nd.mk xo xm xs xa xb xk).spell) σ':=by rw [<-Nd.av_cs];exact i1
     generalize hxw:(Nd.mk xo xm xs xa xb xk).spell=xw at *
     generalize xk.map Nd.av=K at *
     generalize kids.map Nd.av=L at *
     simp (disch:=first|assumption|omega) only [go_sem,Nat.reduceEqDiff,Nat.reduceLeDiff,↓reduceIte,hf,hlt',hmx]
     refine allocC_by fun e he=>?_
     obtain ⟨hBe,heb,he0⟩:=hBi.add he (r := .obj (Nd.cs xo xm xs xa xb K))
     have hbe:(τ.set e (some (.obj (Nd.cs xo xm xs xa xb K)))) b=none:=by rw [ASt.set_ne (Ne.symm heb)];exact hb1
     have hTe:=hT1.set he0 (r:=some (.obj (Nd.cs xo xm xs xa xb K)))
     have hMe:=hM1.set he0 (r:=some (.obj (Nd.cs xo xm xs xa xb K)))
     have hcelle:∀ {l':List UInt8} {σ1:ASt},BD (τ.set e (some (.obj (Nd.cs xo xm xs xa xb K)))) b l' σ1->σ1 e=some (.obj (Nd.cs xo xm xs xa xb K)):=fun h=>h.at heb (ASt.set_same _ _ _)
     have hoffe:∀ {l':List UInt8} {σ1:ASt},BD (τ.set e (some (.obj (Nd.cs xo xm xs xa xb K)))) b l' σ1->∃ σ',Drop σ1 σ'/\BD τ b l' σ':=fun h=>h.off heb he0
     have hce:=hcelle hBe
     by_cases h0:i=0
     ·subst h0
      have hz:((0:Nat):Int)=0:=rfl
      have hj1:joinC (sp.take (0+1))=xw:=by rw [hspx];simp [joinC]
      rw [hj1] at hjs
      rw [hspz,List.append_nil] at hBe
      simp (disch:=first|assumption|omega) only [go_sem,reduceCtorEq,Nat.reduceEqDiff,Nat.reduceAdd,Nat.reduceLeDiff,Int.reduceLT,↓reduceIte,hf,hz,ASt.set_set,hce]
      refine (i1' _ _ _ _ hBe hbe hTe hMe (by simp only [List.length_append,List.length_cons,List.length_nil];omega)).mono ?_
      rintro v σ4 ⟨rfl,hB4⟩
      simp (disch:=first|assumption|omega) only [go_sem,Nat.reduceEqDiff,↓reduceIte,Int.reduceAdd,hf]
      obtain ⟨σ5,hd,hB5⟩:=hoffe hB4
      refine ⟨0+1,by dsimp only;omega,Dr.drop hd ⟨by omega,?_,?_⟩⟩
      ·simp (disch:=first|assumption|omega) only [go_sem,reduceCtorEq,Nat.reduceEqDiff,↓reduceIte,hf]
      ·rw [hj1];exact hB5
     ·have h0':(0:Int)<i:=by omega
      have hj1:joinC (sp.take (i+1))=joinC (sp.take i)++44::xw:=by rw [hspx,joinC_snoc _ _ (hspn i (by omega) hlt)]
      rw [hj1] at hjs
      simp only [List.length_append,List.length_cons] at hjs
      simp (disch:=first|assumption|omega) only [go_sem,reduceCtorEq,Nat.reduceEqDiff,Nat.reduceAdd,Nat.reduceLeDiff,↓reduceIte,hf,h0',ASt.set_set]
      refine (writeByte_ok hBe 44 (by simp only [List.length_append,List.length_cons,List.length_nil];omega)).mono ?_
      rintro v σ4 ⟨rfl,hB4⟩
      have hc4:=hcelle hB4
      simp (disch:=first|assumption|omega) only [go_sem,reduceCtorEq,Nat.reduceEqDiff,Nat.reduceLeDiff,↓reduceIte,hf,hc4]
      refine (i1' _ _ _ _ hB4 hbe hTe hMe (by simp only [List.length_append,List.length_cons,List.length_nil];omega)).mono ?_
      rintro v σ5 ⟨rfl,hB5⟩
      simp (disch:=first|assumption|omega) only [go_sem,Nat.reduceEqDiff,↓reduceIte,hf]
      obtain ⟨σ6,hd,hB6⟩:=hoffe hB5
      refine ⟨i+1,by dsimp only;omega,Dr.drop hd ⟨by omega,?_,?_⟩⟩
      ·simp (disch:=first|assumption|omega) only [go_sem,reduceCtorEq,Nat.reduceEqDiff,↓reduceIte,hf]
      ·have e2:l++s ++ [40]++joinC (sp.take (i+1))=l++s ++ [40]++joinC (sp.take i) ++ [44]++xw:=by rw [hj1];simp
       rw [e2];exact hB6
    ·have hlt':¬ (i:Int)<kids.length:=by omega
     have hie:i=kids.length:=by omega
     rw [hie,hspa] at hBi
     simp (disch:=first|assumption|omega) only [go_sem,↓reduceIte,hf,hlt']
     rw [hG]
     simp (disch:=first|assumption|omega) only [go_sem,reduceCtorEq,↓reduceIte,hf]
     refine (writeByte_ok hBi 41 (by simp only [List.length_append,List.length_cons,List.length_nil];omega)).mono ?_
     rintro v σ4 ⟨rfl,hB4⟩
     simp (disch:=first|assumption|omega) only [go_sem]
     obtain ⟨σ5,hd,hB5⟩:=hoff hB4
     refine retC_by hd (.refl _) ⟨rfl,?_⟩
     have e2:l++(s++40::(joinC sp ++ [41]))=l++s ++ [40]++joinC sp ++ [41]:=by simp
     first
      | (rw [e2];exact hB5)
      | (have e3:l++(s++40::joinC sp ++ [41])=l++s ++ [40]++joinC sp ++ [41]:=by simp
         rw [e3];exact hB5)
   rw [if_neg h22] at hw
   by_cases h23:op=23
   ·subst h23
    rw [if_pos rfl] at hw
    subst hw
    simp (disch:=first|assumption|omega) only [go_sem,Nat.reduceEqDiff,Int.reduceEq,↓reduceIte,hc1]
    obtain ⟨σ3,hd,hB3⟩:=hoff hB
    exact retC_by hd (.refl _) ⟨rfl,hB3⟩
   rw [if_neg h23] at hw
   obtain ⟨x,y,ks,rfl⟩:∃ x y ks,kids=x::y::ks:=by
    have:=gb (by omega)
    match kids,this with
    | x::y::ks,_=>exact ⟨x,y,ks,rfl⟩
   obtain ⟨i1,i2⟩:=hkid x (by simp)
   obtain ⟨j1,j2⟩:=hkid y (by simp)
   have hI:=fun l' σ' (hB:BD τ b l' σ') hl'=>inside_ok i1 i2 (levelP op) hB hb1 hT1 hM1 hl'
   have hJ:=fun l' σ' (hB:BD τ b l' σ') hl'=>inside_ok j1 j2 (levelP op+1) hB hb1 hT1 hM1 hl'
   have hLv:=level_ok op (by omega) (by omega)
   have hlb:0<=levelP op/\levelP op<=8:=by unfold levelP;repeat' split
                                           all_goals omega
   simp only [List.map_cons,List.getD_cons_zero,List.getD_cons_succ] at hw
   generalize insT (levelP op) x.op x.spell=t at *
   generalize insT (levelP op+1) y.op y.spell=u at *
   generalize levelP op=lv at *
   obtain ⟨xo,xm,xs,xa,xb,xk⟩:=x
   obtain ⟨yo,ym,ys,ya,yb,yk⟩:=y
   rw [Nd.av_cs] at hI hJ
   simp only [List.map_cons,Nd.av_cs] at hcell hc1 ⊢
   generalize ks.map Nd.av=K at *
   obtain ⟨j,hj⟩:∃ j:Nat,op=j+10:=⟨(op-10).toNat,by omega⟩
   have hj2:(op-10).toNat=j:=by omega
   have hj3:op-10=(j:Int):=by omega
   rw [hj2] at hw
   have hjl:j<12:=by omega
   obtain ⟨sg, hsg⟩ : ∃ sg, signL[j]? = some sg := ⟨signL[j]'(by simp [signL]; omega), List.getElem?_eq_getElem _⟩
   have hsg2:signL.getD j []=sg:=by rw [List.getD_eq_getElem?_getD,hsg];rfl
   have hsl:=sign_len j
   have hsn:sg ≠ []:=by
    have:∀ j<12,signL.getD j [] ≠ []:=by decide
    rw [<-hsg2];exact this j hjl
   rw [hsg2] at hw hsl
   have hmg:(signL.map AV.str)[j]? = some (.str sg):=by rw [List.getElem?_map,hsg];rfl
   have hSg:=esigns_ok
   generalize signL.map AV.str=SL at *
   subst hw
   simp only [List.length_append] at hl
   simp (disch:=first|assumption|omega) only [go_sem,Nat.reduceEqDiff,↓reduceIte,hc1,h1,h2,h3,h4,h5,h6,h7a,h7b,h9,h22,h23]
   refine hLv.use ?_
   simp (disch:=first|assumption|omega) only [go_sem,reduceCtorEq,Nat.reduceEqDiff,Nat.reduceLeDiff,↓reduceIte,hc1]
   refine (hI _ _ hB (by omega)).mono ?_
   rintro v σ2 ⟨rfl,hB2⟩
   have hc2:=hcell hB2
   simp (disch:=first|assumption|omega) only [go_sem,reduceCtorEq,Nat.reduceEqDiff,↓reduceIte,hc2]
   refine hSg.use ?_
   simp (disch:=first|assumption|omega) only [go_sem,Nat.reduceEqDiff,↓reduceIte,hc2,hj3,hmg]
   refine (writes1_ok hB2 _ hsn (by simp only [List.length_append];omega)).mono ?_
   rintro v σ3 ⟨rfl,hB3⟩
   have hc3:=hcell hB3
   simp (disch:=first|assumption|omega) only [go_sem,reduceCtorEq,Nat.reduceEqDiff,Nat.reduceLeDiff,↓reduceIte,Int.reduceToNat,hc3]
   refine (hJ _ _ hB3 (by simp only [List.length_append];omega)).mono ?_
   rintro v σ4 ⟨rfl,hB4⟩
   simp (disch:=first|assumption|omega) only [go_sem]
   obtain ⟨σ5,hd,hB5⟩:=hoff hB4
   refine retC_by hd (.refl _) ⟨rfl,?_⟩
   have e:l++(t++(sg++u))=l++t++sg++u:=by simp
   first
    | (rw [e];exact hB5)
    | (rw [<-List.append_assoc,← List.append_assoc];exact hB5)
end Go.A
namespace Go.A
open Go.Proofs
/-! 21: tabular/expr.Print -/
def c21_7:ACode := .seq (.ops [ oe 1 (.box (.t 0)),oq 2 (.mv (.v (.str [])))]) (.seq (.ops [ oe 3 (.allocT 100)]) (.seq (.ops [ oq 4 (.ld (some 12) (.t 1)),oe 5 (.call 48 [(.t 3),(.t 4)])]) (.seq (.ops [ oe 6 (.call 49 [(.t 3)]),oq 2 (.mv (.t 6))]) .ret)))
@[go_sem] def c21_7_wp:=wp_of c21_7.eq_1
def c21:AFn:=⟨7,[.t 2],c21_7⟩
theorem c21_ok:compF Tryz.prog Tryz.f21=some c21:=by kernel_rfl
theorem a21 {args:List AV} {σ:ASt} {R:AV->ASt->Prop} (hl:args.length<=7) (h:c21_7.wp Tryz.prog (RetQ [.t 2] R) (init args) σ):ACalls Tryz.prog 21 args σ R:=acalls_of Tryz.func21 c21_ok hl h
end Go.A
namespace Go.A
open Go.Proofs Go.Lib
theorem print_ok {σ:ASt} (hT:Tab σ) (hM:MaxL σ) (n:Nd) (hn:n.ok) (hl:n.spell.length<=900000000):ACalls Tryz.prog 21 [n.av] σ fun v σ'=>v = .str n.spell/\σ'=σ:=by
 have hS:=spell_ok n.size n (Nat.le_refl _) hn
 obtain ⟨op,m,s,a,d,kids⟩:=n
 unfold SpellOk at hS
 rw [Nd.av_cs] at hS ⊢
 generalize (Nd.mk op m s a d kids).spell=w at *
 generalize kids.map Nd.av=L at *
 refine a21 (by simp) ?_
 simp (disch:=first|assumption|omega) only [go_sem]
 refine boxC_by rfl fun c hc=>?_
 simp (disch:=first|assumption|omega) only [go_sem]
 refine allocTC_by fun b hb=>?_
 have hbb:=hb
 obtain ⟨n1,n2,n3⟩:=set_none hb
 have hB:BD (σ.set c (some (.obj (Nd.cs op m s a d L)))) b [] ((σ.set c (some (.obj (Nd.cs op m s a d L)))).set b (some (.typ 100 [.pointer none,.slice none 0 0]))) := .inl ⟨rfl,rfl⟩
 have hT1:=hT.set hc (r:=some (.obj (Nd.cs op m s a d L)))
 have hM1:=hM.set hc (r:=some (.obj (Nd.cs op m s a d L)))
 simp (disch:=first|assumption|omega) only [go_sem,Nat.reduceEqDiff,Nat.reduceLeDiff,↓reduceIte]
 refine (hS _ _ _ _ hB hbb hT1 hM1 (by simp only [List.length_nil];omega)).mono ?_
 rintro v σ1 ⟨rfl,hB1⟩
 rw [List.nil_append] at hB1
 simp (disch:=first|assumption|omega) only [go_sem,Nat.reduceEqDiff,↓reduceIte]
 refine (bstring_ok hB1 (by omega)).mono ?_
 rintro v σ2 ⟨rfl,rfl⟩
 simp (disch:=first|assumption|omega) only [go_sem,↓reduceIte]
 exact retC_by ((hB1.over hbb).drop.trans (Drop.set hc)) (.refl _) ⟨rfl,rfl⟩
theorem SDrop.cong {σ σ':ASt} {b:Nat} {c d:List AV} (h:SDrop σ σ') (he:Go.A.deeps c=d):SDrop (σ.set b (some (.obj c))) (σ'.set b (some (.obj d))):=fun x=>by
 by_cases hx:x=b
 ·subst hx
  exact .inr (.inr ⟨c,by rw [ASt.set_same],by rw [ASt.set_same,he]⟩)
 ·rw [ASt.set_ne hx,ASt.set_ne hx]
  exact h x
theorem set_mid {σ:ASt} {b c:Nat} {X Y Z:Option Role} (h:b≠c):((σ.set b X).set c Y).set b Z=(σ.set b Z).set c Y:=by
 funext x
 simp only [ASt.set]
 by_cases h1:x=b
 ·subst h1;simp [h]
 ·simp [h1]
end Go.A
namespace Go.A
open Go.Proofs
/-! 10: tabular/expr.Same -/
def c10_3:ACode := .seq (.ops [ oe 2 (.box (.t 0)),oe 3 (.box (.t 1)),oq 4 (.mv (.v (.bool false)))]) (.seq (.ops [ oq 5 (.fa 0 (.t 2)),oq 6 (.ld none (.t 5)),oq 7 (.fa 0 (.t 3)),oq 8 (.ld none (.t 7)),oq 9 (.bin .eql (.t 6) (.t 8)),oq 10 (.mv (.t 9)),⟨some 11,some (10,true),.q (.fa 1 (.t 2)),[]⟩,⟨some 12,some (10,true),.q (.ld none (.t 11)),[]⟩,⟨some 13,some (10,true),.q (.fa 1 (.t 3)),[]⟩,⟨some 14,some (10,true),.q (.ld none (.t 13)),[]⟩,⟨some 15,some (10,true),.q (.bin .eql (.t 12) (.t 14)),[]⟩,oq 16 (.pick (.t 10) (.t 15) (.v (.bool false))),oq 17 (.mv (.t 16)),⟨some 18,some (17,true),.q (.fa 2 (.t 2)),[]⟩,⟨some 19,some (17,true),.q (.ld none (.t 18)),[]⟩,⟨some 20,some (17,true),.q (.fa 2 (.t 3)),[]⟩,⟨some 21,some (17,true),.q (.ld none (.t 20)),[]⟩,⟨some 22,some (17,true),.q (.bin .eql (.t 19) (.t 21)),[]⟩,oq 23 (.pick (.t 17) (.t 22) (.v (.bool false))),oq 24 (.mv (.t 23)),⟨some 25,some (24,true),.q (.fa 3 (.t 2)),[]⟩,⟨some 26,some (24,true),.q (.ld (some 4) (.t 25)),[]⟩,⟨some 27,some (24,true),.q (.fa 3 (.t 3)),[]⟩,⟨some 28,some (24,true),.q (.ld (some 4) (.t 27)),[]⟩,⟨some 29,some (24,true),.q (.eqs false [(0,0),(1,0),(2,1),(3,1)] (.t 26) (.t 28)),[]⟩,oq 30 (.pick (.t 24) (.t 29) (.v (.bool false))),oq 31 (.mv (.t 30)),⟨some 32,some (31,true),.q (.fa 7 (.t 2)),[]⟩,⟨some 33,some (31,true),.q (.ld (some 4) (.t 32)),[]⟩,⟨some 34,some (31,true),.q (.fa 7 (.t 3)),[]⟩,⟨some 35,some (31,true),.q (.ld (some 4) (.t 34)),[]⟩,⟨some 36,some (31,true),.q (.eqs false [(0,0),(1,0),(2,1),(3,1)] (.t 33) (.t 35)),[]⟩,oq 37 (.pick (.t 31) (.t 36) (.v (.bool false))),oq 38 (.mv (.t 37)),⟨some 39,some (38,true),.q (.fa 11 (.t 2)),[]⟩,⟨some 40,some (38,true),.q (.ld none (.t 39)),[]⟩,⟨some 41,some (38,true),.q (.fa 11 (.t 3)),[]⟩,⟨some 42,some (38,true),.q (.ld none (.t 41)),[]⟩,⟨some 43,some (38,true),.e (.call 36 [(.t 40),(.t 42),(.v (.func (.func 10) [] []))]),[]⟩,oq 44 (.pick (.t 38) (.t 43) (.v (.bool false))),oq 4 (.mv (.t 44))]) .ret)
@[go_sem] def c10_3_wp:=wp_of c10_3.eq_1
def c10:AFn:=⟨45,[.t 4],c10_3⟩
theorem c10_ok:compF Tryz.prog Tryz.f10=some c10:=by kernel_rfl
theorem a10 {args:List AV} {σ:ASt} {R:AV->ASt->Prop} (hl:args.length<=45) (h:c10_3.wp Tryz.prog (RetQ [.t 4] R) (init args) σ):ACalls Tryz.prog 10 args σ R:=acalls_of Tryz.func10 c10_ok hl h
/-! 36: slices.EqualFunc[[]tabular/expr.Node,[]tabular/expr.Node,tabular/expr.Node,tabular/expr.Node] -/
def c36_22:ACode := .seq (.ops [ oq 18 (.bin .lss (.t 17) (.t 16))]) (.seq (.cond (.t 18) .skip (.exit 0)) (.seq (.block 1 (.seq (.ops [ oq 19 (.mv (.t 17)),oq 20 (.ia 12 (.t 15) (.t 17)),oq 21 (.ld (some 12) (.t 20)),oe 8 (.alloc [(.int .i64 0),(.int .i64 0),(.str []),(.int .i64 0),(.int .i64 0),(.bool false),(.bool false),(.int .i64 0),(.int .i64 0),(.bool false),(.bool false),(.sl .full [])]),oq 7 (.mv (.t 19)),oz (.store 12 (.t 8) (.t 21))]) (.seq (.ops [ oq 22 (.mv (.t 1)),oq 23 (.mv (.t 7)),oq 24 (.ia 12 (.t 22) (.t 23)),oq 25 (.ld (some 12) (.t 24)),oe 9 (.alloc [(.int .i64 0),(.int .i64 0),(.str []),(.int .i64 0),(.int .i64 0),(.bool false),(.bool false),(.int .i64 0),(.int .i64 0),(.bool false),(.bool false),(.sl .full [])]),oz (.store 12 (.t 9) (.t 25))]) (.seq (.ops [ oq 26 (.mv (.t 2)),oq 27 (.ld (some 12) (.t 8)),oq 28 (.ld (some 12) (.t 9)),oe 29 (.callv (.t 26) [(.t 27),(.t 28)]),oq 30 (.un .not (.t 29))]) (.cond (.t 30) (.seq (.ops [ oq 6 (.mv (.v (.bool false)))]) .ret) .skip))))) (.ops [ oq 31 (.bin .add (.t 17) (.v (.int .i64 1))),oq 17 (.mv (.t 31))])))
def c36_30:ACode := .seq (.ops [ oq 6 (.mv (.v (.bool false)))]) (.seq (.seq (.ops [ oq 10 (.mv (.t 0)),oq 11 (.len (.t 10)),oq 12 (.mv (.t 1)),oq 13 (.len (.t 12)),oq 14 (.bin .neq (.t 11) (.t 13))]) (.cond (.t 14) (.seq (.ops [ oq 6 (.mv (.v (.bool false)))]) .ret) .skip)) (.seq (.seq (.ops [ oq 15 (.mv (.t 0)),oq 16 (.len (.t 15)),oq 17 (.mv (.v (.int .i64 0)))]) (.block 0 (.loop c36_22))) (.seq (.ops [ oq 6 (.mv (.v (.bool true)))]) .ret)))
@[go_sem] def c36_22_wp:=wp_of c36_22.eq_1
@[go_sem] def c36_30_wp:=wp_of c36_30.eq_1
def c36:AFn:=⟨32,[.t 6],c36_30⟩
theorem c36_ok:compF Tryz.prog Tryz.f36=some c36:=by kernel_rfl
theorem a36 {args:List AV} {σ:ASt} {R:AV->ASt->Prop} (hl:args.length<=32) (h:c36_30.wp Tryz.prog (RetQ [.t 6] R) (init args) σ):ACalls Tryz.prog 36 args σ R:=acalls_of Tryz.func36 c36_ok hl h
/-! 37: tabular/expr.Map -/
def c37_18:ACode := .seq (.ops [ oq 31 (.bin .lss (.t 30) (.t 29))]) (.seq (.cond (.t 31) .skip (.exit 0)) (.seq (.block 1 (.seq (.ops [ oq 32 (.mv (.t 30)),oq 33 (.ia 12 (.t 28) (.t 30)),oq 34 (.ld (some 12) (.t 33)),oe 7 (.alloc [(.int .i64 0),(.int .i64 0),(.str []),(.int .i64 0),(.int .i64 0),(.bool false),(.bool false),(.int .i64 0),(.int .i64 0),(.bool false),(.bool false),(.sl .full [])]),oq 6 (.mv (.t 32)),oz (.store 12 (.t 7) (.t 34))]) (.ops [ oq 35 (.mv (.t 5)),oq 36 (.mv (.t 6)),oq 37 (.ld (some 12) (.t 7)),oq 38 (.mv (.t 1)),oe 39 (.call 37 [(.t 37),(.t 38)]),oq 40 (.ia 12 (.t 35) (.t 36)),oz (.store 12 (.t 40) (.t 39))]))) (.ops [ oq 41 (.bin .add (.t 30) (.v (.int .i64 1))),oq 30 (.mv (.t 41))])))
def c37_22:ACode := .ops [ oq 42 (.mv (.t 5)),oq 43 (.fa 11 (.t 2)),oz (.store 1 (.t 43) (.t 42))]
def c37_31:ACode := .seq (.ops [ oe 2 (.box (.t 0)),oe 4 (.alloc [(.int .i64 0),(.int .i64 0),(.str []),(.int .i64 0),(.int .i64 0),(.bool false),(.bool false),(.int .i64 0),(.int .i64 0),(.bool false),(.bool false),(.sl .full [])])]) (.seq (.seq (.ops [ oq 8 (.fa 0 (.t 2)),oq 9 (.ld none (.t 8)),oq 10 (.bin .eql (.t 9) (.v (.int .i64 5))),oq 11 (.mv (.t 10)),⟨some 12,some (11,false),.q (.fa 0 (.t 2)),[]⟩,⟨some 13,some (11,false),.q (.ld none (.t 12)),[]⟩,⟨some 14,some (11,false),.q (.bin .eql (.t 13) (.v (.int .i64 6))),[]⟩,oq 15 (.pick (.t 11) (.v (.bool true)) (.t 14))]) (.cond (.t 15) (.seq (.ops [ oq 16 (.mv (.t 1)),oq 17 (.ld (some 12) (.t 2)),oe 18 (.callv (.t 16) [(.t 17)]),oz (.store 12 (.t 4) (.t 18))]) .ret) .skip)) (.seq (.seq (.ops [ oq 19 (.fa 11 (.t 2)),oq 20 (.ld none (.t 19)),oq 21 (.len (.t 20)),oq 22 (.bin .gtr (.t 21) (.v (.int .i64 0)))]) (.cond (.t 22) (.seq (.ops [ oq 23 (.fa 11 (.t 2)),oq 24 (.ld none (.t 23)),oq 25 (.len (.t 24)),oe 26 (.mkb 30 104 [(.int .i64 0),(.int .i64 0),(.str []),(.int .i64 0),(.int .i64 0),(.bool false),(.bool false),(.int .i64 0),(.int .i64 0),(.bool false),(.bool false),(.sl .full [])] (.t 25) (.t 25)),oq 5 (.mv (.t 26))]) (.seq (.seq (.ops [ oq 27 (.fa 11 (.t 2)),oq 28 (.ld none (.t 27)),oq 29 (.len (.t 28)),oq 30 (.mv (.v (.int .i64 0)))]) (.block 0 (.loop c37_18))) c37_22)) .skip)) (.seq (.ops [ oq 44 (.ld (some 12) (.t 2)),oz (.store 12 (.t 4) (.t 44))]) .ret)))
@[go_sem] def c37_18_wp:=wp_of c37_18.eq_1
@[go_sem] def c37_22_wp:=wp_of c37_22.eq_1
@[go_sem] def c37_31_wp:=wp_of c37_31.eq_1
def c37:AFn:=⟨45,[.c 4 (some 12)],c37_31⟩
theorem c37_ok:compF Tryz.prog Tryz.f37=some c37:=by kernel_rfl
theorem a37 {args:List AV} {σ:ASt} {R:AV->ASt->Prop} (hl:args.length<=45) (h:c37_31.wp Tryz.prog (RetQ [.c 4 (some 12)] R) (init args) σ):ACalls Tryz.prog 37 args σ R:=acalls_of Tryz.func37 c37_ok hl h
end Go.A
namespace Go.A
def OwnSl (σ0 σ:ASt) (v:AV) (xs:List AV) (s:Nat):Prop:=
 (xs = []/\v = .sl .full []/\σ=σ0)\/∃ b c rest,v = .msl b 0 xs.length c/\xs.length<=c/\rest.length=(c-xs.length)*s/\σ0 b=none/\σ=σ0.set b (some (.obj (xs.flatMap AV.cells++rest)))
theorem OwnSl.drop {σ0 σ:ASt} {v:AV} {xs:List AV} {s:Nat} (h:OwnSl σ0 σ v xs s):Drop σ σ0:=by
 rcases h with ⟨_,_,rfl⟩|⟨b,c,rest,_,_,_,hb,rfl⟩
 ·exact Drop.refl _
 ·exact Drop.set hb
def zrow (s:Nat) (z:List AV) (n c:Nat):List AV:=(List.range ((c-n)*s)).map fun i=>z.getD (i % s) .any
theorem zrow_len (s:Nat) (z:List AV) (n c:Nat):(zrow s z n c).length=(c-n)*s:=by simp [zrow]
theorem ownRow_z {s n c:Nat} {z cs:List AV}:ownRow s z cs n c=cs++zrow s z n c:=rfl
theorem OwnSl.app {e:TypeId} {σ0 σ:ASt} {v:AV} {xs ys z:List AV} {s bytes:Nat} {k2:SK} {K:AV->ASt->Prop} (h:OwnSl σ0 σ v xs s) (hx:∀ x∈xs,x.cells.length=s) (h2:wellSz s ys=true) (h3:leaves (ys.flatMap AV.cells)=true)
  (h4:(xs.length+ys.length)*bytes<=140737488355328) (h5:xs.length+ys.length<=4611686018427387904) (h6:0<ys.length)
  (hK:∀ v' σ',(∃ σ2,Drop σ' σ2/\OwnSl σ0 σ2 v' (xs++ys) s)->K v' σ'):appC e s bytes z v (.sl k2 ys) σ K:=by
 have hyl:(ys.flatMap AV.cells).length=ys.length*s:=lens_flat (wellSz_lens h2)
 have hxl:(xs.flatMap AV.cells).length=xs.length*s:=lens_flat hx
 rcases h with ⟨rfl,rfl,rfl⟩|⟨b,c,rest,rfl,hc,hr,hb,rfl⟩
 ·refine appO_by rfl h2 h3 h4 h5 h6 fun b c hb hc=>hK _ _ ⟨_,Drop.refl _,.inr ⟨b,c,zrow s z (([]:List AV).length+ys.length) c,?_,?_,?_,hb,?_⟩⟩
  ·simp
  ·simpa using hc
  ·rw [zrow_len];simp
  ·rw [ownRow_z];simp only [List.nil_append,List.flatMap_nil]
 ·rw [appC_msl,ASt.set_same]
  refine appM_by h2 h3 h4 h5 (by rw [List.length_append,hxl,hr];omega) (fun hroom=>⟨?_,?_⟩) (fun hgrow b' c' hb' hc'=>?_)
  ·rw [List.length_append,hxl,hr,Nat.zero_add,← Nat.add_mul]
   exact Nat.mul_le_mul_right _ (by omega)
  ·rw [ASt.set_set]
   refine hK _ _ ⟨_,Drop.refl _,.inr ⟨b,c,rest.drop (ys.length*s),by simp,by simpa using hroom,?_,hb,?_⟩⟩
   ·rw [List.length_drop,hr,← Nat.sub_mul,List.length_append]
    congr 1
    omega
   ·congr 3
    unfold splice
    rw [Nat.zero_add,List.flatMap_append]
    have e1:(xs.flatMap AV.cells++rest).take (xs.length*s)=xs.flatMap AV.cells:=by rw [<-hxl];simp
    have e2:(xs.flatMap AV.cells++rest).drop (xs.length*s+ys.length*s)=rest.drop (ys.length*s):=by rw [<-hxl,← List.drop_drop];simp
    rw [e1,e2]
  ·obtain ⟨m1,m2,hb0⟩:=set_none hb'
   have e1:((xs.flatMap AV.cells++rest).drop 0).take (xs.length*s)=xs.flatMap AV.cells:=by rw [<-hxl];simp
   rw [e1]
   refine hK _ _ ⟨σ0.set b' (some (.obj (ownRow s z (xs.flatMap AV.cells++ys.flatMap AV.cells) (xs.length+ys.length) c'))),?_,.inr ⟨b',c',zrow s z (xs.length+ys.length) c',by simp,by simpa using hc',by rw [zrow_len,List.length_append],hb0,?_⟩⟩
   ·rw [set_swap m2]
    exact Drop.set (by rw [ASt.set_ne m2];exact hb)
   ·rw [ownRow_z,List.flatMap_append]
theorem OwnSl.at {σ0 σ:ASt} {x:Nat} {r:Role} {v:AV} {xs:List AV} {s:Nat} (h:OwnSl σ0 σ v xs s) (hx:σ0 x=some r):σ x=some r:=by
 rcases h with ⟨_,_,rfl⟩|⟨b,c,rest,_,_,_,hb,rfl⟩
 ·exact hx
 ·rw [ASt.set_ne]
  ·exact hx
  ·rintro rfl;rw [hb] at hx;cases hx
theorem OwnSl.fresh {σ0 σ:ASt} {x:Nat} {v:AV} {xs:List AV} {s:Nat} (h:OwnSl σ0 σ v xs s) (hx:σ x=none):σ0 x=none:=by
 cases hr:σ0 x with
 | none=>rfl
 | some r=>rw [h.at hr] at hx;cases hx
theorem OwnSl.add {σ0 σ:ASt} {d:Nat} {r:Option Role} {v:AV} {xs:List AV} {s:Nat} (h:OwnSl σ0 σ v xs s) (hd:σ d=none):OwnSl (σ0.set d r) (σ.set d r) v xs s:=by
 rcases h with ⟨h1,h2,rfl⟩|⟨b,c,rest,h1,h2,h3,h4,rfl⟩
 ·exact .inl ⟨h1,h2,rfl⟩
 ·obtain ⟨h5,h6,h7⟩:=set_none hd
  exact .inr ⟨b,c,rest,h1,h2,h3,by rw [ASt.set_ne h6];exact h4,set_swap h6⟩
theorem OwnSl.less {σ0 σ:ASt} {e:Nat} {E:Role} {v:AV} {xs:List AV} {s:Nat} (h:OwnSl (σ0.set e (some E)) σ v xs s) (he:σ0 e=none):∃ σ',Drop σ σ'/\OwnSl σ0 σ' v xs s:=by
 rcases h with ⟨h1,h2,rfl⟩|⟨b,c,rest,h1,h2,h3,h4,rfl⟩
 ·exact ⟨σ0,Drop.set he,.inl ⟨h1,h2,rfl⟩⟩
 ·obtain ⟨h5,h6,h7⟩:=set_none h4
  refine ⟨σ0.set b (some (.obj (xs.flatMap AV.cells++rest))),?_,.inr ⟨b,c,rest,h1,h2,h3,h7,rfl⟩⟩
  rw [set_swap h6]
  exact Drop.set (by rw [ASt.set_ne h6];exact he)
theorem OwnSl.fz {σ0 σ σ':ASt} {v:AV} {xs:List AV} {s:Nat} (h:OwnSl σ0 σ v xs s) (hx:∀ x∈xs,x.cells.length=s) (hn:∀ b,σ0 b=none->σ' b=none):Fz σ σ' v (.sl .shr xs):=by
 rcases h with ⟨rfl,rfl,rfl⟩|⟨b,c,rest,rfl,h2,h3,h4,rfl⟩
 ·exact .sl _ _
 ·have hxl:(xs.flatMap AV.cells).length=xs.length*s:=lens_flat hx
  refine .msl 0 _ c s xs (ASt.set_same _ _ _) (hn _ h4) rfl h2 hx ?_
  rw [List.drop_zero,← hxl,List.take_left]
end Go.A
namespace Go.A
open Go.Proofs Go.Lib
mutual
def Nd.same:Nd->Nd->Bool
 | .mk o n s a b ks,.mk o' n' s' a' b' ks'=>decide (o=o') && decide (n=n') && decide (s=s') && decide (a=a') && decide (b=b') && Nd.sames ks ks'
def Nd.sames:List Nd->List Nd->Bool
 | [],[]=>true
 | [],_::_=>false
 | _::_,[]=>false
 | x::xs,y::ys=>Nd.same x y && Nd.sames xs ys
end
mutual
theorem Nd.same_eq:∀ (x y:Nd),Nd.same x y=true->x=y
 | .mk o n s a b ks,.mk o' n' s' a' b' ks',h=>by
   rw [Nd.same] at h
   simp only [Bool.and_eq_true,decide_eq_true_eq] at h
   obtain ⟨⟨⟨⟨⟨rfl,rfl⟩,rfl⟩,rfl⟩,rfl⟩,h⟩:=h
   rw [Nd.sames_eq ks ks' h]
theorem Nd.sames_eq:∀ (xs ys:List Nd),Nd.sames xs ys=true->xs=ys
 | [],[],_=>rfl
 | [],_::_,h=>by cases h
 | _::_,[],h=>by cases h
 | x::xs,y::ys,h=>by
   rw [Nd.sames,Bool.and_eq_true] at h
   rw [Nd.same_eq x y h.1,Nd.sames_eq xs ys h.2]
end
mutual
theorem Nd.same_refl:∀ x:Nd,Nd.same x x=true
 | .mk o n s a b ks=>by rw [Nd.same,Nd.sames_refl ks];simp
theorem Nd.sames_refl:∀ xs:List Nd,Nd.sames xs xs=true
 | []=>rfl
 | x::xs=>by rw [Nd.sames,Nd.same_refl x,Nd.sames_refl xs];rfl
end
theorem Nd.sames_len:∀ {xs ys:List Nd},Nd.sames xs ys=true->xs.length=ys.length:=fun h=>by rw [Nd.sames_eq _ _ h]
theorem Nd.sames_get {xs ys:List Nd} {i:Nat} {x y:Nd} (hx:xs[i]? = some x) (hy:ys[i]? = some y) (h:Nd.sames xs ys=true):Nd.same x y=true:=by
 rw [Nd.sames_eq _ _ h,hy] at hx
 injection hx with hx
 rw [hx];exact Nd.same_refl _
theorem Nd.sames_all:∀ {xs ys:List Nd},xs.length=ys.length->(∀ (i:Nat) x y,xs[i]? = some x->ys[i]? = some y->Nd.same x y=true)->Nd.sames xs ys=true
 | [],[],_,_=>rfl
 | [],_::_,h,_=>by simp at h
 | _::_,[],h,_=>by simp at h
 | x::xs,y::ys,h,hs=>by
   rw [Nd.sames,hs 0 x y rfl rfl,Nd.sames_all (by simpa using h) fun i u v hu hv=>hs (i+1) u v (by simpa using hu) (by simpa using hv)]
   rfl
theorem equal_ok (xs ys:List Nd) (hl:xs.length<=1000000000/\ys.length<=1000000000) (ih:∀ x∈xs,∀ y∈ys,Pure Tryz.prog 10 [x.av,y.av] (.bool (Nd.same x y))) :
  Pure Tryz.prog 36 [.sl .shr (xs.map Nd.av),.sl .shr (ys.map Nd.av),.func (.func 10) [] []] (.bool (Nd.sames xs ys)):=by
 intro σ
 refine a36 (by simp) ?_
 by_cases hne:xs.length=ys.length
 ·have hne':¬ ((xs.length:Int)≠ys.length):=by omega
  have hne2:(xs.length:Int)=ys.length:=by omega
  simp (disch:=first|assumption|omega) only [go_sem,reduceCtorEq,Nat.reduceEqDiff,↓reduceIte,hne2]
  refine wp_loop_by (fun (i:Nat) a1 s2=>(i<=xs.length/\∀ k x y,k<i->xs[k]? = some x->ys[k]? = some y->Nd.same x y=true)/\(a1 1 = .sl .shr (ys.map Nd.av)/\a1 2 = .func (.func 10) [] []/\a1 15 = .sl .shr (xs.map Nd.av)/\a1 16 = .int .i64 xs.length/\a1 17 = .int .i64 i)/\s2=σ) (fun i=>xs.length-i) 0 (Dr.now ⟨⟨Nat.zero_le _,fun k x y h=>by omega⟩,?_,rfl⟩) ?_
  ·simp (disch:=first|assumption|omega) only [go_sem,Nat.reduceEqDiff,↓reduceIte,hne2]
  rintro i a1 s2 ⟨⟨hi,hall⟩,hf,rfl⟩
  by_cases hlt:i<xs.length
  ·have hlt':(i:Int)<xs.length:=by omega
   have hx : xs[i]? = some (xs[i]'hlt) := List.getElem?_eq_getElem hlt
   have hy : ys[i]? = some (ys[i]'(by omega)) := List.getElem?_eq_getElem (by omega)
   have hih := ih _ (List.getElem_mem hlt) _ (List.getElem_mem (h := by omega) : ys[i]'(by omega) ∈ ys)
   obtain ⟨x, hxe⟩ : ∃ x, xs[i]'hlt = x := ⟨_, rfl⟩
   obtain ⟨y, hye⟩ : ∃ y, ys[i]'(by omega) = y := ⟨_, rfl⟩
   rw [hxe] at hx hih
   rw [hye] at hy hih
   have hmx:=Nd.get hx
   have hmy:=Nd.get hy
   obtain ⟨r,hr⟩:∃ r,Nd.same x y=r:=⟨_,rfl⟩
   rw [hr] at hih
   obtain ⟨xo,xm,xs',xa,xb,xk⟩:=x
   obtain ⟨yo,ym,ys',ya,yb,yk⟩:=y
   rw [Nd.av_cs] at hmx
   rw [Nd.av_cs] at hmy
   rw [Nd.av_cs,Nd.av_cs] at hih
   generalize xk.map Nd.av=XK at *
   generalize yk.map Nd.av=YK at *
   generalize hXL:xs.map Nd.av=XL at *
   generalize hYL:ys.map Nd.av=YL at *
   have hok:okFn Tryz.prog 10=true:=by kernel_rfl
   simp (disch:=first|assumption|omega) only [go_sem,Nat.reduceEqDiff,Nat.reduceLeDiff,↓reduceIte,hf,hlt',hmx]
   refine allocC_by fun d hd=>?_
   have hd0:=hd
   simp (disch:=first|assumption|omega) only [go_sem,Nat.reduceEqDiff,Nat.reduceAdd,Nat.reduceLeDiff,↓reduceIte,hf,hmy,ASt.set_set]
   refine allocC_by fun e he=>?_
   have he0:=he
   repeat (with_reducible replace he:=set_none he;obtain ⟨_,_,he⟩:=he)
   simp (disch:=first|assumption|omega) only [go_sem,Nat.reduceEqDiff,Nat.reduceAdd,Nat.reduceLeDiff,↓reduceIte,hf,ASt.set_set]
   refine ⟨hok,hih.use ?_⟩
   cases r with
   | true=>
     simp (disch:=first|assumption|omega) only [go_sem,Nat.reduceEqDiff,↓reduceIte,hf]
     refine ⟨i+1,by dsimp only;omega,Dr.drop ((Drop.set hd).off (by assumption)) ⟨⟨by omega,fun k u v hk hu hv=>?_⟩,?_,rfl⟩⟩
     ·by_cases hki:k=i
      ·subst hki
       rw [hx] at hu;rw [hy] at hv
       injection hu with hu;injection hv with hv
       subst hu hv;exact hr
      ·exact hall k u v (by omega) hu hv
     ·simp (disch:=first|assumption|omega) only [go_sem,Nat.reduceEqDiff,↓reduceIte,hf]
   | false=>
     have hfin:Nd.sames xs ys=false:=by
      cases h:Nd.sames xs ys with
      | false=>rfl
      | true=>rw [Nd.sames_get hx hy h] at hr;cases hr
     simp (disch:=first|assumption|omega) only [go_sem,↓reduceIte]
     exact retC_by ((Drop.set hd).off (by assumption)) (.refl _) ⟨by rw [hfin];rfl,rfl⟩
  ·have hlt':¬ (i:Int)<xs.length:=by omega
   have hfin:Nd.sames xs ys=true:=Nd.sames_all hne fun k u v hu hv=>hall k u v (by have:=(List.getElem?_eq_some_iff.1 hu).1;omega) hu hv
   simp (disch:=first|assumption|omega) only [go_sem,↓reduceIte,hf,hlt']
   exact retC_by (Drop.refl _) (.refl _) ⟨by rw [hfin];rfl,rfl⟩
 ·have hne2:¬ (xs.length:Int)=ys.length:=by omega
  have hfin:Nd.sames xs ys=false:=by
   cases h:Nd.sames xs ys with
   | false=>rfl
   | true=>exact absurd (Nd.sames_len h) hne
  simp (disch:=first|assumption|omega) only [go_sem,reduceCtorEq,Nat.reduceEqDiff,↓reduceIte,hne2]
  exact retC_by (Drop.refl _) (.refl _) ⟨by rw [hfin];rfl,rfl⟩
theorem ref_ne {a b:Ref} (h:a≠b):(decide (a.row=b.row) && (decide (a.col=b.col) && (decide (a.absRow=b.absRow) && decide (a.absCol=b.absCol))))=false:=by
 obtain ⟨a1,a2,a3,a4⟩:=a
 obtain ⟨b1,b2,b3,b4⟩:=b
 cases hd:(decide (a1=b1) && (decide (a2=b2) && (decide (a3=b3) && decide (a4=b4)))) with
 | false=>rfl
 | true=>
   simp only [Bool.and_eq_true,decide_eq_true_eq] at hd
   obtain ⟨rfl,rfl,rfl,rfl⟩:=hd
   exact absurd rfl h
theorem esame_le:∀ (k:Nat) (x y:Nd),x.size<=k->x.size<=1000000000->y.size<=1000000000->Pure Tryz.prog 10 [x.av,y.av] (.bool (Nd.same x y))
 | 0,x,y,hk,_,_=>by have:=x.size_pos;omega
 | k+1,x,y,hk,hx,hy=>by
   intro σ
   obtain ⟨o,n,s,a,b,ks⟩:=x
   obtain ⟨o',n',s',a',b',ks'⟩:=y
   rw [Nd.size] at hk hx hy
   have l1:=sizes_len ks
   have l2:=sizes_len ks'
   have hE:=equal_ok ks ks' ⟨by omega,by omega⟩ fun u hu v hv=>by
    have h1:=Nd.size_kid hu
    have h2:=Nd.size_kid hv
    exact esame_le k u v (by omega) (by omega) (by omega)
   rw [Nd.av_cs,Nd.av_cs,Nd.same]
   generalize Nd.sames ks ks'=r at *
   generalize ks.map Nd.av=L at *
   generalize ks'.map Nd.av=L' at *
   refine a10 (by simp) ?_
   simp (disch:=first|assumption|omega) only [go_sem]
   refine boxC_by rfl fun c hc=>?_
   simp (disch:=first|assumption|omega) only [go_sem,Nat.reduceEqDiff,↓reduceIte]
   refine boxC_by rfl fun d hd=>?_
   have hd0:=hd
   repeat (with_reducible replace hd:=set_none hd;obtain ⟨_,_,hd⟩:=hd)
   have hD:∀ r r':Option Role,Drop ((σ.set c r).set d r') σ:=fun r r'=>(Drop.set hc).off (by assumption)
   by_cases h1:o=o'
   ·by_cases h2:n=n'
    ·by_cases h3:s=s'
     ·by_cases h4:a=a'
      ·by_cases h5:b=b'
       ·subst h1 h2 h3 h4 h5
        simp (disch:=first|assumption|omega) only [go_sem,Nat.reduceEqDiff,Nat.reduceAdd,Nat.reduceLeDiff,↓reduceIte,Bool.true_and,eq_self]
        refine hE.use ?_
        simp (disch:=first|assumption|omega) only [go_sem,Nat.reduceEqDiff,↓reduceIte,eq_self]
        refine retC_by (hD _ _) (.refl _) ⟨?_,rfl⟩
        first|rfl|(show AV.bool _=AV.bool _;simp)
       ·have h5':=ref_ne h5
        subst h1 h2 h3 h4
        simp (disch:=first|assumption|omega) only [go_sem,Nat.reduceEqDiff,Nat.reduceAdd,Nat.reduceLeDiff,↓reduceIte,Bool.true_and,Bool.false_and,Bool.and_false,eq_self,h5']
        refine retC_by (hD _ _) (.refl _) ⟨?_,rfl⟩
        first|rfl|(show AV.bool _=AV.bool _;simp [h5])
      ·have h4':=ref_ne h4
       subst h1 h2 h3
       simp (disch:=first|assumption|omega) only [go_sem,Nat.reduceEqDiff,Nat.reduceAdd,Nat.reduceLeDiff,↓reduceIte,Bool.true_and,Bool.false_and,Bool.and_false,eq_self,h4']
       refine retC_by (hD _ _) (.refl _) ⟨?_,rfl⟩
       first|rfl|(show AV.bool _=AV.bool _;simp [h4])
     ·subst h1 h2
      simp (disch:=first|assumption|omega) only [go_sem,Nat.reduceEqDiff,↓reduceIte,Bool.true_and,Bool.false_and,Bool.and_false,eq_self,h3]
      refine retC_by (hD _ _) (.refl _) ⟨?_,rfl⟩
      first|rfl|(show AV.bool _=AV.bool _;simp [h3])
    ·subst h1
     simp (disch:=first|assumption|omega) only [go_sem,Nat.reduceEqDiff,↓reduceIte,Bool.false_and,Bool.and_false,eq_self,h2]
     refine retC_by (hD _ _) (.refl _) ⟨?_,rfl⟩
     first|rfl|(show AV.bool _=AV.bool _;simp [h2])
   ·simp (disch:=first|assumption|omega) only [go_sem,Nat.reduceEqDiff,↓reduceIte,Bool.false_and,h1]
    refine retC_by (hD _ _) (.refl _) ⟨?_,rfl⟩
    first|rfl|(show AV.bool _=AV.bool _;simp [h1])
theorem esame_ok (x y:Nd) (hx:x.size<=1000000000) (hy:y.size<=1000000000):Pure Tryz.prog 10 [x.av,y.av] (.bool (Nd.same x y)):=esame_le x.size x y (Nat.le_refl _) hx hy
end Go.A
namespace Go.A
open Go.Proofs Go.Lib
mutual
def Nd.map (f:Nd->Nd):Nd->Nd
 | .mk op n s a b ks=>if op=5\/op=6 then f (.mk op n s a b ks) else .mk op n s a b (Nd.maps f ks)
def Nd.maps (f:Nd->Nd):List Nd->List Nd
 | [] => []
 | x::xs=>Nd.map f x::Nd.maps f xs
end
theorem Nd.maps_map (f:Nd->Nd):∀ l:List Nd,Nd.maps f l=l.map (Nd.map f)
 | []=>rfl
 | x::xs=>by rw [Nd.maps,Nd.maps_map f xs];rfl
def zeroC:List AV := [.int .i64 0,.int .i64 0,.str [],.int .i64 0,.int .i64 0,.bool false,.bool false,.int .i64 0,.int .i64 0,.bool false,.bool false,.sl .full []]
def rowAt (f:Nd->Nd) (ks:List Nd) (z:List AV) (i:Nat):List AV:=(((ks.take i).map fun x=>(Nd.map f x).av).flatMap AV.cells)++(List.replicate (ks.length-i) z).flatten
theorem rowAt_pre (f:Nd->Nd) (ks:List Nd) (i:Nat):(((ks.take i).map fun x=>(Nd.map f x).av).flatMap AV.cells).length=(ks.take i).length*12:=by
 rw [lens_flat (s:=12)]
 ·simp
 ·intro x hx
  obtain ⟨y,_,rfl⟩:=List.mem_map.1 hx
  exact Nd.av_len _
theorem rowAt_len (f:Nd->Nd) (ks:List Nd) {z:List AV} (hz:z.length=12) {i:Nat} (hi:i<=ks.length):(rowAt f ks z i).length=ks.length*12:=by
 unfold rowAt
 rw [List.length_append,rowAt_pre,flatten_len,hz,List.length_take,← Nat.add_mul]
 congr 1
 omega
theorem rowAt_step (f:Nd->Nd) (ks:List Nd) {z:List AV} (hz:z.length=12) {i:Nat} {x:Nd} (hx:ks[i]? = some x) :
  ((rowAt f ks z i).take (i*12)++(Nd.map f x).av.cells)++(rowAt f ks z i).drop (i*12+12)=rowAt f ks z (i+1):=by
 rw [List.append_assoc]
 have hlt:i<ks.length:=(List.getElem?_eq_some_iff.1 hx).1
 have hp:=rowAt_pre f ks i
 rw [List.length_take,Nat.min_eq_left (by omega)] at hp
 have ht:ks.take (i+1)=ks.take i ++ [x]:=by rw [List.take_add_one,hx];rfl
 have hr:ks.length-i=(ks.length-(i+1))+1:=by omega
 unfold rowAt
 rw [ht,hr,List.replicate_succ,List.flatten_cons,List.map_append,List.flatMap_append]
 generalize (((ks.take i).map fun x=>(Nd.map f x).av).flatMap AV.cells)=P at *
 generalize (List.replicate (ks.length-(i+1)) z).flatten=R
 have e1:(P++(z++R)).take (i*12)=P:=by rw [<-hp];simp
 have e2:(P++(z++R)).drop (i*12+12)=R:=by
  rw [<-List.drop_drop,← hp,List.drop_left,← hz,List.drop_left]
 rw [e1,e2]
 simp
theorem rowAt_end (f:Nd->Nd) (ks:List Nd) (z:List AV):rowAt f ks z ks.length=(ks.map fun x=>(Nd.map f x).av).flatMap AV.cells:=by
 unfold rowAt
 rw [List.take_length,Nat.sub_self]
 simp
theorem rowAt_zero (f:Nd->Nd) (ks:List Nd) (z:List AV):rowAt f ks z 0=(List.replicate ks.length z).flatten:=by
 unfold rowAt
 simp
end Go.A
namespace Go.A
open Go.Proofs Go.Lib
structure Pt where
 op:Int
 n:Int
 s:List UInt8
 a:Ref
 b:Ref
 deriving Inhabited
def ndV (o m:Int) (s:List UInt8) (a b:Ref) (v:AV):List AV := [.int .i64 o,.int .i64 m,.str s,.int .i64 a.row,.int .i64 a.col,.bool a.absRow,.bool a.absCol,.int .i64 b.row,.int .i64 b.col,.bool b.absRow,.bool b.absCol,v]
section
variable {o m:Int} {s:List UInt8} {a b:Ref} {v w:AV}
@[go_sem] theorem nv_11:(ndV o m s a b v)[11]? = some v:=id rfl
@[go_sem] theorem nv_len:(ndV o m s a b v).length=12:=id rfl
@[go_sem] theorem nv_take:(ndV o m s a b v).take 12=ndV o m s a b v:=id rfl
@[go_sem] theorem nv_drop:(ndV o m s a b v).drop 12 = []:=id rfl
@[go_sem] theorem nv_put'':(ndV o m s a b v).take 11 ++ [w]=ndV o m s a b w:=id rfl
theorem nv_leaves (h:v.leaf=true):leaves (ndV o m s a b v)=true:=by
 cases v<;>first|rfl|cases h
end
def missN:Nd := .mk 23 0 [] .zero .zero []
end Go.A
namespace Go.A
open Go.Proofs Go.Lib
def zero12:List AV := [.int .i64 0,.int .i64 0,.str [],.int .i64 0,.int .i64 0,.bool false,.bool false,.int .i64 0,.int .i64 0,.bool false,.bool false,.sl .full []]
theorem OwnSl.leaf {σ0 σ:ASt} {v:AV} {xs:List AV} {s:Nat} (h:OwnSl σ0 σ v xs s):v.leaf=true/\v.cells = [v]:=by
 rcases h with ⟨rfl,rfl,rfl⟩|⟨b,c,rest,rfl,_⟩<;>exact ⟨rfl,rfl⟩
theorem OwnSl.put {σ0 σ:ASt} {d:Nat} {r:Role} {v:AV} {xs:List AV} {s:Nat} (h:OwnSl σ0 σ v xs s) (hd:σ0 d=some r) (r':Option Role):OwnSl (σ0.set d r') (σ.set d r') v xs s:=by
 rcases h with ⟨h1,h2,rfl⟩|⟨b,c,rest,h1,h2,h3,h4,rfl⟩
 ·exact .inl ⟨h1,h2,rfl⟩
 ·have hbd:b≠d:=by rintro rfl;rw [hd] at h4;cases h4
  exact .inr ⟨b,c,rest,h1,h2,h3,by rw [ASt.set_ne hbd];exact h4,set_swap hbd⟩
theorem deeps_map:∀ l:List Nd,Go.A.deeps (l.map Nd.av)=l.map Nd.av
 | []=>rfl
 | x::xs=>by rw [List.map_cons,deeps_cons,Nd.deep x,deeps_map xs]
theorem leaf1 {v:AV}:leaves [v]=v.leaf:=by simp [leaves]
theorem Drop.had {σ σ':ASt} {b:Nat} {r:Role} (h:Drop σ σ') (hb:σ' b=some r):σ b=some r:=by
 rcases h b with h1|h1
 ·rw [<-h1];exact hb
 ·rw [h1] at hb;cases hb
theorem Drop.nil {σ σ':ASt} {b:Nat} (h:Drop σ σ') (hb:σ b=none):σ' b=none:=by
 rcases h b with h1|h1
 ·rw [h1];exact hb
 ·exact h1
end Go.A
namespace Go.A
open Go.Proofs Go.Lib
structure PSt where
 i:Nat
 deep:Int
 err:Int
 bad:Int
 deriving DecidableEq
def endT:Tok:=⟨0,[],0,0⟩
def zN:Nd := .mk 0 0 [] .zero .zero []
section
variable (T:List Tok)
def PSt.next (s:PSt):PSt := { s with i:=s.i+1 }
def curT (s:PSt):Tok:=if s.err≠0 then endT else T.getD s.i endT
def failP (s:PSt) (e:Int):PSt:=if s.err=0 then { s with err:=e,bad:=((T.getD s.i endT).at':Nat) } else s
def isOp (s:PSt) (x:List UInt8):Bool:=decide ((curT T s).kind=6) && decide ((curT T s).text=x)
def mustP (s:PSt) (x:List UInt8):PSt:=if isOp T s x then s.next else failP T s 10
def enterP (s:PSt):PSt:=if 40<s.deep+1 then failP T { s with deep:=s.deep+1 } 12 else { s with deep:=s.deep+1 }
def leaveP (s:PSt):PSt := { s with deep:=s.deep-1 }
def stepP1 (s:PSt):PSt:=if s.err=0 then s.next else s
def levelsL:List (List (List UInt8)) := [[[61],[60,62],[60],[60,61],[62],[62,61]],[[38]],[[43],[45]],[[42],[47]],[[94]]]
def idxS (x:List UInt8):List (List UInt8)->Nat->Int
 | [],_ => -1
 | y::l,i=>if x=y then i else idxS x l (i+1)
def idxP (l:List (List UInt8)) (x:List UInt8):Int:=idxS x l 0
theorem idxS_mem (x:List UInt8):∀ (l:List (List UInt8)) (k:Nat),decide (0<=idxS x l k)=decide (x∈l)
 | [],k=>by simp [idxS]
 | y::l,k=>by
   rw [idxS]
   by_cases h:x=y
   ·subst h;simp
   ·rw [if_neg h,idxS_mem x l (k+1)];simp [h]
theorem idxS_rng (x:List UInt8):∀ (l:List (List UInt8)) (k:Nat), -1<=idxS x l k/\idxS x l k<=k+l.length
 | [],k=>by simp only [idxS];omega
 | y::l,k=>by
   rw [idxS]
   split
   ·simp only [List.length_cons];omega
   ·have:=idxS_rng x l (k+1);simp only [List.length_cons];omega
def sgn (s:PSt) (lvl:Nat):Bool:=decide ((curT T s).kind=6) && decide ((curT T s).text∈levelsL.getD lvl [])
def refT (t:Tok):Ref:=(parseP t.text).1
def areaP (s:PSt):Nd×PSt:=
 if isOp T s.next [58]=false then (.mk 5 0 [] (refT (curT T s)) .zero [],s.next)
 else if (curT T s.next.next).kind≠4 then (zN,failP T s.next.next 10)
 else (.mk 6 0 [] (refT (curT T s)) (refT (curT T s.next.next)) [],s.next.next.next)
mutual
def betwP:Nat->Nat->PSt->Option (Nd×PSt)
 | 0,_,_=>none
 | f+1,lvl,s=>if lvl=5 then signedP f s else match betwP f (lvl+1) s with
   | none=>none
   | some r=>loopP f lvl r.1 r.2
def loopP:Nat->Nat->Nd->PSt->Option (Nd×PSt)
 | 0,_,_,_=>none
 | f+1,lvl,n,s=>if sgn T s lvl=true then (match betwP f (lvl+1) s.next with
   | none=>none
   | some r=>loopP f lvl (.mk (10+idxP signL (curT T s).text) 0 [] .zero .zero [n,r.1]) r.2) else some (n,s)
def signedP:Nat->PSt->Option (Nd×PSt)
 | 0,_=>none
 | f+1,s=>if isOp T s [45]=true then (match signedP f (stepP1 (enterP T s)) with
   | none=>none
   | some r=>some (.mk 7 0 [] .zero .zero [r.1],leaveP r.2))
  else if isOp T s [43]=true then (match signedP f (stepP1 (enterP T s)) with
   | none=>none
   | some r=>some (.mk 8 0 [] .zero .zero [r.1],leaveP r.2))
  else hundredP f s
def hundredP:Nat->PSt->Option (Nd×PSt)
 | 0,_=>none
 | f+1,s=>match primP f s with
   | none=>none
   | some r=>hloopP f r.1 r.2
def hloopP:Nat->Nd->PSt->Option (Nd×PSt)
 | 0,_,_=>none
 | f+1,n,s=>if isOp T s [37]=true then hloopP f (.mk 9 0 [] .zero .zero [n]) s.next else some (n,s)
def primP:Nat->PSt->Option (Nd×PSt)
 | 0,_=>none
 | f+1,s=>
   if (curT T s).kind=1 then (match parseD (curT T s).text with
    | none=>some (zN,failP T s 10)
    | some v=>some (.mk 1 v [] .zero .zero [],s.next))
   else if (curT T s).kind=2 then some (.mk 2 0 (curT T s).text .zero .zero [],s.next)
   else if (curT T s).kind=5 then some (.mk 4 ((idxP errL (curT T s).text+1)*10000) [] .zero .zero [],s.next)
   else if (curT T s).kind=4 then some (areaP T s)
   else if (curT T s).kind=3 then nameP f s
   else if isOp T s [40]=true then (match betwP f 0 (stepP1 (enterP T s)) with
    | none=>none
    | some r=>some (r.1,leaveP (mustP T r.2 [41])))
   else some (zN,failP T s 10)
def nameP:Nat->PSt->Option (Nd×PSt)
 | 0,_=>none
 | f+1,s=>
   if (T.getD (s.i+1) endT).kind=6/\(T.getD (s.i+1) endT).text = [40] then
    (if (enterP T s).err≠0 then some (zN,leaveP (enterP T s))
     else match argsP f (enterP T s).next.next with
      | none=>none
      | some r=>some (.mk 22 0 (curT T s).text .zero .zero r.1,leaveP r.2))
   else if (curT T s).text = [84,82,85,69] then some (.mk 3 1 [] .zero .zero [],s.next)
   else if (curT T s).text = [70,65,76,83,69] then some (.mk 3 0 [] .zero .zero [],s.next)
   else some (zN,failP T s 10)
def argsP:Nat->PSt->Option (List Nd×PSt)
 | 0,_=>none
 | f+1,s=>if isOp T s [41]=true then some ([],s.next) else aloopP f [] s
def aloopP:Nat->List Nd->PSt->Option (List Nd×PSt)
 | 0,_,_=>none
 | f+1,l,s=>if s.err≠0 then some (l,s) else
   match (if isOp T s [44]=true\/isOp T s [41]=true then some (missN,s) else betwP f 0 s) with
   | none=>none
   | some r=>if isOp T r.2 [44]=true then aloopP f (l ++ [r.1]) r.2.next else some (l ++ [r.1],mustP T r.2 [41])
end
def parseT (f:Nat) (s:List UInt8):Option (Nd×Int×Int):=
 if (lexP s).2.2≠0 then some (zN,(lexP s).2.1,(lexP s).2.2) else
 match betwP (lexP s).1 f 0 ⟨0,0,0,0⟩ with
 | none=>none
 | some r=>
   if (if (curT (lexP s).1 r.2).kind≠0 then failP (lexP s).1 r.2 10 else r.2).err≠0 then some (zN,(if (curT (lexP s).1 r.2).kind≠0 then failP (lexP s).1 r.2 10 else r.2).bad,(if (curT (lexP s).1 r.2).kind≠0 then failP (lexP s).1 r.2 10 else r.2).err)
   else some (r.1,0,0)
end
structure Ends (T:List Tok):Prop where
 pos:0<T.length
 last:∀ i,i+1=T.length->(T.getD i endT).kind=0
 more:∀ i,i<T.length->(T.getD i endT).kind≠0->i+1<T.length
structure Fit (T:List Tok) (s:PSt):Prop where
 i:s.i<T.length
 d0:0<=s.deep
 d1:s.deep<=41
 d2:s.err=0->s.deep<=40
structure Went (T:List Tok) (s s':PSt):Prop where
 fit:Fit T s'
 le:s.i<=s'.i
 deep:s'.deep=s.deep
 err:s.err≠0->s'.err=s.err/\s'.i=s.i
section
variable {T:List Tok}
theorem Went.refl {s:PSt} (h:Fit T s):Went T s s:=⟨h,Nat.le_refl _,rfl,fun _=>⟨rfl,rfl⟩⟩
theorem Went.trans {s s' s'':PSt} (h:Went T s s') (k:Went T s' s''):Went T s s'':=
 ⟨k.fit,Nat.le_trans h.le k.le,k.deep.trans h.deep,fun he=>by
  obtain ⟨h1,h2⟩:=h.err he
  obtain ⟨k1,k2⟩:=k.err (by rw [h1];exact he)
  exact ⟨k1.trans h1,k2.trans h2⟩⟩
theorem Fit.next {s:PSt} (hT:Ends T) (h:Fit T s) (hk:(curT T s).kind≠0):Fit T s.next/\s.err=0:=by
 unfold curT at hk
 split at hk
 ·exact absurd rfl hk
 ·rename_i he
  have:=hT.more s.i h.i hk
  exact ⟨⟨this,h.d0,h.d1,h.d2⟩,by simpa using he⟩
theorem Went.next {s:PSt} (hT:Ends T) (h:Fit T s) (hk:(curT T s).kind≠0):Went T s s.next:=
 ⟨(h.next hT hk).1,Nat.le_succ _,rfl,fun he=>absurd (h.next hT hk).2 he⟩
theorem Fit.fail {s:PSt} (h:Fit T s) (e:Int) (he:e≠0):Fit T (failP T s e):=by
 unfold failP
 split
 ·exact ⟨h.i,h.d0,h.d1,fun h0=>absurd h0 he⟩
 ·exact h
theorem Went.fail {s:PSt} (h:Fit T s) (e:Int) (he:e≠0):Went T s (failP T s e):=by
 refine ⟨h.fail e he,?_,?_,fun h0=>?_⟩
 ·unfold failP;split<;>exact Nat.le_refl _
 ·unfold failP;split<;>rfl
 ·unfold failP;rw [if_neg h0];exact ⟨rfl,rfl⟩
theorem isOp_kind {s:PSt} {x:List UInt8} (h:isOp T s x=true):(curT T s).kind≠0:=by
 unfold isOp at h
 simp only [Bool.and_eq_true,decide_eq_true_eq] at h
 omega
theorem sgn_kind {s:PSt} {l:Nat} (h:sgn T s l=true):(curT T s).kind≠0:=by
 unfold sgn at h
 simp only [Bool.and_eq_true,decide_eq_true_eq] at h
 omega
theorem Went.must {s:PSt} (hT:Ends T) (h:Fit T s) (x:List UInt8):Went T s (mustP T s x):=by
 unfold mustP
 split
 ·rename_i hx;exact Went.next hT h (isOp_kind hx)
 ·exact Went.fail h 10 (by decide)
theorem enter_fit {s:PSt} (hT:Ends T) (h:Fit T s) (hk:(curT T s).kind≠0):Fit T (stepP1 (enterP T s))/\(stepP1 (enterP T s)).deep=s.deep+1/\s.i<=(stepP1 (enterP T s)).i:=by
 obtain ⟨h1,h2⟩:=h.next hT hk
 have hd:=h.d2 h2
 unfold enterP
 split
 ·unfold failP
  dsimp only
  rw [if_pos h2]
  unfold stepP1
  dsimp only
  rw [if_neg (by decide)]
  exact ⟨⟨h.i,by have:=h.d0;dsimp only;omega,by dsimp only;omega,fun h0=>absurd h0 (by dsimp only;decide)⟩,rfl,Nat.le_refl _⟩
 ·unfold stepP1
  dsimp only
  rw [if_pos h2]
  exact ⟨⟨h1.i,by have:=h.d0;dsimp only [PSt.next];omega,by dsimp only [PSt.next];omega,fun _=>by dsimp only [PSt.next];omega⟩,rfl,Nat.le_succ _⟩
theorem Went.leave {s s1 s2:PSt} (h1:s1.deep=s.deep+1) (hle:s.i<=s1.i) (h0:s.err=0) (hs:Fit T s) (h:Went T s1 s2):Went T s (leaveP s2):=by
 have hd:=h.deep
 have e:(leaveP s2).deep=s2.deep-1:=rfl
 have:=hs.d0
 have:=hs.d2 h0
 exact ⟨⟨h.fit.i,by omega,by omega,fun _=>by omega⟩,Nat.le_trans hle h.le,by omega,fun he=>absurd h0 he⟩
theorem cur_err {s:PSt} (h:(curT T s).kind≠0):s.err=0:=by
 unfold curT at h
 split at h
 ·exact absurd rfl h
 ·rename_i he;simpa using he
theorem cur_at {s:PSt} (h:s.err=0):curT T s=T.getD s.i endT:=by unfold curT;rw [if_neg (by simp [h])]
theorem Went.area {s:PSt} (hT:Ends T) (h:Fit T s) (hk:(curT T s).kind=4):Went T s (areaP T s).2:=by
 have h1:=Went.next hT h (by omega)
 unfold areaP
 split
 ·exact h1
 ·rename_i ho
  have ho':isOp T s.next [58]=true:=by simpa using ho
  have h2:=h1.trans (Went.next hT h1.fit (isOp_kind ho'))
  split
  ·exact h2.trans (Went.fail h2.fit 10 (by decide))
  ·rename_i hk2
   exact h2.trans (Went.next hT h2.fit (by omega))
structure WentF (T:List Tok) (f:Nat):Prop where
 betw:∀ lvl s r,betwP T f lvl s=some r->Fit T s->Went T s r.2
 loop:∀ lvl n s r,loopP T f lvl n s=some r->Fit T s->Went T s r.2
 signed:∀ s r,signedP T f s=some r->Fit T s->Went T s r.2
 hundred:∀ s r,hundredP T f s=some r->Fit T s->Went T s r.2
 hloop:∀ n s r,hloopP T f n s=some r->Fit T s->Went T s r.2
 prim:∀ s r,primP T f s=some r->Fit T s->Went T s r.2
 name:∀ s r,nameP T f s=some r->Fit T s->(curT T s).kind=3->Went T s r.2
 args:∀ s r,argsP T f s=some r->Fit T s->Went T s r.2
 aloop:∀ l s r,aloopP T f l s=some r->Fit T s->Went T s r.2
theorem enter2 {s:PSt} (hT:Ends T) (h:Fit T s) (hk:(curT T s).kind≠0) (he:(enterP T s).err=0):Fit T (enterP T s).next/\(enterP T s).deep=s.deep+1/\(enterP T s).i=s.i/\(enterP T s).next=stepP1 (enterP T s):=by
 have h1:=enter_fit hT h hk
 have e:stepP1 (enterP T s)=(enterP T s).next:=if_pos he
 rw [e] at h1
 refine ⟨h1.1,h1.2.1,?_,e.symm⟩
 unfold enterP failP
 split
 ·split<;>rfl
 ·rfl
theorem enter_err {s:PSt} (hT:Ends T) (h:Fit T s) (h0:s.err=0):Fit T (enterP T s)/\(enterP T s).deep=s.deep+1/\(enterP T s).i=s.i:=by
 have hd:=h.d2 h0
 have:=h.d0
 unfold enterP
 split
 ·unfold failP
  dsimp only
  rw [if_pos h0]
  exact ⟨⟨h.i,by dsimp only;omega,by dsimp only;omega,fun h=>absurd h (by dsimp only;decide)⟩,rfl,rfl⟩
 ·exact ⟨⟨h.i,by dsimp only;omega,by dsimp only;omega,fun _=>by dsimp only;omega⟩,rfl,rfl⟩
theorem wentF (hT:Ends T):∀ f,WentF T f
 | 0=>by
   constructor
   all_goals intros
   all_goals first
    | (rename_i h _;simp only [betwP,loopP,signedP,hundredP,hloopP,primP,argsP,aloopP,reduceCtorEq] at h)
    | (rename_i h _ _;simp only [nameP,reduceCtorEq] at h)
 | f+1=>by
   have ih:=wentF hT f
   constructor
   ·intro lvl s r h hf
    rw [betwP] at h
    split at h
    ·exact ih.signed s r h hf
    ·split at h
     ·cases h
     ·rename_i r1 h1
      have w1:=ih.betw _ _ _ h1 hf
      exact w1.trans (ih.loop _ _ _ _ h w1.fit)
   ·intro lvl n s r h hf
    rw [loopP] at h
    split at h
    ·rename_i hk
     split at h
     ·cases h
     ·rename_i r1 h1
      have w0:=Went.next hT hf (sgn_kind hk)
      have w1:=w0.trans (ih.betw _ _ _ h1 w0.fit)
      exact w1.trans (ih.loop _ _ _ _ h w1.fit)
    ·injection h with h;subst h;exact Went.refl hf
   ·intro s r h hf
    rw [signedP] at h
    split at h
    ·rename_i hk
     split at h
     ·cases h
     ·rename_i r1 h1
      injection h with h;subst h
      obtain ⟨g1,g2,g3⟩:=enter_fit hT hf (isOp_kind hk)
      exact Went.leave g2 g3 (cur_err (isOp_kind hk)) hf (ih.signed _ _ h1 g1)
    split at h
    ·rename_i hk
     split at h
     ·cases h
     ·rename_i r1 h1
      injection h with h;subst h
      obtain ⟨g1,g2,g3⟩:=enter_fit hT hf (isOp_kind hk)
      exact Went.leave g2 g3 (cur_err (isOp_kind hk)) hf (ih.signed _ _ h1 g1)
    ·exact ih.hundred _ _ h hf
   ·intro s r h hf
    rw [hundredP] at h
    split at h
    ·cases h
    ·rename_i r1 h1
     have w1:=ih.prim _ _ h1 hf
     exact w1.trans (ih.hloop _ _ _ h w1.fit)
   ·intro n s r h hf
    rw [hloopP] at h
    split at h
    ·rename_i hk
     have w0:=Went.next hT hf (isOp_kind hk)
     exact w0.trans (ih.hloop _ _ _ h w0.fit)
    ·injection h with h;subst h;exact Went.refl hf
   ·intro s r h hf
    rw [primP] at h
    split at h
    ·rename_i hk
     split at h
     ·injection h with h;subst h;exact Went.fail hf 10 (by decide)
     ·injection h with h;subst h;exact Went.next hT hf (by rw [hk];decide)
    split at h
    ·rename_i hk
     injection h with h;subst h;exact Went.next hT hf (by omega)
    split at h
    ·rename_i hk
     injection h with h;subst h;exact Went.next hT hf (by omega)
    split at h
    ·rename_i hk
     injection h with h;subst h;exact Went.area hT hf hk
    split at h
    ·rename_i hk
     exact ih.name _ _ h hf hk
    split at h
    ·rename_i hk
     split at h
     ·cases h
     ·rename_i r1 h1
      injection h with h;subst h
      obtain ⟨g1,g2,g3⟩:=enter_fit hT hf (isOp_kind hk)
      have w1:=ih.betw _ _ _ h1 g1
      exact Went.leave g2 g3 (cur_err (isOp_kind hk)) hf (w1.trans (Went.must hT w1.fit _))
    ·injection h with h;subst h;exact Went.fail hf 10 (by decide)
   ·intro s r h hf hk3
    have h0:s.err=0:=cur_err (T:=T) (by omega)
    have hn:=hf.next hT (by omega)
    rw [nameP] at h
    split at h
    ·rename_i hk
     obtain ⟨e1,e2,e3⟩:=enter_err hT hf h0
     split at h
     ·injection h with h;subst h
      exact Went.leave e2 (by omega) h0 hf (Went.refl e1)
     ·rename_i he
      split at h
      ·cases h
      ·rename_i r1 h1
       injection h with h;subst h
       obtain ⟨g1,g2,g3,_⟩:=enter2 hT hf (by omega) (by simpa using he)
       have hl:=hT.more (s.i+1) hn.1.i (by omega)
       have g4:Fit T (enterP T s).next.next:=⟨by show (enterP T s).i+1+1<_;omega,g1.d0,g1.d1,g1.d2⟩
       exact Went.leave (s1:=(enterP T s).next.next) g2 (by show s.i<=(enterP T s).i+1+1;omega) h0 hf (ih.args _ _ h1 g4)
    split at h
    ·injection h with h;subst h;exact Went.next hT hf (by omega)
    split at h
    ·injection h with h;subst h;exact Went.next hT hf (by omega)
    ·injection h with h;subst h;exact Went.fail hf 10 (by decide)
   ·intro s r h hf
    rw [argsP] at h
    split at h
    ·rename_i hk
     injection h with h;subst h;exact Went.next hT hf (isOp_kind hk)
    ·exact ih.aloop _ _ _ h hf
   ·intro l s r h hf
    rw [aloopP] at h
    split at h
    ·injection h with h;subst h;exact Went.refl hf
    ·rename_i he
     split at h
     ·cases h
     ·rename_i r1 h1
      have w1:Went T s r1.2:=by
       split at h1
       ·injection h1 with h1;subst h1;exact Went.refl hf
       ·exact ih.betw _ _ _ h1 hf
      split at h
      ·rename_i hk
       have w2:=w1.trans (Went.next hT w1.fit (isOp_kind hk))
       exact w2.trans (ih.aloop _ _ _ h w2.fit)
      ·injection h with h;subst h;exact w1.trans (Went.must hT w1.fit _)
end
end Go.A
namespace Go.A
open Go.Proofs
/-! 31: tabular/token.Lex -/
def c31_18:ACode := .seq (.seq (.ops [ oq 13 (.mv (.t 5)),oq 14 (.nc (.t 13)),oq 15 (.fa 1 (.t 14)),oq 16 (.ld none (.t 15)),oq 17 (.mv (.t 0)),oq 18 (.lenS (.t 17)),oq 19 (.bin .lss (.t 16) (.t 18))]) (.cond (.t 19) .skip (.exit 0))) (.block 1 (.seq (.ops [ oq 20 (.mv (.t 5)),oe 21 (.call 66 [(.t 20)]),oq 6 (.mv (.t 21))]) (.seq (.ops [ oq 22 (.mv (.t 6)),oq 23 (.bin .neq (.t 22) (.v (.int .i64 0)))]) (.cond (.t 23) (.seq (.ops [ oq 24 (.mv (.t 5)),oq 25 (.nc (.t 24)),oq 26 (.fa 1 (.t 25)),oq 27 (.ld none (.t 26)),oq 28 (.mv (.t 6)),oq 2 (.mv (.v (.sl .full []))),oq 3 (.mv (.t 27)),oq 4 (.mv (.t 28))]) .ret) .skip))))
def c31_24:ACode := .seq (.ops [ oq 29 (.mv (.t 5)),oe 30 (.call 67 [(.t 29),(.v (.int .i64 0)),(.v (.str [])),(.v (.int .i64 0))])]) (.seq (.ops [ oq 31 (.mv (.t 5)),oq 32 (.nc (.t 31)),oq 33 (.fa 3 (.t 32)),oq 34 (.ld none (.t 33)),oq 2 (.mv (.t 34)),oq 3 (.mv (.v (.int .i64 0))),oq 4 (.mv (.v (.int .i64 0)))]) .ret)
def c31_28:ACode := .seq (.ops [ oq 2 (.mv (.v (.sl .full []))),oq 3 (.mv (.v (.int .i64 0))),oq 4 (.mv (.v (.int .i64 0)))]) (.seq (.seq (.ops [ oq 7 (.mv (.t 0)),oq 8 (.lenS (.t 7)),oq 9 (.bin .gtr (.t 8) (.v (.int .i64 2000)))]) (.cond (.t 9) (.seq (.ops [ oq 2 (.mv (.v (.sl .full []))),oq 3 (.mv (.v (.int .i64 0))),oq 4 (.mv (.v (.int .i64 11)))]) .ret) .skip)) (.seq (.ops [ oq 10 (.mv (.t 0)),oq 11 (.build [(.str []),(.int .i64 0),(.int .i64 0),(.sl .full [])] [(0,1,(.t 10))]),oe 12 (.box (.t 11)),oq 5 (.mv (.t 12))]) (.seq (.block 0 (.loop c31_18)) c31_24)))
@[go_sem] def c31_18_wp:=wp_of c31_18.eq_1
@[go_sem] def c31_24_wp:=wp_of c31_24.eq_1
@[go_sem] def c31_28_wp:=wp_of c31_28.eq_1
def c31:AFn:=⟨35,[.t 2,.t 3,.t 4],c31_28⟩
theorem c31_ok:compF Tryz.prog Tryz.f31=some c31:=by kernel_rfl
theorem a31 {args:List AV} {σ:ASt} {R:AV->ASt->Prop} (hl:args.length<=35) (h:c31_28.wp Tryz.prog (RetQ [.t 2,.t 3,.t 4] R) (init args) σ):ACalls Tryz.prog 31 args σ R:=acalls_of Tryz.func31 c31_ok hl h
/-! 66: (*tabular/token.lexer).next -/
def c66_39:ACode := .seq (.ops [ oq 2 (.mv (.v (.int .i64 0)))]) (.seq (.ops [ oq 6 (.mv (.t 0)),oe 7 (.call 101 [(.t 6)]),oq 5 (.mv (.t 7)),oq 8 (.ext 0 (.t 5)),oq 9 (.ext 1 (.t 5)),oq 3 (.mv (.t 8)),oq 4 (.mv (.t 9))]) (.seq (.block 0 (.seq (.ops [ oq 15 (.mv (.t 4)),oq 16 (.bin .lss (.t 15) (.v (.int .i64 0))),oq 14 (.mv (.t 16))]) (.cond (.t 14) (.seq (.ops [ oq 2 (.mv (.v (.int .i64 10)))]) .ret) (.seq (.seq (.ops [ oq 18 (.mv (.t 3)),oq 19 (.bin .eql (.t 18) (.v (.int .i32 32))),oq 17 (.mv (.t 19))]) (.cond (.t 17) .skip (.seq (.ops [ oq 20 (.mv (.t 3)),oq 21 (.bin .eql (.t 20) (.v (.int .i32 9))),oq 17 (.mv (.t 21))]) (.cond (.t 17) .skip (.ops [ oq 22 (.mv (.t 3)),oq 23 (.bin .eql (.t 22) (.v (.int .i32 10))),oq 17 (.mv (.t 23))]))))) (.cond (.t 17) (.ops [ oq 24 (.mv (.t 0)),oq 25 (.mv (.t 0)),oq 26 (.nc (.t 25)),oq 27 (.fa 1 (.t 26)),oq 28 (.ld none (.t 27)),oq 29 (.mv (.t 4)),oq 30 (.bin .add (.t 28) (.t 29)),oe 31 (.call 102 [(.t 24),(.t 30)])]) (.seq (.ops [ oq 33 (.mv (.t 3)),oq 34 (.bin .lss (.t 33) (.v (.int .i32 128))),oq 35 (.mv (.t 34)),⟨some 36,some (35,true),.q (.mv (.t 3)),[]⟩,⟨some 37,some (35,true),.q (.conv .u8 (.t 36)),[]⟩,⟨some 38,some (35,true),.e (.call 103 [(.t 37)]),[]⟩,oq 39 (.pick (.t 35) (.t 38) (.v (.bool false))),oq 32 (.mv (.t 39))]) (.cond (.t 32) (.seq (.ops [ oq 40 (.mv (.t 0)),oe 41 (.call 104 [(.t 40)]),oq 2 (.mv (.t 41))]) .ret) (.seq (.ops [ oq 43 (.mv (.t 3)),oq 44 (.bin .eql (.t 43) (.v (.int .i32 34))),oq 42 (.mv (.t 44))]) (.cond (.t 42) (.seq (.ops [ oq 45 (.mv (.t 0)),oe 46 (.call 105 [(.t 45)]),oq 2 (.mv (.t 46))]) .ret) (.seq (.ops [ oq 48 (.mv (.t 3)),oq 49 (.bin .eql (.t 48) (.v (.int .i32 35))),oq 47 (.mv (.t 49))]) (.cond (.t 47) (.seq (.ops [ oq 50 (.mv (.t 0)),oe 51 (.call 106 [(.t 50)]),oq 2 (.mv (.t 51))]) .ret) (.seq (.ops [ oq 10 (.mv (.t 0)),oq 11 (.mv (.t 3)),oq 12 (.mv (.t 4)),oe 13 (.call 107 [(.t 10),(.t 11),(.t 12)]),oq 2 (.mv (.t 13))]) .ret)))))))))))) (.seq (.ops [ oq 2 (.mv (.v (.int .i64 0)))]) .ret)))
@[go_sem] def c66_39_wp:=wp_of c66_39.eq_1
def c66:AFn:=⟨52,[.t 2],c66_39⟩
theorem c66_ok:compF Tryz.prog Tryz.f66=some c66:=by kernel_rfl
theorem a66 {args:List AV} {σ:ASt} {R:AV->ASt->Prop} (hl:args.length<=52) (h:c66_39.wp Tryz.prog (RetQ [.t 2] R) (init args) σ):ACalls Tryz.prog 66 args σ R:=acalls_of Tryz.func66 c66_ok hl h
/-! 67: (*tabular/token.lexer).put -/
def c67_4:ACode := .seq (.ops [ oq 8 (.mv (.t 0)),oq 9 (.mv (.t 0)),oq 10 (.nc (.t 9)),oq 11 (.fa 3 (.t 10)),oq 12 (.ld none (.t 11)),oq 13 (.mv (.t 1)),oq 14 (.mv (.t 2)),oq 15 (.mv (.t 0)),oq 16 (.nc (.t 15)),oq 17 (.fa 1 (.t 16)),oq 18 (.ld none (.t 17)),oq 19 (.mv (.t 0)),oq 20 (.nc (.t 19)),oq 21 (.fa 2 (.t 20)),oq 22 (.ld none (.t 21)),oq 23 (.build [(.int .i64 0),(.str []),(.int .i64 0),(.int .i64 0)] [(0,1,(.t 13)),(1,1,(.t 14)),(2,1,(.t 18)),(3,1,(.t 22))]),oq 24 (.bsl 4 [(.t 23)]),oe 25 (.app 83 4 40 [(.int .i64 0),(.str []),(.int .i64 0),(.int .i64 0)] (.t 12) (.t 24)),oq 26 (.nc (.t 8)),oq 27 (.fa 3 (.t 26)),oz (.store 1 (.t 27) (.t 25))]) (.seq (.ops [ oq 28 (.mv (.t 0)),oq 29 (.nc (.t 28)),oq 30 (.fa 2 (.t 29)),oq 31 (.ld none (.t 30)),oq 32 (.mv (.t 0)),oq 33 (.nc (.t 32)),oq 34 (.fa 0 (.t 33)),oq 35 (.ld none (.t 34)),oq 36 (.mv (.t 0)),oq 37 (.nc (.t 36)),oq 38 (.fa 1 (.t 37)),oq 39 (.ld none (.t 38)),oq 40 (.mv (.t 0)),oq 41 (.nc (.t 40)),oq 42 (.fa 1 (.t 41)),oq 43 (.ld none (.t 42)),oq 44 (.mv (.t 3)),oq 45 (.bin .add (.t 43) (.t 44)),oq 46 (.sls (true,0) (.t 35) (.t 39) (.t 45)),⟨some 47,none,.e (.call 108 [(.t 46)]),[⟨none,.ld none (.t 30),31⟩]⟩,oq 48 (.bin .add (.t 31) (.t 47)),oq 49 (.nc (.t 28)),oq 50 (.fa 2 (.t 49)),oz (.store 1 (.t 50) (.t 48))]) (.ops [ oq 51 (.mv (.t 0)),oq 52 (.nc (.t 51)),oq 53 (.fa 1 (.t 52)),oq 54 (.ld none (.t 53)),oq 55 (.mv (.t 3)),oq 56 (.bin .add (.t 54) (.t 55)),oq 57 (.nc (.t 51)),oq 58 (.fa 1 (.t 57)),oz (.store 1 (.t 58) (.t 56))]))
@[go_sem] def c67_4_wp:=wp_of c67_4.eq_1
def c67:AFn:=⟨59,[],c67_4⟩
theorem c67_ok:compF Tryz.prog Tryz.f67=some c67:=by kernel_rfl
theorem a67 {args:List AV} {σ:ASt} {R:AV->ASt->Prop} (hl:args.length<=59) (h:c67_4.wp Tryz.prog (RetQ [] R) (init args) σ):ACalls Tryz.prog 67 args σ R:=acalls_of Tryz.func67 c67_ok hl h
/-! 101: (*tabular/token.lexer).sign -/
def c101_17:ACode := .seq (.ops [ oq 2 (.mv (.v (.int .i32 0))),oq 3 (.mv (.v (.int .i64 0)))]) (.seq (.seq (.ops [ oq 6 (.mv (.t 0)),oq 7 (.nc (.t 6)),oq 8 (.fa 1 (.t 7)),oq 9 (.ld none (.t 8)),oq 10 (.mv (.t 0)),oq 11 (.nc (.t 10)),oq 12 (.fa 0 (.t 11)),oq 13 (.ld none (.t 12)),oq 14 (.lenS (.t 13)),oq 15 (.bin .geq (.t 9) (.t 14))]) (.cond (.t 15) (.seq (.ops [ oq 2 (.mv (.v (.int .i32 0))),oq 3 (.mv (.v (.int .i64 0)))]) .ret) .skip)) (.seq (.ops [ oq 17 (.mv (.t 0)),oq 18 (.nc (.t 17)),oq 19 (.fa 0 (.t 18)),oq 20 (.ld none (.t 19)),oq 21 (.mv (.t 0)),oq 22 (.nc (.t 21)),oq 23 (.fa 1 (.t 22)),oq 24 (.ld none (.t 23)),oq 25 (.slfrom (true,0) (.t 20) (.t 24)),oe 26 (.call 126 [(.t 25)]),oq 16 (.mv (.t 26)),oq 27 (.ext 0 (.t 16)),oq 28 (.ext 1 (.t 16)),oq 4 (.mv (.t 27)),oq 5 (.mv (.t 28))]) (.seq (.seq (.ops [ oq 29 (.mv (.t 4)),oq 30 (.bin .eql (.t 29) (.v (.int .i32 65533))),oq 31 (.mv (.t 30)),⟨some 32,some (31,true),.q (.mv (.t 5)),[]⟩,⟨some 33,some (31,true),.q (.bin .eql (.t 32) (.v (.int .i64 1))),[]⟩,oq 34 (.pick (.t 31) (.t 33) (.v (.bool false)))]) (.cond (.t 34) (.seq (.ops [ oq 2 (.mv (.v (.int .i32 0))),oq 3 (.mv (.v (.int .i64 (-1))))]) .ret) .skip)) (.seq (.ops [ oq 35 (.mv (.t 4)),oq 36 (.mv (.t 5)),oq 2 (.mv (.t 35)),oq 3 (.mv (.t 36))]) .ret))))
@[go_sem] def c101_17_wp:=wp_of c101_17.eq_1
def c101:AFn:=⟨37,[.t 2,.t 3],c101_17⟩
theorem c101_ok:compF Tryz.prog Tryz.f101=some c101:=by kernel_rfl
theorem a101 {args:List AV} {σ:ASt} {R:AV->ASt->Prop} (hl:args.length<=37) (h:c101_17.wp Tryz.prog (RetQ [.t 2,.t 3] R) (init args) σ):ACalls Tryz.prog 101 args σ R:=acalls_of Tryz.func101 c101_ok hl h
/-! 102: (*tabular/token.lexer).pass -/
def c102_2:ACode := .seq (.ops [ oq 4 (.mv (.t 0)),oq 5 (.nc (.t 4)),oq 6 (.fa 2 (.t 5)),oq 7 (.ld none (.t 6)),oq 8 (.mv (.t 0)),oq 9 (.nc (.t 8)),oq 10 (.fa 0 (.t 9)),oq 11 (.ld none (.t 10)),oq 12 (.mv (.t 0)),oq 13 (.nc (.t 12)),oq 14 (.fa 1 (.t 13)),oq 15 (.ld none (.t 14)),oq 16 (.mv (.t 1)),oq 17 (.sls (true,0) (.t 11) (.t 15) (.t 16)),⟨some 18,none,.e (.call 108 [(.t 17)]),[⟨none,.ld none (.t 6),7⟩]⟩,oq 19 (.bin .add (.t 7) (.t 18)),oq 20 (.nc (.t 4)),oq 21 (.fa 2 (.t 20)),oz (.store 1 (.t 21) (.t 19))]) (.ops [ oq 22 (.mv (.t 0)),oq 23 (.mv (.t 1)),oq 24 (.nc (.t 22)),oq 25 (.fa 1 (.t 24)),oz (.store 1 (.t 25) (.t 23))])
@[go_sem] def c102_2_wp:=wp_of c102_2.eq_1
def c102:AFn:=⟨26,[],c102_2⟩
theorem c102_ok:compF Tryz.prog Tryz.f102=some c102:=by kernel_rfl
theorem a102 {args:List AV} {σ:ASt} {R:AV->ASt->Prop} (hl:args.length<=26) (h:c102_2.wp Tryz.prog (RetQ [] R) (init args) σ):ACalls Tryz.prog 102 args σ R:=acalls_of Tryz.func102 c102_ok hl h
/-! 104: (*tabular/token.lexer).words -/
def c104_7:ACode := .seq (.seq (.ops [ oq 5 (.mv (.t 0)),oq 6 (.nc (.t 5)),oq 7 (.fa 1 (.t 6)),oq 8 (.ld none (.t 7)),oq 9 (.mv (.t 3)),oq 10 (.bin .add (.t 8) (.t 9)),oq 11 (.mv (.t 0)),oq 12 (.nc (.t 11)),oq 13 (.fa 0 (.t 12)),oq 14 (.ld none (.t 13)),oq 15 (.lenS (.t 14)),oq 16 (.bin .lss (.t 10) (.t 15)),oq 17 (.mv (.t 16)),⟨some 18,some (17,true),.q (.mv (.t 0)),[]⟩,⟨some 19,some (17,true),.q (.nc (.t 18)),[]⟩,⟨some 20,some (17,true),.q (.fa 0 (.t 19)),[]⟩,⟨some 21,some (17,true),.q (.ld none (.t 20)),[]⟩,⟨some 22,some (17,true),.q (.mv (.t 0)),[]⟩,⟨some 23,some (17,true),.q (.nc (.t 22)),[]⟩,⟨some 24,some (17,true),.q (.fa 1 (.t 23)),[]⟩,⟨some 25,some (17,true),.q (.ld none (.t 24)),[]⟩,⟨some 26,some (17,true),.q (.mv (.t 3)),[]⟩,⟨some 27,some (17,true),.q (.bin .add (.t 25) (.t 26)),[]⟩,⟨some 28,some (17,true),.q (.idx (.t 21) (.t 27)),[]⟩,⟨some 29,some (17,true),.e (.call 103 [(.t 28)]),[]⟩,oq 30 (.pick (.t 17) (.t 29) (.v (.bool false)))]) (.cond (.t 30) .skip (.exit 0))) (.block 1 (.ops [ oq 31 (.mv (.t 3)),oq 32 (.bin .add (.t 31) (.v (.int .i64 1))),oq 3 (.mv (.t 32))]))
def c104_29:ACode := .seq (.ops [ oq 33 (.mv (.t 0)),oq 34 (.nc (.t 33)),oq 35 (.fa 0 (.t 34)),oq 36 (.ld none (.t 35)),oq 37 (.mv (.t 0)),oq 38 (.nc (.t 37)),oq 39 (.fa 1 (.t 38)),oq 40 (.ld none (.t 39)),oq 41 (.mv (.t 0)),oq 42 (.nc (.t 41)),oq 43 (.fa 1 (.t 42)),oq 44 (.ld none (.t 43)),oq 45 (.mv (.t 3)),oq 46 (.bin .add (.t 44) (.t 45)),oq 47 (.sls (true,0) (.t 36) (.t 40) (.t 46)),oq 4 (.mv (.t 47))]) (.seq (.block 2 (.seq (.ops [ oq 49 (.mv (.t 4)),oe 50 (.call 130 [(.t 49)]),oq 48 (.mv (.t 50))]) (.cond (.t 48) (.ops [ oq 51 (.mv (.t 0)),oq 52 (.mv (.t 4)),oq 53 (.mv (.t 3)),oe 54 (.call 67 [(.t 51),(.v (.int .i64 1)),(.t 52),(.t 53)])]) (.seq (.ops [ oq 56 (.mv (.t 4)),oe 57 (.call 131 [(.t 56)]),oq 55 (.mv (.t 57))]) (.cond (.t 55) (.ops [ oq 58 (.mv (.t 0)),oq 59 (.mv (.t 4)),oe 60 (.call 132 [(.t 59)]),oq 61 (.mv (.t 3)),oe 62 (.call 67 [(.t 58),(.v (.int .i64 4)),(.t 60),(.t 61)])]) (.seq (.ops [ oq 64 (.mv (.t 4)),oe 65 (.call 133 [(.t 64)]),oq 63 (.mv (.t 65))]) (.cond (.t 63) (.ops [ oq 66 (.mv (.t 0)),oq 67 (.mv (.t 4)),oe 68 (.call 132 [(.t 67)]),oq 69 (.mv (.t 3)),oe 70 (.call 67 [(.t 66),(.v (.int .i64 3)),(.t 68),(.t 69)])]) (.seq (.ops [ oq 2 (.mv (.v (.int .i64 10)))]) .ret)))))))) (.seq (.ops [ oq 2 (.mv (.v (.int .i64 0)))]) .ret))
def c104_32:ACode := .seq (.ops [ oq 2 (.mv (.v (.int .i64 0)))]) (.seq (.ops [ oq 3 (.mv (.v (.int .i64 0)))]) (.seq (.block 0 (.loop c104_7)) c104_29))
@[go_sem] def c104_7_wp:=wp_of c104_7.eq_1
@[go_sem] def c104_29_wp:=wp_of c104_29.eq_1
@[go_sem] def c104_32_wp:=wp_of c104_32.eq_1
def c104:AFn:=⟨71,[.t 2],c104_32⟩
theorem c104_ok:compF Tryz.prog Tryz.f104=some c104:=by kernel_rfl
theorem a104 {args:List AV} {σ:ASt} {R:AV->ASt->Prop} (hl:args.length<=71) (h:c104_32.wp Tryz.prog (RetQ [.t 2] R) (init args) σ):ACalls Tryz.prog 104 args σ R:=acalls_of Tryz.func104 c104_ok hl h
/-! 105: (*tabular/token.lexer).quoted -/
def c105_43:ACode := .seq (.seq (.ops [ oq 54 (.mv (.t 7)),oq 55 (.bin .neq (.t 54) (.v (.int .i32 34)))]) (.cond (.t 55) (.seq (.ops [ oq 56 (.mv (.t 7)),oe 57 (.call 134 [(.t 3),(.t 56)])]) (.seq (.ops [ oq 58 (.mv (.t 6)),oq 59 (.bin .add (.t 58) (.v (.int .i64 1))),oq 60 (.mv (.t 7)),oe 61 (.call 135 [(.t 60)]),oq 62 (.bin .add (.t 59) (.t 61)),oq 5 (.mv (.t 62))]) (.exit 1))) .skip)) (.seq (.seq (.ops [ oq 63 (.mv (.t 8)),oq 64 (.bin .add (.t 63) (.v (.int .i64 1))),oq 65 (.mv (.t 0)),oq 66 (.nc (.t 65)),oq 67 (.fa 0 (.t 66)),oq 68 (.ld none (.t 67)),oq 69 (.lenS (.t 68)),oq 70 (.bin .lss (.t 64) (.t 69)),oq 71 (.mv (.t 70)),⟨some 72,some (71,true),.q (.mv (.t 0)),[]⟩,⟨some 73,some (71,true),.q (.nc (.t 72)),[]⟩,⟨some 74,some (71,true),.q (.fa 0 (.t 73)),[]⟩,⟨some 75,some (71,true),.q (.ld none (.t 74)),[]⟩,⟨some 76,some (71,true),.q (.mv (.t 8)),[]⟩,⟨some 77,some (71,true),.q (.bin .add (.t 76) (.v (.int .i64 1))),[]⟩,⟨some 78,some (71,true),.q (.idx (.t 75) (.t 77)),[]⟩,⟨some 79,some (71,true),.q (.bin .eql (.t 78) (.v (.int .u8 34))),[]⟩,oq 80 (.pick (.t 71) (.t 79) (.v (.bool false)))]) (.cond (.t 80) (.seq (.ops [ oe 81 (.call 83 [(.t 3),(.v (.int .u8 34))])]) (.seq (.ops [ oq 82 (.mv (.t 6)),oq 83 (.bin .add (.t 82) (.v (.int .i64 3))),oq 5 (.mv (.t 83))]) (.exit 1))) .skip)) (.seq (.ops [ oq 84 (.mv (.t 6)),oq 85 (.bin .add (.t 84) (.v (.int .i64 2))),oq 5 (.mv (.t 85))]) (.seq (.ops [ oq 4 (.mv (.v (.bool false)))]) (.exit 0))))
def c105_50:ACode := .seq (.ops [ oe 22 (.nxt (.t 21)),oq 23 (.ext 0 (.t 22))]) (.seq (.cond (.t 23) .skip (.exit 0)) (.block 1 (.seq (.ops [ oq 24 (.ext 1 (.t 22)),oq 25 (.ext 2 (.t 22)),oq 6 (.mv (.t 24)),oq 7 (.mv (.t 25))]) (.seq (.seq (.ops [ oq 26 (.mv (.t 6)),oq 27 (.bin .add (.t 26) (.v (.int .i64 1))),oq 28 (.mv (.t 5)),oq 29 (.bin .lss (.t 27) (.t 28))]) (.cond (.t 29) (.exit 1) .skip)) (.seq (.ops [ oq 30 (.mv (.t 0)),oq 31 (.nc (.t 30)),oq 32 (.fa 1 (.t 31)),oq 33 (.ld none (.t 32)),oq 34 (.bin .add (.t 33) (.v (.int .i64 1))),oq 35 (.mv (.t 6)),oq 36 (.bin .add (.t 34) (.t 35)),oq 8 (.mv (.t 36))]) (.seq (.seq (.ops [ oq 37 (.mv (.t 7)),oq 38 (.bin .eql (.t 37) (.v (.int .i32 65533)))]) (.cond (.t 38) (.seq (.ops [ oq 40 (.mv (.t 0)),oq 41 (.nc (.t 40)),oq 42 (.fa 0 (.t 41)),oq 43 (.ld none (.t 42)),oq 44 (.mv (.t 8)),oq 45 (.slfrom (true,0) (.t 43) (.t 44)),oe 46 (.call 126 [(.t 45)]),oq 39 (.mv (.t 46)),oq 47 (.ext 0 (.t 39)),oq 48 (.ext 1 (.t 39)),oq 9 (.mv (.t 47)),oq 10 (.mv (.t 48))]) (.seq (.ops [ oq 49 (.mv (.t 10)),oq 50 (.bin .eql (.t 49) (.v (.int .i64 1)))]) (.cond (.t 50) (.seq (.ops [ oq 51 (.mv (.t 0)),oq 52 (.mv (.t 8)),oe 53 (.call 102 [(.t 51),(.t 52)])]) (.seq (.ops [ oq 2 (.mv (.v (.int .i64 10)))]) .ret)) .skip))) .skip)) c105_43))))))
def c105_63:ACode := .seq (.seq (.ops [ oq 86 (.mv (.t 4))]) (.cond (.t 86) (.seq (.ops [ oq 2 (.mv (.v (.int .i64 10)))]) .ret) .skip)) (.seq (.ops [ oq 87 (.mv (.t 0)),oe 88 (.call 49 [(.t 3)]),oq 89 (.mv (.t 5)),oe 90 (.call 67 [(.t 87),(.v (.int .i64 2)),(.t 88),(.t 89)])]) (.seq (.ops [ oq 2 (.mv (.v (.int .i64 0)))]) .ret))
def c105_68:ACode := .seq (.ops [ oq 2 (.mv (.v (.int .i64 0)))]) (.seq (.ops [ oe 3 (.allocT 100)]) (.seq (.ops [ oq 4 (.mv (.v (.bool true)))]) (.seq (.ops [ oq 5 (.mv (.v (.int .i64 1)))]) (.seq (.seq (.ops [ oq 11 (.mv (.t 0)),oq 12 (.nc (.t 11)),oq 13 (.fa 0 (.t 12)),oq 14 (.ld none (.t 13)),oq 15 (.mv (.t 0)),oq 16 (.nc (.t 15)),oq 17 (.fa 1 (.t 16)),oq 18 (.ld none (.t 17)),oq 19 (.bin .add (.t 18) (.v (.int .i64 1))),oq 20 (.slfrom (true,0) (.t 14) (.t 19)),oe 21 (.rng (.t 20))]) (.block 0 (.loop c105_50))) c105_63))))
@[go_sem] def c105_43_wp:=wp_of c105_43.eq_1
@[go_sem] def c105_50_wp:=wp_of c105_50.eq_1
@[go_sem] def c105_63_wp:=wp_of c105_63.eq_1
@[go_sem] def c105_68_wp:=wp_of c105_68.eq_1
def c105:AFn:=⟨91,[.t 2],c105_68⟩
theorem c105_ok:compF Tryz.prog Tryz.f105=some c105:=by kernel_rfl
theorem a105 {args:List AV} {σ:ASt} {R:AV->ASt->Prop} (hl:args.length<=91) (h:c105_68.wp Tryz.prog (RetQ [.t 2] R) (init args) σ):ACalls Tryz.prog 105 args σ R:=acalls_of Tryz.func105 c105_ok hl h
/-! 106: (*tabular/token.lexer).failure -/
def c106_19:ACode := .seq (.ops [ oq 9 (.bin .lss (.t 8) (.t 7))]) (.seq (.cond (.t 9) .skip (.exit 0)) (.seq (.block 1 (.seq (.ops [ oq 10 (.ia 1 (.t 6) (.t 8)),oq 11 (.ld none (.t 10)),oq 4 (.mv (.t 11))]) (.seq (.ops [ oq 12 (.mv (.t 4)),oq 13 (.lenS (.t 12)),oq 5 (.mv (.t 13))]) (.seq (.ops [ oq 14 (.mv (.t 0)),oq 15 (.nc (.t 14)),oq 16 (.fa 1 (.t 15)),oq 17 (.ld none (.t 16)),oq 18 (.mv (.t 5)),oq 19 (.bin .add (.t 17) (.t 18)),oq 20 (.mv (.t 0)),oq 21 (.nc (.t 20)),oq 22 (.fa 0 (.t 21)),oq 23 (.ld none (.t 22)),oq 24 (.lenS (.t 23)),oq 25 (.bin .leq (.t 19) (.t 24)),oq 26 (.mv (.t 25)),⟨some 27,some (26,true),.q (.mv (.t 0)),[]⟩,⟨some 28,some (26,true),.q (.nc (.t 27)),[]⟩,⟨some 29,some (26,true),.q (.fa 0 (.t 28)),[]⟩,⟨some 30,some (26,true),.q (.ld none (.t 29)),[]⟩,⟨some 31,some (26,true),.q (.mv (.t 0)),[]⟩,⟨some 32,some (26,true),.q (.nc (.t 31)),[]⟩,⟨some 33,some (26,true),.q (.fa 1 (.t 32)),[]⟩,⟨some 34,some (26,true),.q (.ld none (.t 33)),[]⟩,⟨some 35,some (26,true),.q (.mv (.t 0)),[]⟩,⟨some 36,some (26,true),.q (.nc (.t 35)),[]⟩,⟨some 37,some (26,true),.q (.fa 1 (.t 36)),[]⟩,⟨some 38,some (26,true),.q (.ld none (.t 37)),[]⟩,⟨some 39,some (26,true),.q (.mv (.t 5)),[]⟩,⟨some 40,some (26,true),.q (.bin .add (.t 38) (.t 39)),[]⟩,⟨some 41,some (26,true),.q (.sls (true,0) (.t 30) (.t 34) (.t 40)),[]⟩,⟨some 43,some (26,true),.q (.mv (.t 4)),[]⟩,⟨some 42,some (26,true),.e (.call 132 [(.t 41)]),[]⟩,⟨some 44,some (26,true),.q (.bin .eql (.t 42) (.t 43)),[]⟩,oq 45 (.pick (.t 26) (.t 44) (.v (.bool false)))]) (.cond (.t 45) (.seq (.ops [ oq 46 (.mv (.t 0)),oq 47 (.mv (.t 4)),oq 48 (.mv (.t 5)),oe 49 (.call 67 [(.t 46),(.v (.int .i64 5)),(.t 47),(.t 48)])]) (.seq (.ops [ oq 2 (.mv (.v (.int .i64 0)))]) .ret)) .skip))))) (.ops [ oq 50 (.bin .add (.t 8) (.v (.int .i64 1))),oq 8 (.mv (.t 50))])))
def c106_26:ACode := .seq (.ops [ oq 2 (.mv (.v (.int .i64 0)))]) (.seq (.seq (.ops [ oe 6 (.call 119 []),oq 7 (.len (.t 6)),oq 8 (.mv (.v (.int .i64 0)))]) (.block 0 (.loop c106_19))) (.seq (.ops [ oq 2 (.mv (.v (.int .i64 10)))]) .ret))
@[go_sem] def c106_19_wp:=wp_of c106_19.eq_1
@[go_sem] def c106_26_wp:=wp_of c106_26.eq_1
def c106:AFn:=⟨51,[.t 2],c106_26⟩
theorem c106_ok:compF Tryz.prog Tryz.f106=some c106:=by kernel_rfl
theorem a106 {args:List AV} {σ:ASt} {R:AV->ASt->Prop} (hl:args.length<=51) (h:c106_26.wp Tryz.prog (RetQ [.t 2] R) (init args) σ):ACalls Tryz.prog 106 args σ R:=acalls_of Tryz.func106 c106_ok hl h
/-! 107: (*tabular/token.lexer).op -/
def c107_26:ACode := .seq (.ops [ oq 21 (.bin .lss (.t 20) (.t 19))]) (.seq (.cond (.t 21) .skip (.exit 0)) (.seq (.block 1 (.seq (.ops [ oq 22 (.ia 1 (.t 18) (.t 20)),oq 23 (.ld none (.t 22)),oq 9 (.mv (.t 23))]) (.seq (.ops [ oq 24 (.mv (.t 0)),oq 25 (.nc (.t 24)),oq 26 (.fa 0 (.t 25)),oq 27 (.ld none (.t 26)),oq 28 (.mv (.t 0)),oq 29 (.nc (.t 28)),oq 30 (.fa 1 (.t 29)),oq 31 (.ld none (.t 30)),oq 32 (.slfrom (true,0) (.t 27) (.t 31)),oq 33 (.mv (.t 9)),oe 34 (.call 137 [(.t 32),(.t 33)])]) (.cond (.t 34) (.seq (.ops [ oq 35 (.mv (.t 0)),oq 36 (.mv (.t 9)),oe 37 (.call 67 [(.t 35),(.v (.int .i64 6)),(.t 36),(.v (.int .i64 2))])]) (.seq (.ops [ oq 6 (.mv (.v (.int .i64 0)))]) .ret)) .skip)))) (.ops [ oq 38 (.bin .add (.t 20) (.v (.int .i64 1))),oq 20 (.mv (.t 38))])))
def c107_39:ACode := .seq (.seq (.ops [ oq 39 (.mv (.t 0)),oq 40 (.nc (.t 39)),oq 41 (.fa 0 (.t 40)),oq 42 (.ld none (.t 41)),oq 43 (.mv (.t 0)),oq 44 (.nc (.t 43)),oq 45 (.fa 1 (.t 44)),oq 46 (.ld none (.t 45)),oq 47 (.idx (.t 42) (.t 46)),oq 48 (.bsl 1 [(.t 47)]),oq 49 (.b2s (.t 48)),oe 50 (.call 138 [(.v (.str [43,45,42,47,94,38,61,60,62,37,40,41,58,44])),(.t 49)]),oq 51 (.un .not (.t 50))]) (.cond (.t 51) (.seq (.ops [ oq 6 (.mv (.v (.int .i64 10)))]) .ret) .skip)) (.seq (.ops [ oq 52 (.mv (.t 0)),oq 53 (.mv (.t 0)),oq 54 (.nc (.t 53)),oq 55 (.fa 0 (.t 54)),oq 56 (.ld none (.t 55)),oq 57 (.mv (.t 0)),oq 58 (.nc (.t 57)),oq 59 (.fa 1 (.t 58)),oq 60 (.ld none (.t 59)),oq 61 (.mv (.t 0)),oq 62 (.nc (.t 61)),oq 63 (.fa 1 (.t 62)),oq 64 (.ld none (.t 63)),oq 65 (.bin .add (.t 64) (.v (.int .i64 1))),oq 66 (.sls (true,0) (.t 56) (.t 60) (.t 65)),oe 67 (.call 67 [(.t 52),(.v (.int .i64 6)),(.t 66),(.v (.int .i64 1))])]) (.seq (.ops [ oq 6 (.mv (.v (.int .i64 0)))]) .ret))
def c107_42:ACode := .seq (.ops [ oq 6 (.mv (.v (.int .i64 0)))]) (.seq (.seq (.ops [ oq 10 (.mv (.t 1)),oe 11 (.call 136 [(.t 10)]),oq 7 (.mv (.t 11))]) (.seq (.ops [ oq 12 (.mv (.t 7)),oq 13 (.bin .neq (.t 12) (.v (.str [])))]) (.cond (.t 13) (.seq (.ops [ oq 14 (.mv (.t 0)),oq 15 (.mv (.t 7)),oq 16 (.mv (.t 2)),oe 17 (.call 67 [(.t 14),(.v (.int .i64 6)),(.t 15),(.t 16)])]) (.seq (.ops [ oq 6 (.mv (.v (.int .i64 0)))]) .ret)) .skip))) (.seq (.seq (.ops [ oq 18 (.bsl 1 [(.v (.str [60,61])),(.v (.str [62,61])),(.v (.str [60,62]))]),oq 19 (.len (.t 18)),oq 20 (.mv (.v (.int .i64 0)))]) (.block 0 (.loop c107_26))) c107_39))
@[go_sem] def c107_26_wp:=wp_of c107_26.eq_1
@[go_sem] def c107_39_wp:=wp_of c107_39.eq_1
@[go_sem] def c107_42_wp:=wp_of c107_42.eq_1
def c107:AFn:=⟨68,[.t 6],c107_42⟩
theorem c107_ok:compF Tryz.prog Tryz.f107=some c107:=by kernel_rfl
theorem a107 {args:List AV} {σ:ASt} {R:AV->ASt->Prop} (hl:args.length<=68) (h:c107_42.wp Tryz.prog (RetQ [.t 6] R) (init args) σ):ACalls Tryz.prog 107 args σ R:=acalls_of Tryz.func107 c107_ok hl h
end Go.A
