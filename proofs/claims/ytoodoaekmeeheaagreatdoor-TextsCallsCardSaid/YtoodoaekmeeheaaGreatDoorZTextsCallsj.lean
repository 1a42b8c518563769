/- Part 10 of what TextsCalls leans on: Tcj Jb CodeJk Jk Tck CodeTcl Tcl Ms Mu My Mzt. -/
import Derived.Test.YtoodoaekmeeheaaGreatDoorProg
import Derived.KernelRfl
import Derived.Test.YtoodoaekmeeheaaGreatDoorRows
import Derived.ProofKit
import Derived.LaidMore
import Derived.OpenShut
import Derived.Stop.LaidErr
import Derived.MakeChecks
import Derived.SevenTiedAt
import Derived.Lay
import Derived.ChangeArms
import Derived.Lib.LaidU8
import Derived.Lib.LaidTab
import Derived.Shelf.Vars
import Derived.HandedShaped
import Derived.Test.YtoodoaekmeeheaaGreatDoorZTextsCallsi
set_option linter.defProp false
set_option linter.unusedSimpArgs false
set_option linter.unusedVariables false
set_option maxRecDepth 100000
section
attribute [local go_sem] reduceCtorEq Nat.reduceEqDiff Nat.reduceAdd Nat.reduceSub Nat.reduceMul Nat.reduceLeDiff Int.reduceLT Int.reduceLE Int.reduceEq Int.reduceNeg Int.reduceAdd Int.reduceSub Int.reduceMul true_imp_iff forall_const Nat.mul_one Int.reduceToNat Nat.reducePow Int.reducePow Bool.true_and Bool.false_and Bool.and_false
attribute [local go_sem ↓] reduceIte
namespace Go.A
open Go.Proofs Go.Lib
theorem r17text_gen {L:List PV} {f:Int} (hL:okA L) (i:Nat) (hi:i<L.length):Pure Tryz.prog 28 [arAV L f,.int .i64 i] (.tuple [arAV L (seen f (txtA L i).2),.str (txtA L i).1]):=by
 have hx : L[i]? = some (L[i]'hi) := List.getElem?_eq_getElem hi
 have h:=r17text_ok (f:=f) hx (hL _ (List.getElem_mem hi)).1
 unfold txtA
 rw [hx]
 exact h
theorem r17num_gen {L:List PV} {f:Int} (hL:okA L) (i:Nat) (o:Int):Pure Tryz.prog 23 [arAV L f,.int .i64 i,.int .i64 o] (.tuple [arAV L (seen f (numA L i o).2),.int .i64 (numA L i o).1]):=by
 unfold numA
 by_cases hi:i<L.length
 ·have hx : L[i]? = some (L[i]'hi) := List.getElem?_eq_getElem hi
  have hg:=hL _ (List.getElem_mem hi)
  have h:=r17number_ok (f:=f) i o hx hg.1 hg.2.1
  rw [hx]
  exact h
 ·rw [List.getElem?_eq_none (by omega)]
  dsimp only
  rw [seen_zero]
  exact r17number_none i o (by omega)
theorem whole_great {s:List UInt8} (h:Whole s):Whole (greatP s):=by
 have e:((pcs s).map greatP).flatten=greatP s:=by
  conv=>rhs;rw [<-pcs_flat s]
  simp only [greatP,List.map_flatten]
  rfl
 rw [<-e]
 refine whole_of fun p hp=>?_
 obtain ⟨q,hq,rfl⟩:=List.mem_map.1 hp
 exact vp_great (h q hq)
theorem fl_le (P:List (List UInt8)) (a b:Nat):((P.drop a).take b).flatten.length<=P.flatten.length:=by
 conv=>rhs;rw [<-List.take_append_drop a P,List.flatten_append]
 conv=>rhs;rw [<-List.take_append_drop b (P.drop a),List.flatten_append]
 simp
 omega
theorem left17 (s:List UInt8) (N:Nat):sidesP nLEFT s (N:Int) = .text (((pcs s).drop 0).take N).flatten:=by
 rw [left_law,skip_take,Int.toNat_natCast,List.drop_zero]
theorem right17 (s:List UInt8) (N:Nat):sidesP nRIGHT s (N:Int) = .text (((pcs s).drop ((pcs s).length-N)).take N).flatten:=by
 unfold sidesP
 rw [if_neg (by omega),if_neg (by decide),skip_drop]
 rw [show (max (((pcs s).length:Int)-N) 0).toNat=(pcs s).length-N by omega]
 rw [List.take_of_length_le (by rw [List.length_drop];omega)]
theorem mid_flat (s:List UInt8) (F N:Nat):(s.drop (skipP s (F:Int))).take (skipP (s.drop (skipP s (F:Int))) (N:Int))=(((pcs s).drop F).take N).flatten:=by
 rw [skip_take,skip_drop,Int.toNat_natCast,Int.toNat_natCast,pcs_skip]
theorem mid17 (s:List UInt8) (F N:Nat):midP s ((F:Int)+1) (N:Int) = .text (((pcs s).drop F).take N).flatten:=by
 rw [mid_law,mid_flat]
theorem repl17 (s w:List UInt8) (F N:Nat):replP s ((F:Int)+1) (N:Int) w=madeT (((((pcs s).drop 0).take F).flatten++w)++(((pcs s).drop (F+N)).take (pcs s).length).flatten):=by
 unfold replP
 rw [if_neg (by omega),show (F:Int)+1-1=F by omega,skip_take,Int.toNat_natCast,List.drop_zero]
 rw [skip_drop (s.drop (skipP s (F:Int))),skip_drop s,Int.toNat_natCast,Int.toNat_natCast,pcs_skip,List.drop_drop]
 rw [List.take_of_length_le (l:=(pcs s).drop (F+N)) (by rw [List.length_drop];omega)]
theorem sign17 (n:Int):signV n=if noSign n then .fail 3 else .text (encU n):=by
 have hv:∀ m:Int,1<=m->m<=1114111->(validRune m=false↔(55296<=m/\m<=57343)):=by
  intro m h1 h2
  unfold validRune
  rw [decide_eq_false_iff_not]
  omega
 unfold signV
 by_cases h:noSign n
 ·rw [if_pos h,if_pos]
  rcases h with h|h|h
  ·exact .inl h
  ·exact .inr (.inl h)
  ·exact .inr (.inr ((hv n (by omega) (by omega)).2 h))
 ·rw [if_neg h,if_neg]
  ·rfl
  ·unfold noSign at h
   rintro (h1|h1|h1)
   ·omega
   ·omega
   ·rw [hv n (by omega) (by omega)] at h1;omega
theorem repeat_snoc (s:List UInt8):∀ i,Lib.repeatL s i++s=Lib.repeatL s (i+1)
 | 0=>by simp [Lib.repeatL]
 | i+1=>by
   rw [Lib.repeatL,List.append_assoc,repeat_snoc s i]
   rfl
theorem cnt17 {n:Nat} (h:n<=2000000):cntP (intP (n:Int)) = .num ((n:Int)*10000):=by
 unfold intP
 rw [if_pos (by omega)]
 rfl
set_option maxHeartbeats 1000000 in
theorem rk_pre {σ:ASt} {s:List UInt8} {L:List PV} {V:AV} (h0:(limX s).2≠0) (h1:(limX s).1<=L.length) (h2:(L.length:Int)<=(limX s).2)
  (h:∀ c4 c7 c8:Nat,σ c4=none->σ c7=none->σ c8=none->c4≠c7->c7≠c4->c4≠c8->c8≠c4->c7≠c8->c8≠c7->∀ a:AFr,(a 0 = .str s/\a 1 = .sl .shr (L.map tellAV)/\a 4 = .ptr c4 0/\a 7 = .ptr c7 0/\a 8 = .ptr c8 0) →
   ACode.wp Tryz.prog c12_289 (RetQ [.c 4 (some 3)] fun v σ'=>v=V/\σ'=σ) a (((σ.set c4 (some (.obj [.int .i64 0,.int .i64 0,.str []]))).set c7 (some (.obj [.sl .shr (L.map tellAV),.int .i64 0]))).set c8 (some (.obj [.int .i64 4,.int .i64 3,.str []])))) :
  ACalls Tryz.prog 12 [.str s,.sl .shr (L.map tellAV)] σ fun v σ'=>v=V/\σ'=σ:=by
 have hLm:=r17limits_ok s
 have hF:=rFail_ok 3 (by omega) (by omega)
 have hlm:(L.map tellAV).length=L.length:=List.length_map _
 have g1:¬ (L.length:Int)<(limX s).1:=by omega
 have g2:¬ (limX s).2<(L.length:Int):=by omega
 clear h1 h2
 generalize (limX s).1=least at *
 generalize (limX s).2=most at *
 generalize L.map tellAV=LA at *
 obtain ⟨F,hFF⟩:∃ F,F=ACode.wp Tryz.prog c12_289:=⟨_,rfl⟩
 rw [<-hFF] at h
 simp only [tellAV] at hF
 refine a12 (by simp) ?_
 simp (disch:=first|assumption|omega|(simp only [List.length_append,List.length_cons,List.length_nil];omega)) only [go_sem,←hFF]
 refine allocC_by fun c4 hc4=>?_
 simp (disch:=first|assumption|omega|(simp only [List.length_append,List.length_cons,List.length_nil];omega)) only [go_sem,←hFF]
 refine hLm.use ?_
 simp (disch:=first|assumption|omega|(simp only [List.length_append,List.length_cons,List.length_nil];omega)) only [go_sem,h0,hlm,g1,g2,←hFF]
 refine allocC_by fun c7 hc7=>?_
 repeat (with_reducible replace hc7:=set_none hc7;obtain ⟨_,_,hc7⟩:=hc7)
 simp (disch:=first|assumption|omega|(simp only [List.length_append,List.length_cons,List.length_nil];omega)) only [go_sem,ASt.set_set,←hFF]
 refine hF.use ?_
 simp (disch:=first|assumption|omega|(simp only [List.length_append,List.length_cons,List.length_nil];omega)) only [go_sem,ASt.set_set,←hFF]
 refine allocC_by fun c8 hc8=>?_
 repeat (with_reducible replace hc8:=set_none hc8;obtain ⟨_,_,hc8⟩:=hc8)
 simp (disch:=first|assumption|omega|(simp only [List.length_append,List.length_cons,List.length_nil];omega)) only [go_sem,ASt.set_set,←hFF]
 refine h c4 c7 c8 (by assumption) (by assumption) (by assumption) (by assumption) (by assumption) (by assumption) (by assumption) (by assumption) (by assumption) _ ?_
 simp (disch:=first|assumption|omega|(simp only [List.length_append,List.length_cons,List.length_nil];omega)) only [go_sem]
set_option maxHeartbeats 1000000 in
theorem rk_one {σ:ASt} {s:List UInt8} {L:List PV} {V:AV} (h0:(limX s).2≠0) (h1:(limX s).1<=L.length) (h2:(L.length:Int)<=(limX s).2) (hL:okA L) (hl:1<=L.length) (n1:s≠nT) (n2:s≠nCHAR) (n3:s≠nFIXED) (n4:s≠nCONCAT)
  (h:∀ c4 c7 c8:Nat,σ c4=none->σ c7=none->σ c8=none->c4≠c7->c7≠c4->c4≠c8->c8≠c4->c7≠c8->c8≠c7->∀ a:AFr,(a 0 = .str s/\a 1 = .sl .shr (L.map tellAV)/\a 4 = .ptr c4 0/\a 7 = .ptr c7 0/\a 8 = .ptr c8 0/\a 22 = .str (txtA L 0).1/\a 23 = .sl .shr (strsA (pcs (txtA L 0).1))) →
   ACode.wp Tryz.prog c12_283 (RetQ [.c 4 (some 3)] fun v σ'=>v=V/\σ'=σ) a (((σ.set c4 (some (.obj [.int .i64 0,.int .i64 0,.str []]))).set c7 (some (.obj [.sl .shr (L.map tellAV),.int .i64 (seen 0 (txtA L 0).2)]))).set c8 (some (.obj [.int .i64 4,.int .i64 3,.str []])))) :
  ACalls Tryz.prog 12 [.str s,.sl .shr (L.map tellAV)] σ fun v σ'=>v=V/\σ'=σ:=by
 refine rk_pre h0 h1 h2 fun c4 c7 c8 h4 h7 h8 m1 m2 m3 m4 m5 m6 a hf=>?_
 obtain ⟨hw0,hl0⟩:=txtA_w hL 0
 have hTx:=r17text_gen (f:=0) hL 0 (by omega)
 have hSg:=rsigns17_ok hw0 (by omega)
 rw [show ((0:Nat):Int)=0 from rfl] at hTx
 unfold arAV at hTx
 unfold nT at n1
 unfold nCHAR at n2
 unfold nFIXED at n3
 unfold nCONCAT at n4
 have hsw:∀ X Y W,(((σ.set c4 (some (.obj [.int .i64 0,.int .i64 0,.str []]))).set c7 X).set c8 W).set c7 Y=((σ.set c4 (some (.obj [.int .i64 0,.int .i64 0,.str []]))).set c7 Y).set c8 W:=fun X Y W=>by rw [set_swap m6,ASt.set_set]
 generalize L.map tellAV=LA at *
 generalize (seen 0 (txtA L 0).2)=f0 at *
 generalize (txtA L 0).1=S at *
 obtain ⟨F,hFF⟩:∃ F,F=ACode.wp Tryz.prog c12_283:=⟨_,rfl⟩
 rw [<-hFF] at h
 simp (disch:=first|assumption|omega|(simp only [List.length_append,List.length_cons,List.length_nil];omega)) only [go_sem,hf,n1,n2,n3,n4,←hFF]
 refine hTx.use ?_
 simp (disch:=first|assumption|omega|(simp only [List.length_append,List.length_cons,List.length_nil];omega)) only [go_sem,hf,hsw,←hFF]
 refine hSg.use ?_
 simp (disch:=first|assumption|omega|(simp only [List.length_append,List.length_cons,List.length_nil];omega)) only [go_sem,hf,hsw,←hFF]
 refine h c4 c7 c8 h4 h7 h8 m1 m2 m3 m4 m5 m6 _ ?_
 simp (disch:=first|assumption|omega|(simp only [List.length_append,List.length_cons,List.length_nil];omega)) only [go_sem,hf]
set_option maxHeartbeats 1000000 in
theorem rk_LEN {σ:ASt} {L:List PV} (hL:okA L) (hl:1<=L.length) (hm:L.length<=1) :
  ACalls Tryz.prog 12 [.str nLEN,.sl .shr (L.map tellAV)] σ fun v σ'=>v=tellAV (if (seen 0 (txtA L 0).2)=0 then (cntP (intP (pcs (txtA L 0).1).length)) else .fail (seen 0 (txtA L 0).2))/\σ'=σ:=by
 have hFb:=(seen_b ⟨Int.le_refl 0,(show (0:Int)<=7 by decide)⟩ (txtA_b hL 0))
 have hTd:=r17told_ok (L:=L) (f:=(seen 0 (txtA L 0).2)) (cntP (intP (pcs (txtA L 0).1).length)) (by omega) (by omega)
 obtain ⟨hw0,hl0⟩:=txtA_w hL 0
 have hpl:=pcs_len (txtA L 0).1
 obtain ⟨x1,x2,x3,ht⟩:=tell_agg (if (seen 0 (txtA L 0).2)=0 then (cntP (intP (pcs (txtA L 0).1).length)) else .fail (seen 0 (txtA L 0).2))
 rw [ht] at hTd ⊢
 clear ht
 unfold arAV at hTd
 have hlen:=strsA_len (pcs (txtA L 0).1)
 have hN:=rNum_ok (((pcs (txtA L 0).1).length:Int)*10000)
 rw [cnt17 (by omega)] at hTd
 simp only [tellAV] at hN hTd
 refine rk_one (by decide) (by rw [show (limX nLEN).1=1 by decide];omega) (by rw [show (limX nLEN).2=1 by decide];omega) hL (by omega) (by decide) (by decide) (by decide) (by decide) fun c4 c7 c8 h4 h7 h8 m1 m2 m3 m4 m5 m6 a hf=>?_
 unfold nLEN at *
 generalize L.map tellAV=LA at *
 generalize (seen 0 (txtA L 0).2)=f1 at *
 generalize (pcs (txtA L 0).1).length=n at *
 generalize strsA (pcs (txtA L 0).1)=SA at *
 generalize (txtA L 0).1=S at *
 simp (disch:=first|assumption|omega|(simp only [List.length_append,List.length_cons,List.length_nil];omega)) only [go_sem,hf,ASt.set_set,hlen,nes_LEN]
 refine hN.use ?_
 simp (disch:=first|assumption|omega|(simp only [List.length_append,List.length_cons,List.length_nil];omega)) only [go_sem,hf,ASt.set_set,nes_LEN]
 refine hTd.use ?_
 simp (disch:=first|assumption|omega|(simp only [List.length_append,List.length_cons,List.length_nil];omega)) only [go_sem,hf,ASt.set_set,nes_LEN]
 exact retC_by (by repeat' (first|exact Drop.refl _|with_reducible refine Drop.off ?_ (by assumption))) (.refl _) ⟨rfl,rfl⟩
set_option maxHeartbeats 1000000 in
theorem rk_UPPER {σ:ASt} {L:List PV} (hL:okA L) (hl:1<=L.length) (hm:L.length<=1) :
  ACalls Tryz.prog 12 [.str nUPPER,.sl .shr (L.map tellAV)] σ fun v σ'=>v=tellAV (if (seen 0 (txtA L 0).2)=0 then (PV.text (greatP (txtA L 0).1)) else .fail (seen 0 (txtA L 0).2))/\σ'=σ:=by
 have hFb:=(seen_b ⟨Int.le_refl 0,(show (0:Int)<=7 by decide)⟩ (txtA_b hL 0))
 have hTd:=r17told_ok (L:=L) (f:=(seen 0 (txtA L 0).2)) (PV.text (greatP (txtA L 0).1)) (by omega) (by omega)
 obtain ⟨hw0,hl0⟩:=txtA_w hL 0
 have hpl:=pcs_len (txtA L 0).1
 obtain ⟨x1,x2,x3,ht⟩:=tell_agg (if (seen 0 (txtA L 0).2)=0 then (PV.text (greatP (txtA L 0).1)) else .fail (seen 0 (txtA L 0).2))
 rw [ht] at hTd ⊢
 clear ht
 unfold arAV at hTd
 have hX:=great_ok (txtA L 0).1 (by omega)
 have hN:=rText_ok (greatP (txtA L 0).1)
 simp only [tellAV] at hN hTd
 refine rk_one (by decide) (by rw [show (limX nUPPER).1=1 by decide];omega) (by rw [show (limX nUPPER).2=1 by decide];omega) hL (by omega) (by decide) (by decide) (by decide) (by decide) fun c4 c7 c8 h4 h7 h8 m1 m2 m3 m4 m5 m6 a hf=>?_
 unfold nUPPER at *
 generalize L.map tellAV=LA at *
 generalize (seen 0 (txtA L 0).2)=f1 at *
 generalize greatP (txtA L 0).1=R at *
 generalize strsA (pcs (txtA L 0).1)=SA at *
 generalize (txtA L 0).1=S at *
 simp (disch:=first|assumption|omega|(simp only [List.length_append,List.length_cons,List.length_nil];omega)) only [go_sem,hf,ASt.set_set,nes_UPPER]
 refine hX.use ?_
 simp (disch:=first|assumption|omega|(simp only [List.length_append,List.length_cons,List.length_nil];omega)) only [go_sem,hf,ASt.set_set,nes_UPPER]
 refine hN.use ?_
 simp (disch:=first|assumption|omega|(simp only [List.length_append,List.length_cons,List.length_nil];omega)) only [go_sem,hf,ASt.set_set,nes_UPPER]
 refine hTd.use ?_
 simp (disch:=first|assumption|omega|(simp only [List.length_append,List.length_cons,List.length_nil];omega)) only [go_sem,hf,ASt.set_set,nes_UPPER]
 exact retC_by (by repeat' (first|exact Drop.refl _|with_reducible refine Drop.off ?_ (by assumption))) (.refl _) ⟨rfl,rfl⟩
set_option maxHeartbeats 1000000 in
theorem rk_LOWER {σ:ASt} {L:List PV} (hL:okA L) (hl:1<=L.length) (hm:L.length<=1) :
  ACalls Tryz.prog 12 [.str nLOWER,.sl .shr (L.map tellAV)] σ fun v σ'=>v=tellAV (if (seen 0 (txtA L 0).2)=0 then (PV.text (smallP (txtA L 0).1)) else .fail (seen 0 (txtA L 0).2))/\σ'=σ:=by
 have hFb:=(seen_b ⟨Int.le_refl 0,(show (0:Int)<=7 by decide)⟩ (txtA_b hL 0))
 have hTd:=r17told_ok (L:=L) (f:=(seen 0 (txtA L 0).2)) (PV.text (smallP (txtA L 0).1)) (by omega) (by omega)
 obtain ⟨hw0,hl0⟩:=txtA_w hL 0
 have hpl:=pcs_len (txtA L 0).1
 obtain ⟨x1,x2,x3,ht⟩:=tell_agg (if (seen 0 (txtA L 0).2)=0 then (PV.text (smallP (txtA L 0).1)) else .fail (seen 0 (txtA L 0).2))
 rw [ht] at hTd ⊢
 clear ht
 unfold arAV at hTd
 have hX:=rsmall_ok (txtA L 0).1 (by omega)
 have hN:=rText_ok (smallP (txtA L 0).1)
 simp only [tellAV] at hN hTd
 refine rk_one (by decide) (by rw [show (limX nLOWER).1=1 by decide];omega) (by rw [show (limX nLOWER).2=1 by decide];omega) hL (by omega) (by decide) (by decide) (by decide) (by decide) fun c4 c7 c8 h4 h7 h8 m1 m2 m3 m4 m5 m6 a hf=>?_
 unfold nLOWER at *
 generalize L.map tellAV=LA at *
 generalize (seen 0 (txtA L 0).2)=f1 at *
 generalize smallP (txtA L 0).1=R at *
 generalize strsA (pcs (txtA L 0).1)=SA at *
 generalize (txtA L 0).1=S at *
 simp (disch:=first|assumption|omega|(simp only [List.length_append,List.length_cons,List.length_nil];omega)) only [go_sem,hf,ASt.set_set,nes_LOWER]
 refine hX.use ?_
 simp (disch:=first|assumption|omega|(simp only [List.length_append,List.length_cons,List.length_nil];omega)) only [go_sem,hf,ASt.set_set,nes_LOWER]
 refine hN.use ?_
 simp (disch:=first|assumption|omega|(simp only [List.length_append,List.length_cons,List.length_nil];omega)) only [go_sem,hf,ASt.set_set,nes_LOWER]
 refine hTd.use ?_
 simp (disch:=first|assumption|omega|(simp only [List.length_append,List.length_cons,List.length_nil];omega)) only [go_sem,hf,ASt.set_set,nes_LOWER]
 exact retC_by (by repeat' (first|exact Drop.refl _|with_reducible refine Drop.off ?_ (by assumption))) (.refl _) ⟨rfl,rfl⟩
set_option maxHeartbeats 1000000 in
theorem rk_PROPER {σ:ASt} {L:List PV} (hL:okA L) (hl:1<=L.length) (hm:L.length<=1) :
  ACalls Tryz.prog 12 [.str nPROPER,.sl .shr (L.map tellAV)] σ fun v σ'=>v=tellAV (if (seen 0 (txtA L 0).2)=0 then (PV.text (propP (txtA L 0).1)) else .fail (seen 0 (txtA L 0).2))/\σ'=σ:=by
 have hFb:=(seen_b ⟨Int.le_refl 0,(show (0:Int)<=7 by decide)⟩ (txtA_b hL 0))
 have hTd:=r17told_ok (L:=L) (f:=(seen 0 (txtA L 0).2)) (PV.text (propP (txtA L 0).1)) (by omega) (by omega)
 obtain ⟨hw0,hl0⟩:=txtA_w hL 0
 have hpl:=pcs_len (txtA L 0).1
 obtain ⟨x1,x2,x3,ht⟩:=tell_agg (if (seen 0 (txtA L 0).2)=0 then (PV.text (propP (txtA L 0).1)) else .fail (seen 0 (txtA L 0).2))
 rw [ht] at hTd ⊢
 clear ht
 unfold arAV at hTd
 have hX:=rproper_ok hw0 (by omega)
 have hN:=rText_ok (propP (txtA L 0).1)
 simp only [tellAV] at hN hTd
 refine rk_one (by decide) (by rw [show (limX nPROPER).1=1 by decide];omega) (by rw [show (limX nPROPER).2=1 by decide];omega) hL (by omega) (by decide) (by decide) (by decide) (by decide) fun c4 c7 c8 h4 h7 h8 m1 m2 m3 m4 m5 m6 a hf=>?_
 unfold nPROPER at *
 generalize L.map tellAV=LA at *
 generalize (seen 0 (txtA L 0).2)=f1 at *
 generalize propP (txtA L 0).1=R at *
 generalize strsA (pcs (txtA L 0).1)=SA at *
 generalize (txtA L 0).1=S at *
 simp (disch:=first|assumption|omega|(simp only [List.length_append,List.length_cons,List.length_nil];omega)) only [go_sem,hf,ASt.set_set,nes_PROPER]
 refine hX.use ?_
 simp (disch:=first|assumption|omega|(simp only [List.length_append,List.length_cons,List.length_nil];omega)) only [go_sem,hf,ASt.set_set,nes_PROPER]
 refine hN.use ?_
 simp (disch:=first|assumption|omega|(simp only [List.length_append,List.length_cons,List.length_nil];omega)) only [go_sem,hf,ASt.set_set,nes_PROPER]
 refine hTd.use ?_
 simp (disch:=first|assumption|omega|(simp only [List.length_append,List.length_cons,List.length_nil];omega)) only [go_sem,hf,ASt.set_set,nes_PROPER]
 exact retC_by (by repeat' (first|exact Drop.refl _|with_reducible refine Drop.off ?_ (by assumption))) (.refl _) ⟨rfl,rfl⟩
set_option maxHeartbeats 1000000 in
theorem rk_TRIM {σ:ASt} {L:List PV} (hL:okA L) (hl:1<=L.length) (hm:L.length<=1) :
  ACalls Tryz.prog 12 [.str nTRIM,.sl .shr (L.map tellAV)] σ fun v σ'=>v=tellAV (if (seen 0 (txtA L 0).2)=0 then (PV.text (trimT (txtA L 0).1)) else .fail (seen 0 (txtA L 0).2))/\σ'=σ:=by
 have hFb:=(seen_b ⟨Int.le_refl 0,(show (0:Int)<=7 by decide)⟩ (txtA_b hL 0))
 have hTd:=r17told_ok (L:=L) (f:=(seen 0 (txtA L 0).2)) (PV.text (trimT (txtA L 0).1)) (by omega) (by omega)
 obtain ⟨hw0,hl0⟩:=txtA_w hL 0
 have hpl:=pcs_len (txtA L 0).1
 obtain ⟨x1,x2,x3,ht⟩:=tell_agg (if (seen 0 (txtA L 0).2)=0 then (PV.text (trimT (txtA L 0).1)) else .fail (seen 0 (txtA L 0).2))
 rw [ht] at hTd ⊢
 clear ht
 unfold arAV at hTd
 have hX:=r17trim_ok (txtA L 0).1 (by omega)
 have hN:=rText_ok (trimT (txtA L 0).1)
 simp only [tellAV] at hN hTd
 refine rk_one (by decide) (by rw [show (limX nTRIM).1=1 by decide];omega) (by rw [show (limX nTRIM).2=1 by decide];omega) hL (by omega) (by decide) (by decide) (by decide) (by decide) fun c4 c7 c8 h4 h7 h8 m1 m2 m3 m4 m5 m6 a hf=>?_
 unfold nTRIM at *
 generalize L.map tellAV=LA at *
 generalize (seen 0 (txtA L 0).2)=f1 at *
 generalize trimT (txtA L 0).1=R at *
 generalize strsA (pcs (txtA L 0).1)=SA at *
 generalize (txtA L 0).1=S at *
 simp (disch:=first|assumption|omega|(simp only [List.length_append,List.length_cons,List.length_nil];omega)) only [go_sem,hf,ASt.set_set,nes_TRIM]
 refine hX.use ?_
 simp (disch:=first|assumption|omega|(simp only [List.length_append,List.length_cons,List.length_nil];omega)) only [go_sem,hf,ASt.set_set,nes_TRIM]
 refine hN.use ?_
 simp (disch:=first|assumption|omega|(simp only [List.length_append,List.length_cons,List.length_nil];omega)) only [go_sem,hf,ASt.set_set,nes_TRIM]
 refine hTd.use ?_
 simp (disch:=first|assumption|omega|(simp only [List.length_append,List.length_cons,List.length_nil];omega)) only [go_sem,hf,ASt.set_set,nes_TRIM]
 exact retC_by (by repeat' (first|exact Drop.refl _|with_reducible refine Drop.off ?_ (by assumption))) (.refl _) ⟨rfl,rfl⟩
set_option maxHeartbeats 1000000 in
theorem rk_REVERSE {σ:ASt} {L:List PV} (hL:okA L) (hl:1<=L.length) (hm:L.length<=1) :
  ACalls Tryz.prog 12 [.str nREVERSE,.sl .shr (L.map tellAV)] σ fun v σ'=>v=tellAV (if (seen 0 (txtA L 0).2)=0 then (PV.text (revP (txtA L 0).1)) else .fail (seen 0 (txtA L 0).2))/\σ'=σ:=by
 have hFb:=(seen_b ⟨Int.le_refl 0,(show (0:Int)<=7 by decide)⟩ (txtA_b hL 0))
 have hTd:=r17told_ok (L:=L) (f:=(seen 0 (txtA L 0).2)) (PV.text (revP (txtA L 0).1)) (by omega) (by omega)
 obtain ⟨hw0,hl0⟩:=txtA_w hL 0
 have hpl:=pcs_len (txtA L 0).1
 obtain ⟨x1,x2,x3,ht⟩:=tell_agg (if (seen 0 (txtA L 0).2)=0 then (PV.text (revP (txtA L 0).1)) else .fail (seen 0 (txtA L 0).2))
 rw [ht] at hTd ⊢
 clear ht
 unfold arAV at hTd
 have hN:=rText_ok (revP (txtA L 0).1)
 have hrv:=rev_pcs hw0
 have hlen:=strsA_len (pcs (txtA L 0).1)
 have hfl:=pcs_flat (txtA L 0).1
 simp only [tellAV] at hN hTd
 refine rk_one (by decide) (by rw [show (limX nREVERSE).1=1 by decide];omega) (by rw [show (limX nREVERSE).2=1 by decide];omega) hL (by omega) (by decide) (by decide) (by decide) (by decide) fun c4 c7 c8 h4 h7 h8 m1 m2 m3 m4 m5 m6 a hf=>?_
 unfold nREVERSE at *
 generalize L.map tellAV=LA at *
 generalize (seen 0 (txtA L 0).2)=f1 at *
 generalize revP (txtA L 0).1=R at *
 generalize pcs (txtA L 0).1=P at *
 generalize (txtA L 0).1=S at *
 obtain ⟨τ,hτ⟩:∃ τ,((σ.set c4 (some (.obj [.int .i64 0,.int .i64 0,.str []]))).set c7 (some (.obj [.sl .shr LA,.int .i64 f1]))).set c8 (some (.obj [.int .i64 4,.int .i64 3,.str []]))=τ:=⟨_,rfl⟩
 rw [hτ]
 obtain ⟨F,hFF⟩:∃ F,F=ACode.wp Tryz.prog c12_120:=⟨_,rfl⟩
 simp (disch:=first|assumption|omega|(simp only [List.length_append,List.length_cons,List.length_nil];omega)) only [go_sem,hf,nes_REVERSE,←hFF]
 refine wp_loop_on (fun (i:Nat) a s1=>i<=P.length/\(a 4 = .ptr c4 0/\a 7 = .ptr c7 0/\a 24 = .str (P.take i).reverse.flatten/\a 215 = .sl .shr (strsA P)/\a 216 = .int .i64 P.length/\a 217 = .int .i64 i)/\s1=τ) (fun i=>P.length-i) 0 ⟨Nat.zero_le _,?_,rfl⟩ ?_
 ·simp (disch:=first|assumption|omega|(simp only [List.length_append,List.length_cons,List.length_nil];omega)) only [go_sem,hf,hlen]
  rfl
 rintro i a1 s1 ⟨hi,hf,rfl⟩
 by_cases hlt:i<P.length
 ·have hlt':(i:Int)<P.length:=by omega
  obtain ⟨x,hx⟩:∃ x,P[i]? = some x:=⟨_,List.getElem?_eq_getElem hlt⟩
  have hg:=strsA_get hx
  have e:(P.take (i+1)).reverse.flatten=x++(P.take i).reverse.flatten:=by rw [List.take_add_one,hx];simp
  have hle:(P.take (i+1)).flatten.length<=P.flatten.length:=by
   conv=>rhs;rw [<-List.take_append_drop (i+1) P,List.flatten_append]
   simp
  have hrl:(P.take (i+1)).reverse.flatten.length=(P.take (i+1)).flatten.length:=by rw [List.length_flatten,List.map_reverse,List.sum_reverse,← List.length_flatten]
  rw [hfl] at hle
  have e5:binS .add x (P.take i).reverse.flatten=some (.str (x++(P.take i).reverse.flatten)):=binS_add (by rw [<-List.length_append,← e];omega)
  rw [<-e] at e5
  obtain ⟨B,hB⟩:∃ B,(P.take (i+1)).reverse.flatten=B:=⟨_,rfl⟩
  rw [hB] at e5
  generalize (P.take i).reverse.flatten=A at *
  simp (disch:=first|assumption|omega|(simp only [List.length_append,List.length_cons,List.length_nil];omega)) only [go_sem,hf,hlt',hg,e5,←hFF]
  exact ⟨i+1,by omega,by omega,by rw [hB],rfl⟩
 ·have hlt':¬ (i:Int)<P.length:=by omega
  rw [List.take_of_length_le (by omega),← hrv] at hf
  simp (disch:=first|assumption|omega|(simp only [List.length_append,List.length_cons,List.length_nil];omega)) only [go_sem,hf,hlt',←hFF]
  rw [hFF,← hτ]
  simp (disch:=first|assumption|omega|(simp only [List.length_append,List.length_cons,List.length_nil];omega)) only [go_sem,hf]
  refine hN.use ?_
  simp (disch:=first|assumption|omega|(simp only [List.length_append,List.length_cons,List.length_nil];omega)) only [go_sem,hf]
  refine hTd.use ?_
  simp (disch:=first|assumption|omega|(simp only [List.length_append,List.length_cons,List.length_nil];omega)) only [go_sem,hf,ASt.set_set]
  exact retC_by (by repeat' (first|exact Drop.refl _|with_reducible refine Drop.off ?_ (by assumption))) (.refl _) ⟨rfl,rfl⟩
set_option maxHeartbeats 1000000 in
theorem rk_CODE {σ:ASt} {L:List PV} (hL:okA L) (hl:1<=L.length) (hm:L.length<=1) :
  ACalls Tryz.prog 12 [.str nCODE,.sl .shr (L.map tellAV)] σ fun v σ'=>v=tellAV (if (seen 0 (txtA L 0).2)=0 then (codeV (txtA L 0).1) else .fail (seen 0 (txtA L 0).2))/\σ'=σ:=by
 have hFb:=(seen_b ⟨Int.le_refl 0,(show (0:Int)<=7 by decide)⟩ (txtA_b hL 0))
 have hTd:=r17told_ok (L:=L) (f:=(seen 0 (txtA L 0).2)) (codeV (txtA L 0).1) (by omega) (by omega)
 obtain ⟨hw0,hl0⟩:=txtA_w hL 0
 have hpl:=pcs_len (txtA L 0).1
 obtain ⟨x1,x2,x3,ht⟩:=tell_agg (if (seen 0 (txtA L 0).2)=0 then (codeV (txtA L 0).1) else .fail (seen 0 (txtA L 0).2))
 rw [ht] at hTd ⊢
 clear ht
 unfold arAV at hTd
 have hlen:=strsA_len (pcs (txtA L 0).1)
 refine rk_one (by decide) (by rw [show (limX nCODE).1=1 by decide];omega) (by rw [show (limX nCODE).2=1 by decide];omega) hL (by omega) (by decide) (by decide) (by decide) (by decide) fun c4 c7 c8 h4 h7 h8 m1 m2 m3 m4 m5 m6 a hf=>?_
 unfold nCODE at *
 generalize L.map tellAV=LA at *
 generalize (seen 0 (txtA L 0).2)=f1 at *
 generalize (txtA L 0).1=S at *
 unfold codeV at hTd
 by_cases hS:S = []
 ·rw [if_pos hS] at hTd
  subst hS
  rw [show (pcs []).length=0 from rfl] at hlen
  rw [show strsA (pcs []) = [] from rfl] at hf
  simp only [tellAV] at hTd
  simp (disch:=first|assumption|omega|(simp only [List.length_append,List.length_cons,List.length_nil];omega)) only [go_sem,hf,nes_CODE]
  refine hTd.use ?_
  simp (disch:=first|assumption|omega|(simp only [List.length_append,List.length_cons,List.length_nil];omega)) only [go_sem,hf,ASt.set_set]
  exact retC_by (by repeat' (first|exact Drop.refl _|with_reducible refine Drop.off ?_ (by assumption))) (.refl _) ⟨rfl,rfl⟩
 rw [if_neg hS] at hTd
 have hst:=pcs_step hS
 have hv:VP (S.take (decodeL S).2):=hw0 _ (by rw [hst];exact List.mem_cons_self)
 have hdq:(decodeL (S.take (decodeL S).2)).1=(decodeL S).1:=by
  have h:=hv.app (S.drop (decodeL S).2)
  rw [List.take_append_drop] at h
  exact (congrArg Prod.fst h).symm
 have hC:=rcode_ok hv
 rw [hdq] at hC
 have hdv:=dec_valid S
 have hN:=rNum_ok (((decodeL S).1:Int)*10000)
 rw [cnt17 (by omega)] at hTd
 simp only [tellAV] at hTd hN
 have hg:(strsA (pcs S))[0]? = some (.str (S.take (decodeL S).2)):=strsA_get (by rw [hst];rfl)
 have hl1:¬ ((pcs S).length:Int)=0:=by rw [hst];simp;omega
 generalize strsA (pcs S)=SA at *
 generalize (pcs S).length=n at *
 generalize S.take (decodeL S).2=q at *
 generalize (decodeL S).1=c at *
 simp (disch:=first|assumption|omega|(simp only [List.length_append,List.length_cons,List.length_nil];omega)) only [go_sem,hf,ASt.set_set,hlen,hl1,hg,nes_CODE]
 refine hC.use ?_
 simp (disch:=first|assumption|omega|(simp only [List.length_append,List.length_cons,List.length_nil];omega)) only [go_sem,hf,ASt.set_set,nes_CODE]
 refine hN.use ?_
 simp (disch:=first|assumption|omega|(simp only [List.length_append,List.length_cons,List.length_nil];omega)) only [go_sem,hf,ASt.set_set,nes_CODE]
 refine hTd.use ?_
 simp (disch:=first|assumption|omega|(simp only [List.length_append,List.length_cons,List.length_nil];omega)) only [go_sem,hf,ASt.set_set,nes_CODE]
 exact retC_by (by repeat' (first|exact Drop.refl _|with_reducible refine Drop.off ?_ (by assumption))) (.refl _) ⟨rfl,rfl⟩
set_option maxHeartbeats 1000000 in
theorem rk_VALUE {σ:ASt} {L:List PV} (hL:okA L) (hl:1<=L.length) (hm:L.length<=1) :
  ACalls Tryz.prog 12 [.str nVALUE,.sl .shr (L.map tellAV)] σ fun v σ'=>v=tellAV (if (seen 0 (txtA L 0).2)=0 then (valV (txtA L 0).1) else .fail (seen 0 (txtA L 0).2))/\σ'=σ:=by
 have hFb:=(seen_b ⟨Int.le_refl 0,(show (0:Int)<=7 by decide)⟩ (txtA_b hL 0))
 have hTd:=r17told_ok (L:=L) (f:=(seen 0 (txtA L 0).2)) (valV (txtA L 0).1) (by omega) (by omega)
 obtain ⟨hw0,hl0⟩:=txtA_w hL 0
 have hpl:=pcs_len (txtA L 0).1
 obtain ⟨x1,x2,x3,ht⟩:=tell_agg (if (seen 0 (txtA L 0).2)=0 then (valV (txtA L 0).1) else .fail (seen 0 (txtA L 0).2))
 rw [ht] at hTd ⊢
 clear ht
 unfold arAV at hTd
 have hT:=rText_ok (txtA L 0).1
 have hA:=r15asnumber_ok (.text (txtA L 0).1) (by show _<=_;omega) (fun n e=>by cases e)
 have hnb:=asNum_b (v := .text (txtA L 0).1) trivial
 unfold valV at hTd
 simp only [tellAV] at hT hA
 refine rk_one (by decide) (by rw [show (limX nVALUE).1=1 by decide];omega) (by rw [show (limX nVALUE).2=1 by decide];omega) hL (by omega) (by decide) (by decide) (by decide) (by decide) fun c4 c7 c8 h4 h7 h8 m1 m2 m3 m4 m5 m6 a hf=>?_
 unfold nVALUE at *
 generalize L.map tellAV=LA at *
 generalize (seen 0 (txtA L 0).2)=f1 at *
 generalize strsA (pcs (txtA L 0).1)=SA at *
 generalize (txtA L 0).1=S at *
 generalize asNum (.text S)=W at *
 obtain ⟨w1,w2⟩:=W
 dsimp only at *
 by_cases hw:w2=0
 ·rw [if_pos hw] at hTd
  have hN:=rNum_ok w1
  simp only [tellAV] at hTd hN
  simp (disch:=first|assumption|omega|(simp only [List.length_append,List.length_cons,List.length_nil];omega)) only [go_sem,hf,ASt.set_set,nes_VALUE]
  refine hT.use ?_
  simp (disch:=first|assumption|omega|(simp only [List.length_append,List.length_cons,List.length_nil];omega)) only [go_sem,hf,ASt.set_set,nes_VALUE]
  refine hA.use ?_
  simp (disch:=first|assumption|omega|(simp only [List.length_append,List.length_cons,List.length_nil];omega)) only [go_sem,hf,ASt.set_set,hw,nes_VALUE]
  refine hN.use ?_
  simp (disch:=first|assumption|omega|(simp only [List.length_append,List.length_cons,List.length_nil];omega)) only [go_sem,hf,ASt.set_set,nes_VALUE]
  refine hTd.use ?_
  simp (disch:=first|assumption|omega|(simp only [List.length_append,List.length_cons,List.length_nil];omega)) only [go_sem,hf,ASt.set_set,nes_VALUE]
  exact retC_by (by repeat' (first|exact Drop.refl _|with_reducible refine Drop.off ?_ (by assumption))) (.refl _) ⟨rfl,rfl⟩
 ·rw [if_neg hw] at hTd
  have hN:=rFail_ok w2 (by omega) (by omega)
  simp only [tellAV] at hTd hN
  simp (disch:=first|assumption|omega|(simp only [List.length_append,List.length_cons,List.length_nil];omega)) only [go_sem,hf,ASt.set_set,nes_VALUE]
  refine hT.use ?_
  simp (disch:=first|assumption|omega|(simp only [List.length_append,List.length_cons,List.length_nil];omega)) only [go_sem,hf,ASt.set_set,nes_VALUE]
  refine hA.use ?_
  simp (disch:=first|assumption|omega|(simp only [List.length_append,List.length_cons,List.length_nil];omega)) only [go_sem,hf,ASt.set_set,hw,nes_VALUE]
  refine hN.use ?_
  simp (disch:=first|assumption|omega|(simp only [List.length_append,List.length_cons,List.length_nil];omega)) only [go_sem,hf,ASt.set_set,nes_VALUE]
  refine hTd.use ?_
  simp (disch:=first|assumption|omega|(simp only [List.length_append,List.length_cons,List.length_nil];omega)) only [go_sem,hf,ASt.set_set,nes_VALUE]
  exact retC_by (by repeat' (first|exact Drop.refl _|with_reducible refine Drop.off ?_ (by assumption))) (.refl _) ⟨rfl,rfl⟩
set_option maxHeartbeats 1000000 in
theorem rk_LEFT {σ:ASt} {L:List PV} (hL:okA L) (hl:1<=L.length) (hm:L.length<=2) :
  ACalls Tryz.prog 12 [.str nLEFT,.sl .shr (L.map tellAV)] σ fun v σ'=>v=tellAV (if (seen (seen 0 (txtA L 0).2) (numA L 1 1).2)=0 then (sidesP nLEFT (txtA L 0).1 (numA L 1 1).1) else .fail (seen (seen 0 (txtA L 0).2) (numA L 1 1).2))/\σ'=σ:=by
 have hFb:=(seen_b (seen_b ⟨Int.le_refl 0,(show (0:Int)<=7 by decide)⟩ (txtA_b hL 0)) (numA_b hL 1 1))
 have hTd:=r17told_ok (L:=L) (f:=(seen (seen 0 (txtA L 0).2) (numA L 1 1).2)) (sidesP nLEFT (txtA L 0).1 (numA L 1 1).1) (by omega) (by omega)
 obtain ⟨hw0,hl0⟩:=txtA_w hL 0
 have hpl:=pcs_len (txtA L 0).1
 obtain ⟨x1,x2,x3,ht⟩:=tell_agg (if (seen (seen 0 (txtA L 0).2) (numA L 1 1).2)=0 then (sidesP nLEFT (txtA L 0).1 (numA L 1 1).1) else .fail (seen (seen 0 (txtA L 0).2) (numA L 1 1).2))
 rw [ht] at hTd ⊢
 clear ht
 unfold arAV at hTd
 have h1:=r17num_gen (f:=(seen 0 (txtA L 0).2)) hL 1 1
 rw [show ((1:Nat):Int)=1 from rfl] at h1
 unfold arAV at h1
 have hr1:=numA_r (L:=L) 1 (o:=1) (by decide)
 have hlen:=strsA_len (pcs (txtA L 0).1)
 have hfl:=pcs_flat (txtA L 0).1
 refine rk_one (by decide) (by rw [show (limX nLEFT).1=1 by decide];omega) (by rw [show (limX nLEFT).2=2 by decide];omega) hL (by omega) (by decide) (by decide) (by decide) (by decide) fun c4 c7 c8 h4 h7 h8 m1 m2 m3 m4 m5 m6 a hf=>?_
 unfold nLEFT at hf
 generalize L.map tellAV=LA at *
 generalize (seen (seen 0 (txtA L 0).2) (numA L 1 1).2)=f2 at *
 generalize (seen 0 (txtA L 0).2)=f1 at *
 generalize (txtA L 0).1=S at *
 generalize (numA L 1 1).1=B at *
 by_cases c1:B<0
 ·have eV:sidesP nLEFT S B = .fail 3:=by unfold sidesP;rw [if_pos c1]
  rw [eV] at hTd
  simp only [tellAV] at hTd
  generalize strsA (pcs S)=SA at *
  simp (disch:=first|assumption|omega|(simp only [List.length_append,List.length_cons,List.length_nil];omega)) only [go_sem,hf,ASt.set_set,nes_LEFT]
  refine h1.use ?_
  simp (disch:=first|assumption|omega|(simp only [List.length_append,List.length_cons,List.length_nil];omega)) only [go_sem,hf,ASt.set_set,nes_LEFT]
  refine allocC_by fun d1 hd1=>?_
  repeat (with_reducible replace hd1:=set_none hd1;obtain ⟨_,_,hd1⟩:=hd1)
  simp (disch:=first|assumption|omega|(simp only [List.length_append,List.length_cons,List.length_nil];omega)) only [go_sem,hf,ASt.set_set,c1,nes_LEFT]
  refine hTd.use ?_
  simp (disch:=first|assumption|omega|(simp only [List.length_append,List.length_cons,List.length_nil];omega)) only [go_sem,hf,ASt.set_set,nes_LEFT]
  exact retC_by (by repeat' (first|exact Drop.refl _|with_reducible refine Drop.off ?_ (by assumption))) (.refl _) ⟨rfl,rfl⟩
 obtain ⟨N,rfl⟩:∃ N:Nat,B=N:=⟨B.toNat,by omega⟩
 rw [left17] at hTd
 have hSo:=rsome_ok .shr (pcs S) 0 N (by omega) (by omega) (by omega)
 have hle:=fl_le (pcs S) 0 N
 rw [hfl] at hle
 have hAl:=rall_ok .shr (((pcs S).drop 0).take N) (by omega) (by rw [List.length_take,List.length_drop];omega)
 have hN:=rText_ok (((pcs S).drop 0).take N).flatten
 simp only [tellAV] at hTd hN
 rw [show ((0:Nat):Int)=0 from rfl] at hSo
 generalize (((pcs S).drop 0).take N).flatten=R at *
 generalize strsA (((pcs S).drop 0).take N)=RA at *
 generalize strsA (pcs S)=SA at *
 simp (disch:=first|assumption|omega|(simp only [List.length_append,List.length_cons,List.length_nil];omega)) only [go_sem,hf,ASt.set_set,nes_LEFT]
 refine h1.use ?_
 simp (disch:=first|assumption|omega|(simp only [List.length_append,List.length_cons,List.length_nil];omega)) only [go_sem,hf,ASt.set_set,nes_LEFT]
 refine allocC_by fun d1 hd1=>?_
 repeat (with_reducible replace hd1:=set_none hd1;obtain ⟨_,_,hd1⟩:=hd1)
 simp (disch:=first|assumption|omega|(simp only [List.length_append,List.length_cons,List.length_nil];omega)) only [go_sem,hf,ASt.set_set,c1,nes_LEFT]
 refine hSo.use ?_
 simp (disch:=first|assumption|omega|(simp only [List.length_append,List.length_cons,List.length_nil];omega)) only [go_sem,hf,ASt.set_set,nes_LEFT]
 refine hAl.use ?_
 simp (disch:=first|assumption|omega|(simp only [List.length_append,List.length_cons,List.length_nil];omega)) only [go_sem,hf,ASt.set_set,nes_LEFT]
 refine hN.use ?_
 simp (disch:=first|assumption|omega|(simp only [List.length_append,List.length_cons,List.length_nil];omega)) only [go_sem,hf,ASt.set_set,nes_LEFT]
 refine hTd.use ?_
 simp (disch:=first|assumption|omega|(simp only [List.length_append,List.length_cons,List.length_nil];omega)) only [go_sem,hf,ASt.set_set,nes_LEFT]
 exact retC_by (by repeat' (first|exact Drop.refl _|with_reducible refine Drop.off ?_ (by assumption))) (.refl _) ⟨rfl,rfl⟩
set_option maxHeartbeats 1000000 in
theorem rk_RIGHT {σ:ASt} {L:List PV} (hL:okA L) (hl:1<=L.length) (hm:L.length<=2) :
  ACalls Tryz.prog 12 [.str nRIGHT,.sl .shr (L.map tellAV)] σ fun v σ'=>v=tellAV (if (seen (seen 0 (txtA L 0).2) (numA L 1 1).2)=0 then (sidesP nRIGHT (txtA L 0).1 (numA L 1 1).1) else .fail (seen (seen 0 (txtA L 0).2) (numA L 1 1).2))/\σ'=σ:=by
 have hFb:=(seen_b (seen_b ⟨Int.le_refl 0,(show (0:Int)<=7 by decide)⟩ (txtA_b hL 0)) (numA_b hL 1 1))
 have hTd:=r17told_ok (L:=L) (f:=(seen (seen 0 (txtA L 0).2) (numA L 1 1).2)) (sidesP nRIGHT (txtA L 0).1 (numA L 1 1).1) (by omega) (by omega)
 obtain ⟨hw0,hl0⟩:=txtA_w hL 0
 have hpl:=pcs_len (txtA L 0).1
 obtain ⟨x1,x2,x3,ht⟩:=tell_agg (if (seen (seen 0 (txtA L 0).2) (numA L 1 1).2)=0 then (sidesP nRIGHT (txtA L 0).1 (numA L 1 1).1) else .fail (seen (seen 0 (txtA L 0).2) (numA L 1 1).2))
 rw [ht] at hTd ⊢
 clear ht
 unfold arAV at hTd
 have h1:=r17num_gen (f:=(seen 0 (txtA L 0).2)) hL 1 1
 rw [show ((1:Nat):Int)=1 from rfl] at h1
 unfold arAV at h1
 have hr1:=numA_r (L:=L) 1 (o:=1) (by decide)
 have hlen:=strsA_len (pcs (txtA L 0).1)
 have hfl:=pcs_flat (txtA L 0).1
 refine rk_one (by decide) (by rw [show (limX nRIGHT).1=1 by decide];omega) (by rw [show (limX nRIGHT).2=2 by decide];omega) hL (by omega) (by decide) (by decide) (by decide) (by decide) fun c4 c7 c8 h4 h7 h8 m1 m2 m3 m4 m5 m6 a hf=>?_
 unfold nRIGHT at hf
 generalize L.map tellAV=LA at *
 generalize (seen (seen 0 (txtA L 0).2) (numA L 1 1).2)=f2 at *
 generalize (seen 0 (txtA L 0).2)=f1 at *
 generalize (txtA L 0).1=S at *
 generalize (numA L 1 1).1=B at *
 by_cases c1:B<0
 ·have eV:sidesP nRIGHT S B = .fail 3:=by unfold sidesP;rw [if_pos c1]
  rw [eV] at hTd
  simp only [tellAV] at hTd
  generalize strsA (pcs S)=SA at *
  simp (disch:=first|assumption|omega|(simp only [List.length_append,List.length_cons,List.length_nil];omega)) only [go_sem,hf,ASt.set_set,nes_RIGHT]
  refine h1.use ?_
  simp (disch:=first|assumption|omega|(simp only [List.length_append,List.length_cons,List.length_nil];omega)) only [go_sem,hf,ASt.set_set,nes_RIGHT]
  refine allocC_by fun d1 hd1=>?_
  repeat (with_reducible replace hd1:=set_none hd1;obtain ⟨_,_,hd1⟩:=hd1)
  simp (disch:=first|assumption|omega|(simp only [List.length_append,List.length_cons,List.length_nil];omega)) only [go_sem,hf,ASt.set_set,c1,nes_RIGHT]
  refine hTd.use ?_
  simp (disch:=first|assumption|omega|(simp only [List.length_append,List.length_cons,List.length_nil];omega)) only [go_sem,hf,ASt.set_set,nes_RIGHT]
  exact retC_by (by repeat' (first|exact Drop.refl _|with_reducible refine Drop.off ?_ (by assumption))) (.refl _) ⟨rfl,rfl⟩
 obtain ⟨N,rfl⟩:∃ N:Nat,B=N:=⟨B.toNat,by omega⟩
 rw [right17] at hTd
 have hSo:=rsome_ok .shr (pcs S) ((pcs S).length-N) N (by omega) (by omega) (by omega)
 have hle:=fl_le (pcs S) ((pcs S).length-N) N
 rw [hfl] at hle
 have hAl:=rall_ok .shr (((pcs S).drop ((pcs S).length-N)).take N) (by omega) (by rw [List.length_take,List.length_drop];omega)
 have hN:=rText_ok (((pcs S).drop ((pcs S).length-N)).take N).flatten
 simp only [tellAV] at hTd hN
 have eK:max (((pcs S).length:Int)-N) 0=(((pcs S).length-N:Nat):Int):=by omega
 generalize (((pcs S).drop ((pcs S).length-N)).take N).flatten=R at *
 generalize strsA (((pcs S).drop ((pcs S).length-N)).take N)=RA at *
 generalize strsA (pcs S)=SA at *
 generalize ((pcs S).length-N:Nat)=K at *
 generalize (pcs S).length=n at *
 simp (disch:=first|assumption|omega|(simp only [List.length_append,List.length_cons,List.length_nil];omega)) only [go_sem,hf,ASt.set_set,nes_RIGHT]
 refine h1.use ?_
 simp (disch:=first|assumption|omega|(simp only [List.length_append,List.length_cons,List.length_nil];omega)) only [go_sem,hf,ASt.set_set,nes_RIGHT]
 refine allocC_by fun d1 hd1=>?_
 repeat (with_reducible replace hd1:=set_none hd1;obtain ⟨_,_,hd1⟩:=hd1)
 simp (disch:=first|assumption|omega|(simp only [List.length_append,List.length_cons,List.length_nil];omega)) only [go_sem,hf,ASt.set_set,c1,hlen,eK,nes_RIGHT]
 refine hSo.use ?_
 simp (disch:=first|assumption|omega|(simp only [List.length_append,List.length_cons,List.length_nil];omega)) only [go_sem,hf,ASt.set_set,nes_RIGHT]
 refine hAl.use ?_
 simp (disch:=first|assumption|omega|(simp only [List.length_append,List.length_cons,List.length_nil];omega)) only [go_sem,hf,ASt.set_set,nes_RIGHT]
 refine hN.use ?_
 simp (disch:=first|assumption|omega|(simp only [List.length_append,List.length_cons,List.length_nil];omega)) only [go_sem,hf,ASt.set_set,nes_RIGHT]
 refine hTd.use ?_
 simp (disch:=first|assumption|omega|(simp only [List.length_append,List.length_cons,List.length_nil];omega)) only [go_sem,hf,ASt.set_set,nes_RIGHT]
 exact retC_by (by repeat' (first|exact Drop.refl _|with_reducible refine Drop.off ?_ (by assumption))) (.refl _) ⟨rfl,rfl⟩
set_option maxHeartbeats 1000000 in
theorem rk_MID {σ:ASt} {L:List PV} (hL:okA L) (hl:3<=L.length) (hm:L.length<=3) :
  ACalls Tryz.prog 12 [.str nMID,.sl .shr (L.map tellAV)] σ fun v σ'=>v=tellAV (if (seen (seen (seen 0 (txtA L 0).2) (numA L 1 1).2) (numA L 2 1).2)=0 then (midP (txtA L 0).1 (numA L 1 1).1 (numA L 2 1).1) else .fail (seen (seen (seen 0 (txtA L 0).2) (numA L 1 1).2) (numA L 2 1).2))/\σ'=σ:=by
 have hFb:=(seen_b (seen_b (seen_b ⟨Int.le_refl 0,(show (0:Int)<=7 by decide)⟩ (txtA_b hL 0)) (numA_b hL 1 1)) (numA_b hL 2 1))
 have hTd:=r17told_ok (L:=L) (f:=(seen (seen (seen 0 (txtA L 0).2) (numA L 1 1).2) (numA L 2 1).2)) (midP (txtA L 0).1 (numA L 1 1).1 (numA L 2 1).1) (by omega) (by omega)
 obtain ⟨hw0,hl0⟩:=txtA_w hL 0
 have hpl:=pcs_len (txtA L 0).1
 obtain ⟨x1,x2,x3,ht⟩:=tell_agg (if (seen (seen (seen 0 (txtA L 0).2) (numA L 1 1).2) (numA L 2 1).2)=0 then (midP (txtA L 0).1 (numA L 1 1).1 (numA L 2 1).1) else .fail (seen (seen (seen 0 (txtA L 0).2) (numA L 1 1).2) (numA L 2 1).2))
 rw [ht] at hTd ⊢
 clear ht
 unfold arAV at hTd
 have h1:=r17num_gen (f:=(seen 0 (txtA L 0).2)) hL 1 1
 rw [show ((1:Nat):Int)=1 from rfl] at h1
 unfold arAV at h1
 have h2:=r17num_gen (f:=(seen (seen 0 (txtA L 0).2) (numA L 1 1).2)) hL 2 1
 rw [show ((2:Nat):Int)=2 from rfl] at h2
 unfold arAV at h2
 have hr1:=numA_r (L:=L) 1 (o:=1) (by decide)
 have hr2:=numA_r (L:=L) 2 (o:=1) (by decide)
 have hfl:=pcs_flat (txtA L 0).1
 refine rk_one (by decide) (by rw [show (limX nMID).1=3 by decide];omega) (by rw [show (limX nMID).2=3 by decide];omega) hL (by omega) (by decide) (by decide) (by decide) (by decide) fun c4 c7 c8 h4 h7 h8 m1 m2 m3 m4 m5 m6 a hf=>?_
 unfold nMID at *
 generalize L.map tellAV=LA at *
 generalize (seen (seen (seen 0 (txtA L 0).2) (numA L 1 1).2) (numA L 2 1).2)=f3 at *
 generalize (seen (seen 0 (txtA L 0).2) (numA L 1 1).2)=f2 at *
 generalize (seen 0 (txtA L 0).2)=f1 at *
 generalize (txtA L 0).1=S at *
 generalize (numA L 1 1).1=A at *
 generalize (numA L 2 1).1=B at *
 by_cases c1:A<1
 ·have eV:midP S A B = .fail 3:=by unfold midP;rw [if_pos (.inl c1)]
  rw [eV] at hTd
  simp only [tellAV] at hTd
  generalize strsA (pcs S)=SA at *
  simp (disch:=first|assumption|omega|(simp only [List.length_append,List.length_cons,List.length_nil];omega)) only [go_sem,hf,ASt.set_set,nes_MID]
  refine h1.use ?_
  simp (disch:=first|assumption|omega|(simp only [List.length_append,List.length_cons,List.length_nil];omega)) only [go_sem,hf,ASt.set_set,nes_MID]
  refine allocC_by fun d1 hd1=>?_
  repeat (with_reducible replace hd1:=set_none hd1;obtain ⟨_,_,hd1⟩:=hd1)
  simp (disch:=first|assumption|omega|(simp only [List.length_append,List.length_cons,List.length_nil];omega)) only [go_sem,hf,ASt.set_set,nes_MID]
  refine h2.use ?_
  simp (disch:=first|assumption|omega|(simp only [List.length_append,List.length_cons,List.length_nil];omega)) only [go_sem,hf,ASt.set_set,nes_MID]
  refine allocC_by fun d2 hd2=>?_
  repeat (with_reducible replace hd2:=set_none hd2;obtain ⟨_,_,hd2⟩:=hd2)
  simp (disch:=first|assumption|omega|(simp only [List.length_append,List.length_cons,List.length_nil];omega)) only [go_sem,hf,ASt.set_set,c1,nes_MID]
  refine hTd.use ?_
  simp (disch:=first|assumption|omega|(simp only [List.length_append,List.length_cons,List.length_nil];omega)) only [go_sem,hf,ASt.set_set,nes_MID]
  exact retC_by (by repeat' (first|exact Drop.refl _|with_reducible refine Drop.off ?_ (by assumption))) (.refl _) ⟨rfl,rfl⟩
 by_cases c2:B<0
 ·have eV:midP S A B = .fail 3:=by unfold midP;rw [if_pos (.inr c2)]
  rw [eV] at hTd
  simp only [tellAV] at hTd
  generalize strsA (pcs S)=SA at *
  simp (disch:=first|assumption|omega|(simp only [List.length_append,List.length_cons,List.length_nil];omega)) only [go_sem,hf,ASt.set_set,nes_MID]
  refine h1.use ?_
  simp (disch:=first|assumption|omega|(simp only [List.length_append,List.length_cons,List.length_nil];omega)) only [go_sem,hf,ASt.set_set,nes_MID]
  refine allocC_by fun d1 hd1=>?_
  repeat (with_reducible replace hd1:=set_none hd1;obtain ⟨_,_,hd1⟩:=hd1)
  simp (disch:=first|assumption|omega|(simp only [List.length_append,List.length_cons,List.length_nil];omega)) only [go_sem,hf,ASt.set_set,nes_MID]
  refine h2.use ?_
  simp (disch:=first|assumption|omega|(simp only [List.length_append,List.length_cons,List.length_nil];omega)) only [go_sem,hf,ASt.set_set,nes_MID]
  refine allocC_by fun d2 hd2=>?_
  repeat (with_reducible replace hd2:=set_none hd2;obtain ⟨_,_,hd2⟩:=hd2)
  simp (disch:=first|assumption|omega|(simp only [List.length_append,List.length_cons,List.length_nil];omega)) only [go_sem,hf,ASt.set_set,c1,c2,nes_MID]
  refine hTd.use ?_
  simp (disch:=first|assumption|omega|(simp only [List.length_append,List.length_cons,List.length_nil];omega)) only [go_sem,hf,ASt.set_set,nes_MID]
  exact retC_by (by repeat' (first|exact Drop.refl _|with_reducible refine Drop.off ?_ (by assumption))) (.refl _) ⟨rfl,rfl⟩
 obtain ⟨N,rfl⟩:∃ N:Nat,B=N:=⟨B.toNat,by omega⟩
 obtain ⟨M,rfl⟩:∃ M:Nat,A=(M:Int)+1:=⟨(A-1).toNat,by omega⟩
 rw [mid17] at hTd
 have eM:(M:Int)+1-1=M:=by omega
 have hSo:=rsome_ok .shr (pcs S) M N (by omega) (by omega) (by omega)
 have hle:=fl_le (pcs S) M N
 rw [hfl] at hle
 have hAl:=rall_ok .shr (((pcs S).drop M).take N) (by omega) (by rw [List.length_take,List.length_drop];omega)
 have hN:=rText_ok (((pcs S).drop M).take N).flatten
 simp only [tellAV] at hTd hN
 generalize (((pcs S).drop M).take N).flatten=R at *
 generalize strsA (((pcs S).drop M).take N)=RA at *
 generalize strsA (pcs S)=SA at *
 simp (disch:=first|assumption|omega|(simp only [List.length_append,List.length_cons,List.length_nil];omega)) only [go_sem,hf,ASt.set_set,nes_MID]
 refine h1.use ?_
 simp (disch:=first|assumption|omega|(simp only [List.length_append,List.length_cons,List.length_nil];omega)) only [go_sem,hf,ASt.set_set,nes_MID]
 refine allocC_by fun d1 hd1=>?_
 repeat (with_reducible replace hd1:=set_none hd1;obtain ⟨_,_,hd1⟩:=hd1)
 simp (disch:=first|assumption|omega|(simp only [List.length_append,List.length_cons,List.length_nil];omega)) only [go_sem,hf,ASt.set_set,nes_MID]
 refine h2.use ?_
 simp (disch:=first|assumption|omega|(simp only [List.length_append,List.length_cons,List.length_nil];omega)) only [go_sem,hf,ASt.set_set,nes_MID]
 refine allocC_by fun d2 hd2=>?_
 repeat (with_reducible replace hd2:=set_none hd2;obtain ⟨_,_,hd2⟩:=hd2)
 simp (disch:=first|assumption|omega|(simp only [List.length_append,List.length_cons,List.length_nil];omega)) only [go_sem,hf,ASt.set_set,c1,c2,eM,nes_MID]
 refine hSo.use ?_
 simp (disch:=first|assumption|omega|(simp only [List.length_append,List.length_cons,List.length_nil];omega)) only [go_sem,hf,ASt.set_set,nes_MID]
 refine hAl.use ?_
 simp (disch:=first|assumption|omega|(simp only [List.length_append,List.length_cons,List.length_nil];omega)) only [go_sem,hf,ASt.set_set,nes_MID]
 refine hN.use ?_
 simp (disch:=first|assumption|omega|(simp only [List.length_append,List.length_cons,List.length_nil];omega)) only [go_sem,hf,ASt.set_set,nes_MID]
 refine hTd.use ?_
 simp (disch:=first|assumption|omega|(simp only [List.length_append,List.length_cons,List.length_nil];omega)) only [go_sem,hf,ASt.set_set,nes_MID]
 exact retC_by (by repeat' (first|exact Drop.refl _|with_reducible refine Drop.off ?_ (by assumption))) (.refl _) ⟨rfl,rfl⟩
set_option maxHeartbeats 1000000 in
theorem rk_REPT {σ:ASt} {L:List PV} (hL:okA L) (hl:2<=L.length) (hm:L.length<=2) :
  ACalls Tryz.prog 12 [.str nREPT,.sl .shr (L.map tellAV)] σ fun v σ'=>v=tellAV (if (seen (seen 0 (txtA L 0).2) (numA L 1 1).2)=0 then (reptV (txtA L 0).1 (numA L 1 1).1) else .fail (seen (seen 0 (txtA L 0).2) (numA L 1 1).2))/\σ'=σ:=by
 have hFb:=(seen_b (seen_b ⟨Int.le_refl 0,(show (0:Int)<=7 by decide)⟩ (txtA_b hL 0)) (numA_b hL 1 1))
 have hTd:=r17told_ok (L:=L) (f:=(seen (seen 0 (txtA L 0).2) (numA L 1 1).2)) (reptV (txtA L 0).1 (numA L 1 1).1) (by omega) (by omega)
 obtain ⟨hw0,hl0⟩:=txtA_w hL 0
 have hpl:=pcs_len (txtA L 0).1
 obtain ⟨x1,x2,x3,ht⟩:=tell_agg (if (seen (seen 0 (txtA L 0).2) (numA L 1 1).2)=0 then (reptV (txtA L 0).1 (numA L 1 1).1) else .fail (seen (seen 0 (txtA L 0).2) (numA L 1 1).2))
 rw [ht] at hTd ⊢
 clear ht
 unfold arAV at hTd
 have h1:=r17num_gen (f:=(seen 0 (txtA L 0).2)) hL 1 1
 rw [show ((1:Nat):Int)=1 from rfl] at h1
 unfold arAV at h1
 have hr1:=numA_r (L:=L) 1 (o:=1) (by decide)
 refine rk_one (by decide) (by rw [show (limX nREPT).1=2 by decide];omega) (by rw [show (limX nREPT).2=2 by decide];omega) hL (by omega) (by decide) (by decide) (by decide) (by decide) fun c4 c7 c8 h4 h7 h8 m1 m2 m3 m4 m5 m6 a hf=>?_
 unfold nREPT at *
 generalize L.map tellAV=LA at *
 generalize (seen (seen 0 (txtA L 0).2) (numA L 1 1).2)=f2 at *
 generalize (seen 0 (txtA L 0).2)=f1 at *
 generalize strsA (pcs (txtA L 0).1)=SA at *
 generalize (txtA L 0).1=S at *
 generalize (numA L 1 1).1=B at *
 unfold reptV at hTd
 by_cases c1:B<0
 ·rw [if_pos (.inl c1)] at hTd
  simp only [tellAV] at hTd
  simp (disch:=first|assumption|omega|(simp only [List.length_append,List.length_cons,List.length_nil];omega)) only [go_sem,hf,ASt.set_set,nes_REPT]
  refine h1.use ?_
  simp (disch:=first|assumption|omega|(simp only [List.length_append,List.length_cons,List.length_nil];omega)) only [go_sem,hf,ASt.set_set,nes_REPT]
  refine allocC_by fun d1 hd1=>?_
  repeat (with_reducible replace hd1:=set_none hd1;obtain ⟨_,_,hd1⟩:=hd1)
  simp (disch:=first|assumption|omega|(simp only [List.length_append,List.length_cons,List.length_nil];omega)) only [go_sem,hf,ASt.set_set,c1,nes_REPT]
  refine hTd.use ?_
  simp (disch:=first|assumption|omega|(simp only [List.length_append,List.length_cons,List.length_nil];omega)) only [go_sem,hf,ASt.set_set,nes_REPT]
  exact retC_by (by repeat' (first|exact Drop.refl _|with_reducible refine Drop.off ?_ (by assumption))) (.refl _) ⟨rfl,rfl⟩
 obtain ⟨N,rfl⟩:∃ N:Nat,B=N:=⟨B.toNat,by omega⟩
 obtain ⟨M,hM⟩:∃ M:Nat,N*S.length=M:=⟨_,rfl⟩
 have hM2:(N:Int)*S.length=M:=by rw [<-hM];push_cast;rfl
 have hMb:M<=120000000:=hM▸Nat.le_trans (Nat.mul_le_mul (show N<=2000000 by omega) hl0) (by decide)
 have hMw:IntKind.i64.wrap (M:Int)=M:=by rw [IntKind.wrap_i64];omega
 rw [hM2,Int.toNat_natCast] at hTd
 by_cases c2:2000<(M:Int)
 ·rw [if_pos (.inr c2)] at hTd
  simp only [tellAV] at hTd
  simp (disch:=first|assumption|omega|(simp only [List.length_append,List.length_cons,List.length_nil];omega)) only [go_sem,hf,ASt.set_set,nes_REPT]
  refine h1.use ?_
  simp (disch:=first|assumption|omega|(simp only [List.length_append,List.length_cons,List.length_nil];omega)) only [go_sem,hf,ASt.set_set,nes_REPT]
  refine allocC_by fun d1 hd1=>?_
  repeat (with_reducible replace hd1:=set_none hd1;obtain ⟨_,_,hd1⟩:=hd1)
  simp (disch:=first|assumption|omega|(simp only [List.length_append,List.length_cons,List.length_nil];omega)) only [go_sem,hf,ASt.set_set,c1,hM2,hMw,c2,nes_REPT]
  refine hTd.use ?_
  simp (disch:=first|assumption|omega|(simp only [List.length_append,List.length_cons,List.length_nil];omega)) only [go_sem,hf,ASt.set_set,nes_REPT]
  exact retC_by (by repeat' (first|exact Drop.refl _|with_reducible refine Drop.off ?_ (by assumption))) (.refl _) ⟨rfl,rfl⟩
 rw [if_neg (by omega)] at hTd
 have hN:=rText_ok (Lib.repeatL S N)
 simp only [tellAV] at hTd hN
 obtain ⟨F,hFF⟩:∃ F,F=ACode.wp Tryz.prog c12_197:=⟨_,rfl⟩
 simp (disch:=first|assumption|omega|(simp only [List.length_append,List.length_cons,List.length_nil];omega)) only [go_sem,hf,ASt.set_set,nes_REPT,←hFF]
 refine h1.use ?_
 simp (disch:=first|assumption|omega|(simp only [List.length_append,List.length_cons,List.length_nil];omega)) only [go_sem,hf,ASt.set_set,nes_REPT,←hFF]
 refine allocC_by fun d1 hd1=>?_
 repeat (with_reducible replace hd1:=set_none hd1;obtain ⟨_,_,hd1⟩:=hd1)
 obtain ⟨τ,hτ⟩:∃ τ,(((((σ.set c4 (some (.obj [.int .i64 0,.int .i64 0,.str []]))).set c7 (some (.obj [.sl .shr LA,.int .i64 f1]))).set c8 (some (.obj [.int .i64 4,.int .i64 3,.str []]))).set d1 (some (.obj [.sl .shr LA,.int .i64 f2]))))=τ:=⟨_,rfl⟩
 simp (disch:=first|assumption|omega|(simp only [List.length_append,List.length_cons,List.length_nil];omega)) only [go_sem,hf,ASt.set_set,hτ,c1,hM2,hMw,c2,nes_REPT,←hFF]
 refine wp_loop_on (fun (i:Nat) a s1=>i<=N/\(a 4 = .ptr c4 0/\a 22 = .str S/\a 35 = .ptr d1 0/\a 36 = .int .i64 N/\a 37 = .str (Lib.repeatL S i)/\a 38 = .int .i64 i)/\s1=τ) (fun i=>N-i) 0 ⟨Nat.zero_le _,?_,rfl⟩ ?_
 ·simp (disch:=first|assumption|omega|(simp only [List.length_append,List.length_cons,List.length_nil];omega)) only [go_sem,hf]
  rfl
 rintro i a1 s1 ⟨hi,hf,rfl⟩
 have hgo:∀ a2:AFr,(a2 4 = .ptr c4 0/\a2 35 = .ptr d1 0/\a2 37 = .str (Lib.repeatL S N))->F (BlockQ 2 (SeqQ (ACode.wp Tryz.prog c12_282) (RetQ [.c 4 (some 3)] fun v σ'=>v = .agg [.int .i64 x1,.int .i64 x2,.str x3]/\σ'=σ))) a2 s1:=by
  intro a2 hf2
  rw [hFF,← hτ]
  generalize Lib.repeatL S N=R at *
  simp (disch:=first|assumption|omega|(simp only [List.length_append,List.length_cons,List.length_nil];omega)) only [go_sem,hf2]
  refine hN.use ?_
  simp (disch:=first|assumption|omega|(simp only [List.length_append,List.length_cons,List.length_nil];omega)) only [go_sem,hf2]
  refine hTd.use ?_
  simp (disch:=first|assumption|omega|(simp only [List.length_append,List.length_cons,List.length_nil];omega)) only [go_sem,hf2,ASt.set_set]
  exact retC_by (by repeat' (first|exact Drop.refl _|with_reducible refine Drop.off ?_ (by assumption))) (.refl _) ⟨rfl,rfl⟩
 by_cases hlt:i<N
 ·have hlt':(i:Int)<N:=by omega
  by_cases hS:S = []
  ·have hr:∀ k,Lib.repeatL ([]:List UInt8) k = []:=fun k=>List.eq_nil_of_length_eq_zero (by rw [repeatL_len];simp)
   subst hS
   rw [hr] at hf
   simp (disch:=first|assumption|omega|(simp only [List.length_append,List.length_cons,List.length_nil];omega)) only [go_sem,hf,hlt',←hFF]
   refine hgo _ ?_
   rw [hr]
   simp (disch:=first|assumption|omega|(simp only [List.length_append,List.length_cons,List.length_nil];omega)) only [go_sem,hf]
  ·have hsl:=List.length_pos_iff.2 hS
   have hNM:N<=M:=by rw [<-hM];exact Nat.le_mul_of_pos_right N hsl
   have hrl:=repeatL_len S i
   have hiM:i*S.length<=M:=by rw [<-hM];exact Nat.mul_le_mul_right _ hi
   have e5:binS .add (Lib.repeatL S i) S=some (.str (Lib.repeatL S i++S)):=binS_add (by omega)
   rw [repeat_snoc] at e5
   obtain ⟨Q,hQ⟩:∃ Q,Lib.repeatL S (i+1)=Q:=⟨_,rfl⟩
   rw [hQ] at e5
   generalize Lib.repeatL S i=A at *
   simp (disch:=first|assumption|omega|(simp only [List.length_append,List.length_cons,List.length_nil];omega)) only [go_sem,hf,hlt',hS,e5,←hFF]
   exact ⟨i+1,by omega,by omega,by rw [hQ],rfl⟩
 ·have hlt':¬ (i:Int)<N:=by omega
  have hiN:i=N:=by omega
  subst hiN
  generalize Lib.repeatL S i=R at *
  simp (disch:=first|assumption|omega|(simp only [List.length_append,List.length_cons,List.length_nil];omega)) only [go_sem,hf,hlt',←hFF]
  refine hgo _ ?_
  simp (disch:=first|assumption|omega|(simp only [List.length_append,List.length_cons,List.length_nil];omega)) only [go_sem,hf]
set_option maxHeartbeats 1000000 in
theorem rk_EXACT {σ:ASt} {L:List PV} (hL:okA L) (hl:2<=L.length) (hm:L.length<=2) :
  ACalls Tryz.prog 12 [.str nEXACT,.sl .shr (L.map tellAV)] σ fun v σ'=>v=tellAV (if (seen (seen 0 (txtA L 0).2) (txtA L 1).2)=0 then (PV.bool (decide ((txtA L 0).1=(txtA L 1).1))) else .fail (seen (seen 0 (txtA L 0).2) (txtA L 1).2))/\σ'=σ:=by
 have hFb:=(seen_b (seen_b ⟨Int.le_refl 0,(show (0:Int)<=7 by decide)⟩ (txtA_b hL 0)) (txtA_b hL 1))
 have hTd:=r17told_ok (L:=L) (f:=(seen (seen 0 (txtA L 0).2) (txtA L 1).2)) (PV.bool (decide ((txtA L 0).1=(txtA L 1).1))) (by omega) (by omega)
 obtain ⟨hw0,hl0⟩:=txtA_w hL 0
 have hpl:=pcs_len (txtA L 0).1
 obtain ⟨x1,x2,x3,ht⟩:=tell_agg (if (seen (seen 0 (txtA L 0).2) (txtA L 1).2)=0 then (PV.bool (decide ((txtA L 0).1=(txtA L 1).1))) else .fail (seen (seen 0 (txtA L 0).2) (txtA L 1).2))
 rw [ht] at hTd ⊢
 clear ht
 unfold arAV at hTd
 have h1:=r17text_gen (f:=(seen 0 (txtA L 0).2)) hL 1 (by omega)
 rw [show ((1:Nat):Int)=1 from rfl] at h1
 unfold arAV at h1
 have hN:=rBool_ok (decide ((txtA L 0).1=(txtA L 1).1))
 obtain ⟨y1,y2,y3,hv⟩:=tell_agg (PV.bool (decide ((txtA L 0).1=(txtA L 1).1)))
 rw [hv] at hTd hN
 clear hv
 refine rk_one (by decide) (by rw [show (limX nEXACT).1=2 by decide];omega) (by rw [show (limX nEXACT).2=2 by decide];omega) hL (by omega) (by decide) (by decide) (by decide) (by decide) fun c4 c7 c8 h4 h7 h8 m1 m2 m3 m4 m5 m6 a hf=>?_
 unfold nEXACT at *
 generalize L.map tellAV=LA at *
 generalize (seen (seen 0 (txtA L 0).2) (txtA L 1).2)=f2 at *
 generalize (seen 0 (txtA L 0).2)=f1 at *
 generalize strsA (pcs (txtA L 0).1)=SA at *
 generalize (txtA L 0).1=S at *
 generalize (txtA L 1).1=Y at *
 simp (disch:=first|assumption|omega|(simp only [List.length_append,List.length_cons,List.length_nil];omega)) only [go_sem,hf,ASt.set_set,nes_EXACT]
 refine h1.use ?_
 simp (disch:=first|assumption|omega|(simp only [List.length_append,List.length_cons,List.length_nil];omega)) only [go_sem,hf,ASt.set_set,nes_EXACT]
 refine allocC_by fun d1 hd1=>?_
 repeat (with_reducible replace hd1:=set_none hd1;obtain ⟨_,_,hd1⟩:=hd1)
 simp (disch:=first|assumption|omega|(simp only [List.length_append,List.length_cons,List.length_nil];omega)) only [go_sem,hf,ASt.set_set,nes_EXACT]
 refine hN.use ?_
 simp (disch:=first|assumption|omega|(simp only [List.length_append,List.length_cons,List.length_nil];omega)) only [go_sem,hf,ASt.set_set,nes_EXACT]
 refine hTd.use ?_
 simp (disch:=first|assumption|omega|(simp only [List.length_append,List.length_cons,List.length_nil];omega)) only [go_sem,hf,ASt.set_set,nes_EXACT]
 exact retC_by (by repeat' (first|exact Drop.refl _|with_reducible refine Drop.off ?_ (by assumption))) (.refl _) ⟨rfl,rfl⟩
set_option maxHeartbeats 1000000 in
theorem rk_FIND {σ:ASt} {L:List PV} (hL:okA L) (hl:2<=L.length) (hm:L.length<=3) :
  ACalls Tryz.prog 12 [.str nFIND,.sl .shr (L.map tellAV)] σ fun v σ'=>v=tellAV (if (seen (seen (seen 0 (txtA L 0).2) (txtA L 1).2) (numA L 2 1).2)=0 then (findP (txtA L 0).1 (txtA L 1).1 (numA L 2 1).1) else .fail (seen (seen (seen 0 (txtA L 0).2) (txtA L 1).2) (numA L 2 1).2))/\σ'=σ:=by
 have hFb:=(seen_b (seen_b (seen_b ⟨Int.le_refl 0,(show (0:Int)<=7 by decide)⟩ (txtA_b hL 0)) (txtA_b hL 1)) (numA_b hL 2 1))
 have hTd:=r17told_ok (L:=L) (f:=(seen (seen (seen 0 (txtA L 0).2) (txtA L 1).2) (numA L 2 1).2)) (findP (txtA L 0).1 (txtA L 1).1 (numA L 2 1).1) (by omega) (by omega)
 obtain ⟨hw0,hl0⟩:=txtA_w hL 0
 have hpl:=pcs_len (txtA L 0).1
 obtain ⟨x1,x2,x3,ht⟩:=tell_agg (if (seen (seen (seen 0 (txtA L 0).2) (txtA L 1).2) (numA L 2 1).2)=0 then (findP (txtA L 0).1 (txtA L 1).1 (numA L 2 1).1) else .fail (seen (seen (seen 0 (txtA L 0).2) (txtA L 1).2) (numA L 2 1).2))
 rw [ht] at hTd ⊢
 clear ht
 unfold arAV at hTd
 have h1:=r17text_gen (f:=(seen 0 (txtA L 0).2)) hL 1 (by omega)
 rw [show ((1:Nat):Int)=1 from rfl] at h1
 unfold arAV at h1
 have h2:=r17num_gen (f:=(seen (seen 0 (txtA L 0).2) (txtA L 1).2)) hL 2 1
 rw [show ((2:Nat):Int)=2 from rfl] at h2
 unfold arAV at h2
 obtain ⟨hw1,hl1⟩:=txtA_w hL 1
 have hr2:=numA_r (L:=L) 2 (o:=1) (by decide)
 have hX:=r17find_ok hw0 hw1 (by omega) (by omega) (numA L 2 1).1 hr2
 obtain ⟨y1,y2,y3,hv⟩:=tell_agg (findP (txtA L 0).1 (txtA L 1).1 (numA L 2 1).1)
 rw [hv] at hTd hX
 clear hv
 refine rk_one (by decide) (by rw [show (limX nFIND).1=2 by decide];omega) (by rw [show (limX nFIND).2=3 by decide];omega) hL (by omega) (by decide) (by decide) (by decide) (by decide) fun c4 c7 c8 h4 h7 h8 m1 m2 m3 m4 m5 m6 a hf=>?_
 unfold nFIND at *
 generalize L.map tellAV=LA at *
 generalize (seen (seen (seen 0 (txtA L 0).2) (txtA L 1).2) (numA L 2 1).2)=f3 at *
 generalize (seen (seen 0 (txtA L 0).2) (txtA L 1).2)=f2 at *
 generalize (seen 0 (txtA L 0).2)=f1 at *
 generalize strsA (pcs (txtA L 0).1)=SA at *
 generalize (txtA L 0).1=S at *
 generalize (txtA L 1).1=Y at *
 generalize (numA L 2 1).1=B at *
 simp (disch:=first|assumption|omega|(simp only [List.length_append,List.length_cons,List.length_nil];omega)) only [go_sem,hf,ASt.set_set,nes_FIND]
 refine h1.use ?_
 simp (disch:=first|assumption|omega|(simp only [List.length_append,List.length_cons,List.length_nil];omega)) only [go_sem,hf,ASt.set_set,nes_FIND]
 refine allocC_by fun d1 hd1=>?_
 repeat (with_reducible replace hd1:=set_none hd1;obtain ⟨_,_,hd1⟩:=hd1)
 simp (disch:=first|assumption|omega|(simp only [List.length_append,List.length_cons,List.length_nil];omega)) only [go_sem,hf,ASt.set_set,nes_FIND]
 refine h2.use ?_
 simp (disch:=first|assumption|omega|(simp only [List.length_append,List.length_cons,List.length_nil];omega)) only [go_sem,hf,ASt.set_set,nes_FIND]
 refine allocC_by fun d2 hd2=>?_
 repeat (with_reducible replace hd2:=set_none hd2;obtain ⟨_,_,hd2⟩:=hd2)
 simp (disch:=first|assumption|omega|(simp only [List.length_append,List.length_cons,List.length_nil];omega)) only [go_sem,hf,ASt.set_set,nes_FIND]
 refine hX.use ?_
 simp (disch:=first|assumption|omega|(simp only [List.length_append,List.length_cons,List.length_nil];omega)) only [go_sem,hf,ASt.set_set,nes_FIND]
 refine hTd.use ?_
 simp (disch:=first|assumption|omega|(simp only [List.length_append,List.length_cons,List.length_nil];omega)) only [go_sem,hf,ASt.set_set,nes_FIND]
 exact retC_by (by repeat' (first|exact Drop.refl _|with_reducible refine Drop.off ?_ (by assumption))) (.refl _) ⟨rfl,rfl⟩
set_option maxHeartbeats 1000000 in
theorem rk_SEARCH {σ:ASt} {L:List PV} (hL:okA L) (hl:2<=L.length) (hm:L.length<=3) :
  ACalls Tryz.prog 12 [.str nSEARCH,.sl .shr (L.map tellAV)] σ fun v σ'=>v=tellAV (if (seen (seen (seen 0 (txtA L 0).2) (txtA L 1).2) (numA L 2 1).2)=0 then (findP (greatP (txtA L 0).1) (greatP (txtA L 1).1) (numA L 2 1).1) else .fail (seen (seen (seen 0 (txtA L 0).2) (txtA L 1).2) (numA L 2 1).2))/\σ'=σ:=by
 have hFb:=(seen_b (seen_b (seen_b ⟨Int.le_refl 0,(show (0:Int)<=7 by decide)⟩ (txtA_b hL 0)) (txtA_b hL 1)) (numA_b hL 2 1))
 have hTd:=r17told_ok (L:=L) (f:=(seen (seen (seen 0 (txtA L 0).2) (txtA L 1).2) (numA L 2 1).2)) (findP (greatP (txtA L 0).1) (greatP (txtA L 1).1) (numA L 2 1).1) (by omega) (by omega)
 obtain ⟨hw0,hl0⟩:=txtA_w hL 0
 have hpl:=pcs_len (txtA L 0).1
 obtain ⟨x1,x2,x3,ht⟩:=tell_agg (if (seen (seen (seen 0 (txtA L 0).2) (txtA L 1).2) (numA L 2 1).2)=0 then (findP (greatP (txtA L 0).1) (greatP (txtA L 1).1) (numA L 2 1).1) else .fail (seen (seen (seen 0 (txtA L 0).2) (txtA L 1).2) (numA L 2 1).2))
 rw [ht] at hTd ⊢
 clear ht
 unfold arAV at hTd
 have h1:=r17text_gen (f:=(seen 0 (txtA L 0).2)) hL 1 (by omega)
 rw [show ((1:Nat):Int)=1 from rfl] at h1
 unfold arAV at h1
 have h2:=r17num_gen (f:=(seen (seen 0 (txtA L 0).2) (txtA L 1).2)) hL 2 1
 rw [show ((2:Nat):Int)=2 from rfl] at h2
 unfold arAV at h2
 obtain ⟨hw1,hl1⟩:=txtA_w hL 1
 have hr2:=numA_r (L:=L) 2 (o:=1) (by decide)
 have hg0:=great_ok (txtA L 0).1 (by omega)
 have hg1:=great_ok (txtA L 1).1 (by omega)
 have hX:=r17find_ok (whole_great hw0) (whole_great hw1) (by rw [greatP_len];omega) (by rw [greatP_len];omega) (numA L 2 1).1 hr2
 obtain ⟨y1,y2,y3,hv⟩:=tell_agg (findP (greatP (txtA L 0).1) (greatP (txtA L 1).1) (numA L 2 1).1)
 rw [hv] at hTd hX
 clear hv
 refine rk_one (by decide) (by rw [show (limX nSEARCH).1=2 by decide];omega) (by rw [show (limX nSEARCH).2=3 by decide];omega) hL (by omega) (by decide) (by decide) (by decide) (by decide) fun c4 c7 c8 h4 h7 h8 m1 m2 m3 m4 m5 m6 a hf=>?_
 unfold nSEARCH at *
 generalize L.map tellAV=LA at *
 generalize (seen (seen (seen 0 (txtA L 0).2) (txtA L 1).2) (numA L 2 1).2)=f3 at *
 generalize (seen (seen 0 (txtA L 0).2) (txtA L 1).2)=f2 at *
 generalize (seen 0 (txtA L 0).2)=f1 at *
 generalize greatP (txtA L 0).1=GS at *
 generalize greatP (txtA L 1).1=GY at *
 generalize strsA (pcs (txtA L 0).1)=SA at *
 generalize (txtA L 0).1=S at *
 generalize (txtA L 1).1=Y at *
 generalize (numA L 2 1).1=B at *
 simp (disch:=first|assumption|omega|(simp only [List.length_append,List.length_cons,List.length_nil];omega)) only [go_sem,hf,ASt.set_set,nes_SEARCH]
 refine h1.use ?_
 simp (disch:=first|assumption|omega|(simp only [List.length_append,List.length_cons,List.length_nil];omega)) only [go_sem,hf,ASt.set_set,nes_SEARCH]
 refine allocC_by fun d1 hd1=>?_
 repeat (with_reducible replace hd1:=set_none hd1;obtain ⟨_,_,hd1⟩:=hd1)
 simp (disch:=first|assumption|omega|(simp only [List.length_append,List.length_cons,List.length_nil];omega)) only [go_sem,hf,ASt.set_set,nes_SEARCH]
 refine h2.use ?_
 simp (disch:=first|assumption|omega|(simp only [List.length_append,List.length_cons,List.length_nil];omega)) only [go_sem,hf,ASt.set_set,nes_SEARCH]
 refine allocC_by fun d2 hd2=>?_
 repeat (with_reducible replace hd2:=set_none hd2;obtain ⟨_,_,hd2⟩:=hd2)
 simp (disch:=first|assumption|omega|(simp only [List.length_append,List.length_cons,List.length_nil];omega)) only [go_sem,hf,ASt.set_set,nes_SEARCH]
 refine hg0.use ?_
 simp (disch:=first|assumption|omega|(simp only [List.length_append,List.length_cons,List.length_nil];omega)) only [go_sem,hf,ASt.set_set,nes_SEARCH]
 refine hg1.use ?_
 simp (disch:=first|assumption|omega|(simp only [List.length_append,List.length_cons,List.length_nil];omega)) only [go_sem,hf,ASt.set_set,nes_SEARCH]
 refine hX.use ?_
 simp (disch:=first|assumption|omega|(simp only [List.length_append,List.length_cons,List.length_nil];omega)) only [go_sem,hf,ASt.set_set,nes_SEARCH]
 refine hTd.use ?_
 simp (disch:=first|assumption|omega|(simp only [List.length_append,List.length_cons,List.length_nil];omega)) only [go_sem,hf,ASt.set_set,nes_SEARCH]
 exact retC_by (by repeat' (first|exact Drop.refl _|with_reducible refine Drop.off ?_ (by assumption))) (.refl _) ⟨rfl,rfl⟩
set_option maxHeartbeats 1000000 in
theorem rk_SUBSTITUTE {σ:ASt} {L:List PV} (hL:okA L) (hl:3<=L.length) (hm:L.length<=4) :
  ACalls Tryz.prog 12 [.str nSUBSTITUTE,.sl .shr (L.map tellAV)] σ fun v σ'=>v=tellAV (if (seen (seen (seen (seen 0 (txtA L 0).2) (txtA L 1).2) (txtA L 2).2) (numA L 3 0).2)=0 then (substL L) else .fail (seen (seen (seen (seen 0 (txtA L 0).2) (txtA L 1).2) (txtA L 2).2) (numA L 3 0).2))/\σ'=σ:=by
 have hFb:=(seen_b (seen_b (seen_b (seen_b ⟨Int.le_refl 0,(show (0:Int)<=7 by decide)⟩ (txtA_b hL 0)) (txtA_b hL 1)) (txtA_b hL 2)) (numA_b hL 3 0))
 have hTd:=r17told_ok (L:=L) (f:=(seen (seen (seen (seen 0 (txtA L 0).2) (txtA L 1).2) (txtA L 2).2) (numA L 3 0).2)) (substL L) (by omega) (by omega)
 obtain ⟨hw0,hl0⟩:=txtA_w hL 0
 have hpl:=pcs_len (txtA L 0).1
 obtain ⟨x1,x2,x3,ht⟩:=tell_agg (if (seen (seen (seen (seen 0 (txtA L 0).2) (txtA L 1).2) (txtA L 2).2) (numA L 3 0).2)=0 then (substL L) else .fail (seen (seen (seen (seen 0 (txtA L 0).2) (txtA L 1).2) (txtA L 2).2) (numA L 3 0).2))
 rw [ht] at hTd ⊢
 clear ht
 unfold arAV at hTd
 have h1:=r17text_gen (f:=(seen 0 (txtA L 0).2)) hL 1 (by omega)
 rw [show ((1:Nat):Int)=1 from rfl] at h1
 unfold arAV at h1
 have h2:=r17text_gen (f:=(seen (seen 0 (txtA L 0).2) (txtA L 1).2)) hL 2 (by omega)
 rw [show ((2:Nat):Int)=2 from rfl] at h2
 unfold arAV at h2
 have h3:=r17num_gen (f:=(seen (seen (seen 0 (txtA L 0).2) (txtA L 1).2) (txtA L 2).2)) hL 3 0
 rw [show ((3:Nat):Int)=3 from rfl] at h3
 unfold arAV at h3
 obtain ⟨hw1,hl1⟩:=txtA_w hL 1
 obtain ⟨hw2,hl2⟩:=txtA_w hL 2
 have hlm:(L.map tellAV).length=L.length:=List.length_map _
 have hX:=r17subst_ok (txtA L 0).1 (txtA L 1).1 (txtA L 2).1 (numA L 3 0).1 (by omega) (by omega) (by omega)
 unfold substL at hTd
 refine rk_one (by decide) (by rw [show (limX nSUBSTITUTE).1=3 by decide];omega) (by rw [show (limX nSUBSTITUTE).2=4 by decide];omega) hL (by omega) (by decide) (by decide) (by decide) (by decide) fun c4 c7 c8 h4 h7 h8 m1 m2 m3 m4 m5 m6 a hf=>?_
 unfold nSUBSTITUTE at *
 generalize L.map tellAV=LA at *
 generalize (seen (seen (seen (seen 0 (txtA L 0).2) (txtA L 1).2) (txtA L 2).2) (numA L 3 0).2)=f4 at *
 generalize (seen (seen (seen 0 (txtA L 0).2) (txtA L 1).2) (txtA L 2).2)=f3 at *
 generalize (seen (seen 0 (txtA L 0).2) (txtA L 1).2)=f2 at *
 generalize (seen 0 (txtA L 0).2)=f1 at *
 generalize strsA (pcs (txtA L 0).1)=SA at *
 generalize substV (txtA L 0).1 (txtA L 1).1 (txtA L 2).1 (numA L 3 0).1=R at *
 generalize (txtA L 0).1=S at *
 generalize (txtA L 1).1=Y at *
 generalize (txtA L 2).1=Z at *
 generalize (numA L 3 0).1=B at *
 by_cases c1:3<L.length
 ·have c1':(3:Int)<L.length:=by omega
  by_cases c2:B<1
  ·rw [if_pos ⟨c1,c2⟩] at hTd
   simp only [tellAV] at hTd
   simp (disch:=first|assumption|omega|(simp only [List.length_append,List.length_cons,List.length_nil];omega)) only [go_sem,hf,ASt.set_set,nes_SUBSTITUTE]
   refine h1.use ?_
   simp (disch:=first|assumption|omega|(simp only [List.length_append,List.length_cons,List.length_nil];omega)) only [go_sem,hf,ASt.set_set,nes_SUBSTITUTE]
   refine allocC_by fun d1 hd1=>?_
   repeat (with_reducible replace hd1:=set_none hd1;obtain ⟨_,_,hd1⟩:=hd1)
   simp (disch:=first|assumption|omega|(simp only [List.length_append,List.length_cons,List.length_nil];omega)) only [go_sem,hf,ASt.set_set,nes_SUBSTITUTE]
   refine h2.use ?_
   simp (disch:=first|assumption|omega|(simp only [List.length_append,List.length_cons,List.length_nil];omega)) only [go_sem,hf,ASt.set_set,nes_SUBSTITUTE]
   refine allocC_by fun d2 hd2=>?_
   repeat (with_reducible replace hd2:=set_none hd2;obtain ⟨_,_,hd2⟩:=hd2)
   simp (disch:=first|assumption|omega|(simp only [List.length_append,List.length_cons,List.length_nil];omega)) only [go_sem,hf,ASt.set_set,nes_SUBSTITUTE]
   refine h3.use ?_
   simp (disch:=first|assumption|omega|(simp only [List.length_append,List.length_cons,List.length_nil];omega)) only [go_sem,hf,ASt.set_set,nes_SUBSTITUTE]
   refine allocC_by fun d3 hd3=>?_
   repeat (with_reducible replace hd3:=set_none hd3;obtain ⟨_,_,hd3⟩:=hd3)
   simp (disch:=first|assumption|omega|(simp only [List.length_append,List.length_cons,List.length_nil];omega)) only [go_sem,hf,ASt.set_set,hlm,c1',c2,nes_SUBSTITUTE]
   refine hTd.use ?_
   simp (disch:=first|assumption|omega|(simp only [List.length_append,List.length_cons,List.length_nil];omega)) only [go_sem,hf,ASt.set_set,nes_SUBSTITUTE]
   exact retC_by (by repeat' (first|exact Drop.refl _|with_reducible refine Drop.off ?_ (by assumption))) (.refl _) ⟨rfl,rfl⟩
  ·rw [if_neg (fun h=>c2 h.2)] at hTd
   obtain ⟨y1,y2,y3,hv⟩:=tell_agg R
   rw [hv] at hTd hX
   clear hv
   simp (disch:=first|assumption|omega|(simp only [List.length_append,List.length_cons,List.length_nil];omega)) only [go_sem,hf,ASt.set_set,nes_SUBSTITUTE]
   refine h1.use ?_
   simp (disch:=first|assumption|omega|(simp only [List.length_append,List.length_cons,List.length_nil];omega)) only [go_sem,hf,ASt.set_set,nes_SUBSTITUTE]
   refine allocC_by fun d1 hd1=>?_
   repeat (with_reducible replace hd1:=set_none hd1;obtain ⟨_,_,hd1⟩:=hd1)
   simp (disch:=first|assumption|omega|(simp only [List.length_append,List.length_cons,List.length_nil];omega)) only [go_sem,hf,ASt.set_set,nes_SUBSTITUTE]
   refine h2.use ?_
   simp (disch:=first|assumption|omega|(simp only [List.length_append,List.length_cons,List.length_nil];omega)) only [go_sem,hf,ASt.set_set,nes_SUBSTITUTE]
   refine allocC_by fun d2 hd2=>?_
   repeat (with_reducible replace hd2:=set_none hd2;obtain ⟨_,_,hd2⟩:=hd2)
   simp (disch:=first|assumption|omega|(simp only [List.length_append,List.length_cons,List.length_nil];omega)) only [go_sem,hf,ASt.set_set,nes_SUBSTITUTE]
   refine h3.use ?_
   simp (disch:=first|assumption|omega|(simp only [List.length_append,List.length_cons,List.length_nil];omega)) only [go_sem,hf,ASt.set_set,nes_SUBSTITUTE]
   refine allocC_by fun d3 hd3=>?_
   repeat (with_reducible replace hd3:=set_none hd3;obtain ⟨_,_,hd3⟩:=hd3)
   simp (disch:=first|assumption|omega|(simp only [List.length_append,List.length_cons,List.length_nil];omega)) only [go_sem,hf,ASt.set_set,hlm,c1',c2,nes_SUBSTITUTE]
   refine hX.use ?_
   simp (disch:=first|assumption|omega|(simp only [List.length_append,List.length_cons,List.length_nil];omega)) only [go_sem,hf,ASt.set_set,nes_SUBSTITUTE]
   refine hTd.use ?_
   simp (disch:=first|assumption|omega|(simp only [List.length_append,List.length_cons,List.length_nil];omega)) only [go_sem,hf,ASt.set_set,nes_SUBSTITUTE]
   exact retC_by (by repeat' (first|exact Drop.refl _|with_reducible refine Drop.off ?_ (by assumption))) (.refl _) ⟨rfl,rfl⟩
 ·have c1':¬ (3:Int)<L.length:=by omega
  rw [if_neg (fun h=>c1 h.1)] at hTd
  obtain ⟨y1,y2,y3,hv⟩:=tell_agg R
  rw [hv] at hTd hX
  clear hv
  simp (disch:=first|assumption|omega|(simp only [List.length_append,List.length_cons,List.length_nil];omega)) only [go_sem,hf,ASt.set_set,nes_SUBSTITUTE]
  refine h1.use ?_
  simp (disch:=first|assumption|omega|(simp only [List.length_append,List.length_cons,List.length_nil];omega)) only [go_sem,hf,ASt.set_set,nes_SUBSTITUTE]
  refine allocC_by fun d1 hd1=>?_
  repeat (with_reducible replace hd1:=set_none hd1;obtain ⟨_,_,hd1⟩:=hd1)
  simp (disch:=first|assumption|omega|(simp only [List.length_append,List.length_cons,List.length_nil];omega)) only [go_sem,hf,ASt.set_set,nes_SUBSTITUTE]
  refine h2.use ?_
  simp (disch:=first|assumption|omega|(simp only [List.length_append,List.length_cons,List.length_nil];omega)) only [go_sem,hf,ASt.set_set,nes_SUBSTITUTE]
  refine allocC_by fun d2 hd2=>?_
  repeat (with_reducible replace hd2:=set_none hd2;obtain ⟨_,_,hd2⟩:=hd2)
  simp (disch:=first|assumption|omega|(simp only [List.length_append,List.length_cons,List.length_nil];omega)) only [go_sem,hf,ASt.set_set,nes_SUBSTITUTE]
  refine h3.use ?_
  simp (disch:=first|assumption|omega|(simp only [List.length_append,List.length_cons,List.length_nil];omega)) only [go_sem,hf,ASt.set_set,nes_SUBSTITUTE]
  refine allocC_by fun d3 hd3=>?_
  repeat (with_reducible replace hd3:=set_none hd3;obtain ⟨_,_,hd3⟩:=hd3)
  simp (disch:=first|assumption|omega|(simp only [List.length_append,List.length_cons,List.length_nil];omega)) only [go_sem,hf,ASt.set_set,hlm,c1',nes_SUBSTITUTE]
  refine hX.use ?_
  simp (disch:=first|assumption|omega|(simp only [List.length_append,List.length_cons,List.length_nil];omega)) only [go_sem,hf,ASt.set_set,nes_SUBSTITUTE]
  refine hTd.use ?_
  simp (disch:=first|assumption|omega|(simp only [List.length_append,List.length_cons,List.length_nil];omega)) only [go_sem,hf,ASt.set_set,nes_SUBSTITUTE]
  exact retC_by (by repeat' (first|exact Drop.refl _|with_reducible refine Drop.off ?_ (by assumption))) (.refl _) ⟨rfl,rfl⟩
set_option maxHeartbeats 1000000 in
theorem rk_REPLACE {σ:ASt} {L:List PV} (hL:okA L) (hl:4<=L.length) (hm:L.length<=4) :
  ACalls Tryz.prog 12 [.str nREPLACE,.sl .shr (L.map tellAV)] σ fun v σ'=>v=tellAV (if (seen (seen (seen (seen 0 (txtA L 0).2) (numA L 1 1).2) (numA L 2 1).2) (txtA L 3).2)=0 then (replP (txtA L 0).1 (numA L 1 1).1 (numA L 2 1).1 (txtA L 3).1) else .fail (seen (seen (seen (seen 0 (txtA L 0).2) (numA L 1 1).2) (numA L 2 1).2) (txtA L 3).2))/\σ'=σ:=by
 have hFb:=(seen_b (seen_b (seen_b (seen_b ⟨Int.le_refl 0,(show (0:Int)<=7 by decide)⟩ (txtA_b hL 0)) (numA_b hL 1 1)) (numA_b hL 2 1)) (txtA_b hL 3))
 have hTd:=r17told_ok (L:=L) (f:=(seen (seen (seen (seen 0 (txtA L 0).2) (numA L 1 1).2) (numA L 2 1).2) (txtA L 3).2)) (replP (txtA L 0).1 (numA L 1 1).1 (numA L 2 1).1 (txtA L 3).1) (by omega) (by omega)
 obtain ⟨hw0,hl0⟩:=txtA_w hL 0
 have hpl:=pcs_len (txtA L 0).1
 obtain ⟨x1,x2,x3,ht⟩:=tell_agg (if (seen (seen (seen (seen 0 (txtA L 0).2) (numA L 1 1).2) (numA L 2 1).2) (txtA L 3).2)=0 then (replP (txtA L 0).1 (numA L 1 1).1 (numA L 2 1).1 (txtA L 3).1) else .fail (seen (seen (seen (seen 0 (txtA L 0).2) (numA L 1 1).2) (numA L 2 1).2) (txtA L 3).2))
 rw [ht] at hTd ⊢
 clear ht
 unfold arAV at hTd
 have h1:=r17num_gen (f:=(seen 0 (txtA L 0).2)) hL 1 1
 rw [show ((1:Nat):Int)=1 from rfl] at h1
 unfold arAV at h1
 have h2:=r17num_gen (f:=(seen (seen 0 (txtA L 0).2) (numA L 1 1).2)) hL 2 1
 rw [show ((2:Nat):Int)=2 from rfl] at h2
 unfold arAV at h2
 have h3:=r17text_gen (f:=(seen (seen (seen 0 (txtA L 0).2) (numA L 1 1).2) (numA L 2 1).2)) hL 3 (by omega)
 rw [show ((3:Nat):Int)=3 from rfl] at h3
 unfold arAV at h3
 have hr1:=numA_r (L:=L) 1 (o:=1) (by decide)
 have hr2:=numA_r (L:=L) 2 (o:=1) (by decide)
 obtain ⟨hw3,hl3⟩:=txtA_w hL 3
 have hlen:=strsA_len (pcs (txtA L 0).1)
 have hfl:=pcs_flat (txtA L 0).1
 refine rk_one (by decide) (by rw [show (limX nREPLACE).1=4 by decide];omega) (by rw [show (limX nREPLACE).2=4 by decide];omega) hL (by omega) (by decide) (by decide) (by decide) (by decide) fun c4 c7 c8 h4 h7 h8 m1 m2 m3 m4 m5 m6 a hf=>?_
 unfold nREPLACE at *
 generalize L.map tellAV=LA at *
 generalize (seen (seen (seen (seen 0 (txtA L 0).2) (numA L 1 1).2) (numA L 2 1).2) (txtA L 3).2)=f4 at *
 generalize (seen (seen (seen 0 (txtA L 0).2) (numA L 1 1).2) (numA L 2 1).2)=f3 at *
 generalize (seen (seen 0 (txtA L 0).2) (numA L 1 1).2)=f2 at *
 generalize (seen 0 (txtA L 0).2)=f1 at *
 generalize (txtA L 0).1=S at *
 generalize (numA L 1 1).1=A at *
 generalize (numA L 2 1).1=B at *
 generalize (txtA L 3).1=Y at *
 by_cases c1:A<1
 ·have eV:replP S A B Y = .fail 3:=by unfold replP;rw [if_pos (.inl c1)]
  rw [eV] at hTd
  simp only [tellAV] at hTd
  generalize strsA (pcs S)=SA at *
  simp (disch:=first|assumption|omega|(simp only [List.length_append,List.length_cons,List.length_nil];omega)) only [go_sem,hf,ASt.set_set,nes_REPLACE]
  refine h1.use ?_
  simp (disch:=first|assumption|omega|(simp only [List.length_append,List.length_cons,List.length_nil];omega)) only [go_sem,hf,ASt.set_set,nes_REPLACE]
  refine allocC_by fun d1 hd1=>?_
  repeat (with_reducible replace hd1:=set_none hd1;obtain ⟨_,_,hd1⟩:=hd1)
  simp (disch:=first|assumption|omega|(simp only [List.length_append,List.length_cons,List.length_nil];omega)) only [go_sem,hf,ASt.set_set,nes_REPLACE]
  refine h2.use ?_
  simp (disch:=first|assumption|omega|(simp only [List.length_append,List.length_cons,List.length_nil];omega)) only [go_sem,hf,ASt.set_set,nes_REPLACE]
  refine allocC_by fun d2 hd2=>?_
  repeat (with_reducible replace hd2:=set_none hd2;obtain ⟨_,_,hd2⟩:=hd2)
  simp (disch:=first|assumption|omega|(simp only [List.length_append,List.length_cons,List.length_nil];omega)) only [go_sem,hf,ASt.set_set,nes_REPLACE]
  refine h3.use ?_
  simp (disch:=first|assumption|omega|(simp only [List.length_append,List.length_cons,List.length_nil];omega)) only [go_sem,hf,ASt.set_set,nes_REPLACE]
  refine allocC_by fun d3 hd3=>?_
  repeat (with_reducible replace hd3:=set_none hd3;obtain ⟨_,_,hd3⟩:=hd3)
  simp (disch:=first|assumption|omega|(simp only [List.length_append,List.length_cons,List.length_nil];omega)) only [go_sem,hf,ASt.set_set,c1,nes_REPLACE]
  refine hTd.use ?_
  simp (disch:=first|assumption|omega|(simp only [List.length_append,List.length_cons,List.length_nil];omega)) only [go_sem,hf,ASt.set_set,nes_REPLACE]
  exact retC_by (by repeat' (first|exact Drop.refl _|with_reducible refine Drop.off ?_ (by assumption))) (.refl _) ⟨rfl,rfl⟩
 by_cases c2:B<0
 ·have eV:replP S A B Y = .fail 3:=by unfold replP;rw [if_pos (.inr c2)]
  rw [eV] at hTd
  simp only [tellAV] at hTd
  generalize strsA (pcs S)=SA at *
  simp (disch:=first|assumption|omega|(simp only [List.length_append,List.length_cons,List.length_nil];omega)) only [go_sem,hf,ASt.set_set,nes_REPLACE]
  refine h1.use ?_
  simp (disch:=first|assumption|omega|(simp only [List.length_append,List.length_cons,List.length_nil];omega)) only [go_sem,hf,ASt.set_set,nes_REPLACE]
  refine allocC_by fun d1 hd1=>?_
  repeat (with_reducible replace hd1:=set_none hd1;obtain ⟨_,_,hd1⟩:=hd1)
  simp (disch:=first|assumption|omega|(simp only [List.length_append,List.length_cons,List.length_nil];omega)) only [go_sem,hf,ASt.set_set,nes_REPLACE]
  refine h2.use ?_
  simp (disch:=first|assumption|omega|(simp only [List.length_append,List.length_cons,List.length_nil];omega)) only [go_sem,hf,ASt.set_set,nes_REPLACE]
  refine allocC_by fun d2 hd2=>?_
  repeat (with_reducible replace hd2:=set_none hd2;obtain ⟨_,_,hd2⟩:=hd2)
  simp (disch:=first|assumption|omega|(simp only [List.length_append,List.length_cons,List.length_nil];omega)) only [go_sem,hf,ASt.set_set,nes_REPLACE]
  refine h3.use ?_
  simp (disch:=first|assumption|omega|(simp only [List.length_append,List.length_cons,List.length_nil];omega)) only [go_sem,hf,ASt.set_set,nes_REPLACE]
  refine allocC_by fun d3 hd3=>?_
  repeat (with_reducible replace hd3:=set_none hd3;obtain ⟨_,_,hd3⟩:=hd3)
  simp (disch:=first|assumption|omega|(simp only [List.length_append,List.length_cons,List.length_nil];omega)) only [go_sem,hf,ASt.set_set,c1,c2,nes_REPLACE]
  refine hTd.use ?_
  simp (disch:=first|assumption|omega|(simp only [List.length_append,List.length_cons,List.length_nil];omega)) only [go_sem,hf,ASt.set_set,nes_REPLACE]
  exact retC_by (by repeat' (first|exact Drop.refl _|with_reducible refine Drop.off ?_ (by assumption))) (.refl _) ⟨rfl,rfl⟩
 obtain ⟨N,rfl⟩:∃ N:Nat,B=N:=⟨B.toNat,by omega⟩
 obtain ⟨M,rfl⟩:∃ M:Nat,A=(M:Int)+1:=⟨(A-1).toNat,by omega⟩
 rw [repl17] at hTd
 have eM:(M:Int)+1-1=M:=by omega
 obtain ⟨K,hK⟩:∃ K,M+N=K:=⟨_,rfl⟩
 have eN:(M:Int)+N=K:=by omega
 rw [hK] at hTd
 have hS1:=rsome_ok .shr (pcs S) 0 M (by omega) (by omega) (by omega)
 have hS2:=rsome_ok .shr (pcs S) K (pcs S).length (by omega) (by omega) (by omega)
 have hle1:=fl_le (pcs S) 0 M
 have hle2:=fl_le (pcs S) K (pcs S).length
 rw [hfl] at hle1 hle2
 have hA1:=rall_ok .shr (((pcs S).drop 0).take M) (by omega) (by rw [List.length_take,List.length_drop];omega)
 have hA2:=rall_ok .shr (((pcs S).drop K).take (pcs S).length) (by omega) (by rw [List.length_take,List.length_drop];omega)
 rw [show ((0:Nat):Int)=0 from rfl] at hS1
 generalize (((pcs S).drop 0).take M).flatten=R1 at *
 generalize strsA (((pcs S).drop 0).take M)=RA1 at *
 generalize (((pcs S).drop K).take (pcs S).length).flatten=R2 at *
 generalize strsA (((pcs S).drop K).take (pcs S).length)=RA2 at *
 have e5:binS .add R1 Y=some (.str (R1++Y)):=binS_add (by omega)
 have e6:binS .add (R1++Y) R2=some (.str ((R1++Y)++R2)):=binS_add (by rw [List.length_append];omega)
 have hN:=r15made_ok ((R1++Y)++R2)
 generalize (R1++Y)++R2=R at *
 generalize R1++Y=RY at *
 obtain ⟨y1,y2,y3,hv⟩:=tell_agg (madeT R)
 rw [hv] at hTd hN
 clear hv
 generalize strsA (pcs S)=SA at *
 generalize (pcs S).length=n at *
 simp (disch:=first|assumption|omega|(simp only [List.length_append,List.length_cons,List.length_nil];omega)) only [go_sem,hf,ASt.set_set,nes_REPLACE]
 refine h1.use ?_
 simp (disch:=first|assumption|omega|(simp only [List.length_append,List.length_cons,List.length_nil];omega)) only [go_sem,hf,ASt.set_set,nes_REPLACE]
 refine allocC_by fun d1 hd1=>?_
 repeat (with_reducible replace hd1:=set_none hd1;obtain ⟨_,_,hd1⟩:=hd1)
 simp (disch:=first|assumption|omega|(simp only [List.length_append,List.length_cons,List.length_nil];omega)) only [go_sem,hf,ASt.set_set,nes_REPLACE]
 refine h2.use ?_
 simp (disch:=first|assumption|omega|(simp only [List.length_append,List.length_cons,List.length_nil];omega)) only [go_sem,hf,ASt.set_set,nes_REPLACE]
 refine allocC_by fun d2 hd2=>?_
 repeat (with_reducible replace hd2:=set_none hd2;obtain ⟨_,_,hd2⟩:=hd2)
 simp (disch:=first|assumption|omega|(simp only [List.length_append,List.length_cons,List.length_nil];omega)) only [go_sem,hf,ASt.set_set,nes_REPLACE]
 refine h3.use ?_
 simp (disch:=first|assumption|omega|(simp only [List.length_append,List.length_cons,List.length_nil];omega)) only [go_sem,hf,ASt.set_set,nes_REPLACE]
 refine allocC_by fun d3 hd3=>?_
 repeat (with_reducible replace hd3:=set_none hd3;obtain ⟨_,_,hd3⟩:=hd3)
 simp (disch:=first|assumption|omega|(simp only [List.length_append,List.length_cons,List.length_nil];omega)) only [go_sem,hf,ASt.set_set,c1,c2,eM,hlen,nes_REPLACE]
 refine hS1.use ?_
 simp (disch:=first|assumption|omega|(simp only [List.length_append,List.length_cons,List.length_nil];omega)) only [go_sem,hf,ASt.set_set,eM,eN,hlen,nes_REPLACE]
 refine hA1.use ?_
 simp (disch:=first|assumption|omega|(simp only [List.length_append,List.length_cons,List.length_nil];omega)) only [go_sem,hf,ASt.set_set,e5,eM,eN,hlen,nes_REPLACE]
 refine hS2.use ?_
 simp (disch:=first|assumption|omega|(simp only [List.length_append,List.length_cons,List.length_nil];omega)) only [go_sem,hf,ASt.set_set,e5,nes_REPLACE]
 refine hA2.use ?_
 simp (disch:=first|assumption|omega|(simp only [List.length_append,List.length_cons,List.length_nil];omega)) only [go_sem,hf,ASt.set_set,e5,e6,nes_REPLACE]
 refine hN.use ?_
 simp (disch:=first|assumption|omega|(simp only [List.length_append,List.length_cons,List.length_nil];omega)) only [go_sem,hf,ASt.set_set,nes_REPLACE]
 refine hTd.use ?_
 simp (disch:=first|assumption|omega|(simp only [List.length_append,List.length_cons,List.length_nil];omega)) only [go_sem,hf,ASt.set_set,nes_REPLACE]
 exact retC_by (by repeat' (first|exact Drop.refl _|with_reducible refine Drop.off ?_ (by assumption))) (.refl _) ⟨rfl,rfl⟩
set_option maxHeartbeats 1000000 in
theorem rk_CHAR {σ:ASt} {L:List PV} (hL:okA L) (hl:1<=L.length) (hm:L.length<=1) :
  ACalls Tryz.prog 12 [.str nCHAR,.sl .shr (L.map tellAV)] σ fun v σ'=>v=tellAV (if (seen 0 (numA L 0 0).2)=0 then (signV (numA L 0 0).1) else .fail (seen 0 (numA L 0 0).2))/\σ'=σ:=by
 have hFb:=(seen_b ⟨Int.le_refl 0,(show (0:Int)<=7 by decide)⟩ (numA_b hL 0 0))
 have hTd:=r17told_ok (L:=L) (f:=(seen 0 (numA L 0 0).2)) (signV (numA L 0 0).1) (by omega) (by omega)
 obtain ⟨x1,x2,x3,ht⟩:=tell_agg (if (seen 0 (numA L 0 0).2)=0 then (signV (numA L 0 0).1) else .fail (seen 0 (numA L 0 0).2))
 rw [ht] at hTd ⊢
 clear ht
 have h0:=r17num_gen (f:=0) hL 0 0
 have hB:=rbytes_ok (numA L 0 0).1
 rw [show ((0:Nat):Int)=0 from rfl] at h0
 rw [sign17] at hTd
 unfold arAV at hTd h0
 refine rk_pre (by decide) (by rw [show (limX nCHAR).1=1 by decide];omega) (by rw [show (limX nCHAR).2=1 by decide];omega) fun c4 c7 c8 h4 h7 h8 m1 m2 m3 m4 m5 m6 a hf=>?_
 unfold nCHAR at *
 generalize L.map tellAV=LA at *
 generalize (seen 0 (numA L 0 0).2)=f1 at *
 generalize (numA L 0 0).1=n at *
 by_cases hn:noSign n
 ·rw [if_pos hn] at hTd hB
  simp only [tellAV] at hTd
  simp (disch:=first|assumption|omega|(simp only [List.length_append,List.length_cons,List.length_nil];omega)) only [go_sem,hf,nes_CHAR]
  refine h0.use ?_
  simp (disch:=first|assumption|omega|(simp only [List.length_append,List.length_cons,List.length_nil];omega)) only [go_sem,hf,nes_CHAR]
  refine allocC_by fun d1 hd1=>?_
  repeat (with_reducible replace hd1:=set_none hd1;obtain ⟨_,_,hd1⟩:=hd1)
  simp (disch:=first|assumption|omega|(simp only [List.length_append,List.length_cons,List.length_nil];omega)) only [go_sem,hf,ASt.set_set,nes_CHAR]
  refine hB.use ?_
  simp (disch:=first|assumption|omega|(simp only [List.length_append,List.length_cons,List.length_nil];omega)) only [go_sem,hf,ASt.set_set,nes_CHAR]
  refine hTd.use ?_
  simp (disch:=first|assumption|omega|(simp only [List.length_append,List.length_cons,List.length_nil];omega)) only [go_sem,hf,ASt.set_set,nes_CHAR]
  exact retC_by (by repeat' (first|exact Drop.refl _|with_reducible refine Drop.off ?_ (by assumption))) (.refl _) ⟨rfl,rfl⟩
 ·rw [if_neg hn] at hTd hB
  have hN:=rText_ok (encU n)
  have hne:¬ encU n = []:=fun e=>by have:=(encU_len n).1;rw [e] at this;simp at this
  simp only [tellAV] at hTd hN
  generalize encU n=R at *
  simp (disch:=first|assumption|omega|(simp only [List.length_append,List.length_cons,List.length_nil];omega)) only [go_sem,hf,nes_CHAR]
  refine h0.use ?_
  simp (disch:=first|assumption|omega|(simp only [List.length_append,List.length_cons,List.length_nil];omega)) only [go_sem,hf,nes_CHAR]
  refine allocC_by fun d1 hd1=>?_
  repeat (with_reducible replace hd1:=set_none hd1;obtain ⟨_,_,hd1⟩:=hd1)
  simp (disch:=first|assumption|omega|(simp only [List.length_append,List.length_cons,List.length_nil];omega)) only [go_sem,hf,ASt.set_set,nes_CHAR]
  refine hB.use ?_
  simp (disch:=first|assumption|omega|(simp only [List.length_append,List.length_cons,List.length_nil];omega)) only [go_sem,hf,hne,ASt.set_set,nes_CHAR]
  refine hN.use ?_
  simp (disch:=first|assumption|omega|(simp only [List.length_append,List.length_cons,List.length_nil];omega)) only [go_sem,hf,ASt.set_set,nes_CHAR]
  refine hTd.use ?_
  simp (disch:=first|assumption|omega|(simp only [List.length_append,List.length_cons,List.length_nil];omega)) only [go_sem,hf,ASt.set_set,nes_CHAR]
  exact retC_by (by repeat' (first|exact Drop.refl _|with_reducible refine Drop.off ?_ (by assumption))) (.refl _) ⟨rfl,rfl⟩
set_option maxHeartbeats 1000000 in
theorem rk_T {σ:ASt} {L:List PV} (hl:1<=L.length) (hm:L.length<=1) :
  ACalls Tryz.prog 12 [.str nT,.sl .shr (L.map tellAV)] σ fun v σ'=>v=tellAV (tV L)/\σ'=σ:=by
 obtain ⟨v,hv⟩:∃ v,L[0]? = some v:=⟨_,List.getElem?_eq_getElem (by omega)⟩
 have hg:=tell_at hv
 have hN:=rText_ok []
 unfold tV
 rw [hv]
 refine rk_pre (by decide) (by rw [show (limX nT).1=1 by decide];omega) (by rw [show (limX nT).2=1 by decide];omega) fun c4 c7 c8 h4 h7 h8 m1 m2 m3 m4 m5 m6 a hf=>?_
 unfold nT at hf
 generalize L.map tellAV=LA at *
 cases v with
 | text s=>
   simp only [tellAV] at hg hN ⊢
   simp (disch:=first|assumption|omega|(simp only [List.length_append,List.length_cons,List.length_nil];omega)) only [go_sem,hf,hg,nes_T]
   exact retC_by (by repeat' (first|exact Drop.refl _|with_reducible refine Drop.off ?_ (by assumption))) (.refl _) ⟨rfl,rfl⟩
 | fail n=>
   simp only [tellAV] at hg hN ⊢
   simp (disch:=first|assumption|omega|(simp only [List.length_append,List.length_cons,List.length_nil];omega)) only [go_sem,hf,hg,nes_T]
   exact retC_by (by repeat' (first|exact Drop.refl _|with_reducible refine Drop.off ?_ (by assumption))) (.refl _) ⟨rfl,rfl⟩
 | _=>
   simp only [tellAV] at hg hN ⊢
   simp (disch:=first|assumption|omega|(simp only [List.length_append,List.length_cons,List.length_nil];omega)) only [go_sem,hf,hg,nes_T]
   refine hN.use ?_
   simp (disch:=first|assumption|omega|(simp only [List.length_append,List.length_cons,List.length_nil];omega)) only [go_sem,hf,ASt.set_set,nes_T]
   exact retC_by (by repeat' (first|exact Drop.refl _|with_reducible refine Drop.off ?_ (by assumption))) (.refl _) ⟨rfl,rfl⟩
set_option maxHeartbeats 1000000 in
theorem rk_FIXED {σ:ASt} {L:List PV} (hL:okA L) (hl:1<=L.length) (hm:L.length<=2) {s:List UInt8} {ok:Bool}
  (h:Pure Tryz.prog 27 [.int .i64 (frstA L).1,.int .i64 (numA L 1 2).1] (.tuple [.str s,.bool ok])) :
  ACalls Tryz.prog 12 [.str nFIXED,.sl .shr (L.map tellAV)] σ fun v σ'=>v=tellAV (if (seen (frstA L).2 (numA L 1 2).2)=0 then (fixV s ok) else .fail (seen (frstA L).2 (numA L 1 2).2))/\σ'=σ:=by
 obtain ⟨v,hv⟩:∃ v,L[0]? = some v:=⟨_,List.getElem?_eq_getElem (by omega)⟩
 have hgd:=hL v (List.mem_of_getElem? hv)
 have hg:=tell_at hv
 have e:frstA L=asNum v:=by unfold frstA;rw [hv]
 have hA:=r15asnumber_ok v hgd.2.1 (fun n e=>by subst e;obtain ⟨g1,g2⟩:1<=n/\n<=7:=hgd.1;omega)
 have hab:=asNum_b hgd.1
 rw [e] at h ⊢
 have hFb:=seen_b hab (numA_b hL 1 2)
 have hTd:=r17told_ok (L:=L) (f:=(seen (asNum v).2 (numA L 1 2).2)) (fixV s ok) (by omega) (by omega)
 obtain ⟨x1,x2,x3,ht⟩:=tell_agg (if (seen (asNum v).2 (numA L 1 2).2)=0 then (fixV s ok) else .fail (seen (asNum v).2 (numA L 1 2).2))
 rw [ht] at hTd ⊢
 clear ht
 have h1:=r17num_gen (f:=(asNum v).2) hL 1 2
 rw [show ((1:Nat):Int)=1 from rfl] at h1
 unfold arAV at hTd h1
 obtain ⟨y1,y2,y3,hy⟩:=tell_agg v
 rw [hy] at hg hA
 refine rk_pre (by decide) (by rw [show (limX nFIXED).1=1 by decide];omega) (by rw [show (limX nFIXED).2=2 by decide];omega) fun c4 c7 c8 h4 h7 h8 m1 m2 m3 m4 m5 m6 a hf=>?_
 unfold nFIXED at *
 generalize L.map tellAV=LA at *
 generalize (seen (asNum v).2 (numA L 1 2).2)=f2 at *
 generalize (numA L 1 2).1=n at *
 generalize asNum v=w at *
 obtain ⟨w1,w2⟩:=w
 dsimp only at *
 cases ok with
 | true=>
   have hN:=rText_ok s
   unfold fixV at hTd
   rw [if_pos rfl] at hTd
   simp only [tellAV] at hTd hN
   simp (disch:=first|assumption|omega|(simp only [List.length_append,List.length_cons,List.length_nil];omega)) only [go_sem,hf,hg,nes_FIXED]
   refine hA.use ?_
   simp (disch:=first|assumption|omega|(simp only [List.length_append,List.length_cons,List.length_nil];omega)) only [go_sem,hf,ASt.set_set,nes_FIXED]
   refine h1.use ?_
   simp (disch:=first|assumption|omega|(simp only [List.length_append,List.length_cons,List.length_nil];omega)) only [go_sem,hf,nes_FIXED]
   refine allocC_by fun d1 hd1=>?_
   repeat (with_reducible replace hd1:=set_none hd1;obtain ⟨_,_,hd1⟩:=hd1)
   simp (disch:=first|assumption|omega|(simp only [List.length_append,List.length_cons,List.length_nil];omega)) only [go_sem,hf,ASt.set_set,nes_FIXED]
   refine h.use ?_
   simp (disch:=first|assumption|omega|(simp only [List.length_append,List.length_cons,List.length_nil];omega)) only [go_sem,hf,ASt.set_set,nes_FIXED]
   refine hN.use ?_
   simp (disch:=first|assumption|omega|(simp only [List.length_append,List.length_cons,List.length_nil];omega)) only [go_sem,hf,ASt.set_set,nes_FIXED]
   refine hTd.use ?_
   simp (disch:=first|assumption|omega|(simp only [List.length_append,List.length_cons,List.length_nil];omega)) only [go_sem,hf,ASt.set_set,nes_FIXED]
   exact retC_by (by repeat' (first|exact Drop.refl _|with_reducible refine Drop.off ?_ (by assumption))) (.refl _) ⟨rfl,rfl⟩
 | false=>
   have hN:=rFail_ok 2 (by omega) (by omega)
   unfold fixV at hTd
   rw [if_neg (by decide)] at hTd
   simp only [tellAV] at hTd hN
   simp (disch:=first|assumption|omega|(simp only [List.length_append,List.length_cons,List.length_nil];omega)) only [go_sem,hf,hg,nes_FIXED]
   refine hA.use ?_
   simp (disch:=first|assumption|omega|(simp only [List.length_append,List.length_cons,List.length_nil];omega)) only [go_sem,hf,ASt.set_set,nes_FIXED]
   refine h1.use ?_
   simp (disch:=first|assumption|omega|(simp only [List.length_append,List.length_cons,List.length_nil];omega)) only [go_sem,hf,nes_FIXED]
   refine allocC_by fun d1 hd1=>?_
   repeat (with_reducible replace hd1:=set_none hd1;obtain ⟨_,_,hd1⟩:=hd1)
   simp (disch:=first|assumption|omega|(simp only [List.length_append,List.length_cons,List.length_nil];omega)) only [go_sem,hf,ASt.set_set,nes_FIXED]
   refine h.use ?_
   simp (disch:=first|assumption|omega|(simp only [List.length_append,List.length_cons,List.length_nil];omega)) only [go_sem,hf,ASt.set_set,nes_FIXED]
   refine hN.use ?_
   simp (disch:=first|assumption|omega|(simp only [List.length_append,List.length_cons,List.length_nil];omega)) only [go_sem,hf,ASt.set_set,nes_FIXED]
   refine hTd.use ?_
   simp (disch:=first|assumption|omega|(simp only [List.length_append,List.length_cons,List.length_nil];omega)) only [go_sem,hf,ASt.set_set,nes_FIXED]
   exact retC_by (by repeat' (first|exact Drop.refl _|with_reducible refine Drop.off ?_ (by assumption))) (.refl _) ⟨rfl,rfl⟩
end Go.A
namespace Go.A
open Go.Proofs
theorem arg_get {L:List PV} {i:Nat} {v:PV} (h:L[i]? = some v):(L.map argAV)[i]? = some (argAV v):=by rw [List.getElem?_map,h];rfl
end Go.A
namespace Go.A
open Go.Proofs
/-! 5: tabular/tabularlaw16.Few -/
def c5_9:ACode := .seq (.ops [ oq 4 (.mv (.v (.sl .full [])))]) (.seq (.seq (.ops [ oq 5 (.mv (.t 0)),oq 6 (.len (.t 5)),oq 7 (.mv (.t 1)),oq 8 (.bin .gtr (.t 6) (.t 7))]) (.cond (.t 8) (.seq (.ops [ oq 9 (.mv (.t 0)),oq 10 (.mv (.t 1)),oq 11 (.slto (false,3) (.t 9) (.t 10)),oq 4 (.mv (.t 11))]) .ret) .skip)) (.seq (.ops [ oq 12 (.mv (.t 0)),oq 4 (.mv (.t 12))]) .ret))
@[go_sem] def c5_9_wp:=wp_of c5_9.eq_1
def c5:AFn:=⟨13,[.t 4],c5_9⟩
theorem c5_ok:compF Tryz.prog Tryz.f5=some c5:=by kernel_rfl
theorem a5 {args:List AV} {σ:ASt} {R:AV->ASt->Prop} (hl:args.length<=13) (h:c5_9.wp Tryz.prog (RetQ [.t 4] R) (init args) σ):ACalls Tryz.prog 5 args σ R:=acalls_of Tryz.func5 c5_ok hl h
end Go.A
namespace Go.A
open Go.Proofs
theorem few_ok (L:List Pl) (n:Nat) (hn:L.length<=9223372036854775807):Pure Tryz.prog 5 [.sl .shr (L.map plAV),.int .i64 n] (.sl .shr ((L.take n).map plAV)):=by
 intro σ
 refine a5 (by simp) ?_
 by_cases h:n<L.length
 ·have h':(n:Int)<L.length:=by omega
  have hs:=slV_to (f:=plAV) (s:=3) (k := .shr) (L:=L) (j:=n) (by omega)
  simp (disch:=first|assumption|omega|(simp only [List.length_append,List.length_cons,List.length_nil];omega)) only [go_sem,h',hs]
  exact retC_by (by repeat' (first|exact Drop.refl _|with_reducible refine Drop.off ?_ (by assumption))) (.refl _) ⟨rfl,rfl⟩
 ·have h':¬ (n:Int)<L.length:=by omega
  rw [List.take_of_length_le (by omega)]
  simp (disch:=first|assumption|omega|(simp only [List.length_append,List.length_cons,List.length_nil];omega)) only [go_sem,h']
  exact retC_by (by repeat' (first|exact Drop.refl _|with_reducible refine Drop.off ?_ (by assumption))) (.refl _) ⟨rfl,rfl⟩
end Go.A
namespace Go.A
open Go.Proofs Go.Lib
def stC (σ:ASt) (c4 c7 c8 d:Nat) (X Y:List AV):ASt:=(((σ.set c4 (some (.obj [.int .i64 0,.int .i64 0,.str []]))).set c7 (some (.obj X))).set c8 (some (.obj [.int .i64 4,.int .i64 3,.str []]))).set d (some (.obj Y))
set_option maxHeartbeats 2000000 in
theorem rk_CONCAT {σ:ASt} {L:List PV} (hL:okA L) (hl:1<=L.length) (hm:L.length<=30) :
  ACalls Tryz.prog 12 [.str nCONCAT,.sl .shr (L.map tellAV)] σ fun v σ'=>v=tellAV (if catF L=0 then (PV.text (catP L)) else .fail (catF L))/\σ'=σ:=by
 have hFb:=catF_b hL L.length
 rw [List.take_length] at hFb
 have hTd:=r17told_ok (L:=L) (f:=catF L) (PV.text (catP L)) (by omega) (by omega)
 obtain ⟨x1,x2,x3,ht⟩:=tell_agg (if catF L=0 then (PV.text (catP L)) else .fail (catF L))
 rw [ht] at hTd ⊢
 clear ht
 have hN0:=rText_ok []
 have hlm:(L.map tellAV).length=L.length:=List.length_map _
 have htx:=fun (f:Int) (i:Nat) (hi:i<L.length)=>r17text_gen (f:=f) hL i hi
 unfold arAV at hTd htx
 simp only [tellAV] at hTd hN0
 refine rk_pre (by decide) (by rw [show (limX nCONCAT).1=1 by decide];omega) (by rw [show (limX nCONCAT).2=30 by decide];omega) fun c4 c7 c8 h4 h7 h8 m1 m2 m3 m4 m5 m6 a hf=>?_
 unfold nCONCAT at hf
 generalize L.map tellAV=LA at *
 obtain ⟨F,hFF⟩:∃ F,F=ACode.wp Tryz.prog c12_80:=⟨_,rfl⟩
 simp (disch:=first|assumption|omega|(simp only [List.length_append,List.length_cons,List.length_nil];omega)) only [go_sem,hf,nes_CONCAT,←hFF]
 refine hN0.use ?_
 simp (disch:=first|assumption|omega|(simp only [List.length_append,List.length_cons,List.length_nil];omega)) only [go_sem,hf,nes_CONCAT,←hFF]
 refine allocC_by fun d hd=>?_
 repeat (with_reducible replace hd:=set_none hd;obtain ⟨_,_,hd⟩:=hd)
 have q7:d≠c7:=by assumption
 have q7':c7≠d:=by assumption
 have q8:d≠c8:=by assumption
 have q8':c8≠d:=by assumption
 have q4:d≠c4:=by assumption
 have q4':c4≠d:=by assumption
 simp (disch:=first|assumption|omega|(simp only [List.length_append,List.length_cons,List.length_nil];omega)) only [go_sem,hf,hlm,ASt.set_set,nes_CONCAT,←hFF]
 refine wp_loop_by (fun (i:Nat) a s1=>i<=L.length/\(a 4 = .ptr c4 0/\a 7 = .ptr c7 0/\a 18 = .ptr d 0/\a 150 = .int .i64 L.length/\a 151 = .int .i64 i)/\s1=stC σ c4 c7 c8 d [.sl .shr LA,.int .i64 (catF (L.take i))] [.int .i64 2,.int .i64 0,.str (catP (L.take i))]) (fun i=>L.length-i) 0 (Dr.now ⟨Nat.zero_le _,?_,rfl⟩) ?_
 ·simp (disch:=first|assumption|omega|(simp only [List.length_append,List.length_cons,List.length_nil];omega)) only [go_sem,hf]
 rintro i a1 s1 ⟨hi,hf,hs1⟩
 have k7:s1 c7=some (.obj [.sl .shr LA,.int .i64 (catF (L.take i))]):=by rw [hs1];unfold stC;rw [ASt.set_ne q7',ASt.set_ne m5,ASt.set_same]
 have k18:s1 d=some (.obj [.int .i64 2,.int .i64 0,.str (catP (L.take i))]):=by rw [hs1];unfold stC;rw [ASt.set_same]
 by_cases hlt:i<L.length
 ·have hlt':(i:Int)<L.length:=by omega
  obtain ⟨v,hv⟩:∃ v,L[i]? = some v:=⟨_,List.getElem?_eq_getElem hlt⟩
  obtain ⟨hc1,hc2⟩:=cat_step hv
  have hcl:=catP_len hL i
  have hcl2:=catP_len hL (i+1)
  have h1:=htx (catF (L.take i)) i hlt
  have htx2:txtA L i=asTextP v:=by unfold txtA;rw [hv]
  rw [htx2,← hc2] at h1
  have hvl:=(hL v (List.mem_of_getElem? hv)).2.2.2
  have hN:=rText_ok (asTextP v).1
  have hJ:=r15join_ok (catP (L.take i)) (asTextP v).1 (by omega) (by omega)
  rw [<-hc1,madeT_short (by omega)] at hJ
  simp only [tellAV] at hN hJ
  obtain ⟨A,hA⟩:∃ A,catF (L.take (i+1))=A:=⟨_,rfl⟩
  obtain ⟨B,hB⟩:∃ B,catP (L.take (i+1))=B:=⟨_,rfl⟩
  rw [hA] at h1
  rw [hB] at hJ
  generalize (asTextP v).1=t at *
  generalize catP (L.take i)=C at *
  generalize catF (L.take i)=f0 at *
  simp (disch:=first|assumption|omega|(simp only [List.length_append,List.length_cons,List.length_nil];omega)) only [go_sem,hf,k7,hlt',←hFF]
  refine h1.use ?_
  simp (disch:=first|assumption|omega|(simp only [List.length_append,List.length_cons,List.length_nil];omega)) only [go_sem,hf,k7,←hFF]
  refine allocC_by fun e he=>?_
  have he1:s1 e=none:=he
  have p7:e≠c7:=fun h=>by rw [h,k7] at he1;cases he1
  have p7':c7≠e:=fun h=>p7 h.symm
  have p18:e≠d:=fun h=>by rw [h,k18] at he1;cases he1
  have p18':d≠e:=fun h=>p18 h.symm
  simp (disch:=first|assumption|omega|(simp only [List.length_append,List.length_cons,List.length_nil];omega)) only [go_sem,hf,k7,k18,ASt.set_set,←hFF]
  refine hN.use ?_
  simp (disch:=first|assumption|omega|(simp only [List.length_append,List.length_cons,List.length_nil];omega)) only [go_sem,hf,k7,k18,ASt.set_set,←hFF]
  refine hJ.use ?_
  simp (disch:=first|assumption|omega|(simp only [List.length_append,List.length_cons,List.length_nil];omega)) only [go_sem,hf,k7,k18,ASt.set_set,←hFF]
  have he2:σ e=none/\e≠c4/\e≠c8:=by
   rw [hs1] at he1
   unfold stC at he1
   rw [ASt.set_ne p18] at he1
   have h3:=set_none he1
   obtain ⟨g1,g2,g3⟩:=h3
   rw [ASt.set_ne p7] at g3
   obtain ⟨g4,g5,g6⟩:=set_none g3
   exact ⟨g6,by assumption,by assumption⟩
  refine ⟨i+1,by dsimp only;omega,Dr.drop (σ':=stC σ c4 c7 c8 d [.sl .shr LA,.int .i64 A] [.int .i64 2,.int .i64 0,.str B]) ?_ ⟨by omega,?_,by rw [hA,hB]⟩⟩
  ·refine Eq.subst (motive:=fun z=>Drop z _) ?_ (Drop.set (σ:=stC σ c4 c7 c8 d [.sl .shr LA,.int .i64 A] [.int .i64 2,.int .i64 0,.str B]) (b:=e) (r:=some (.obj [.sl .shr LA,.int .i64 A])) ?_)
   ·rw [hs1]
    unfold stC
    funext x
    simp only [ASt.set]
    obtain ⟨g1,g2,g3⟩:=he2
    by_cases y1:x=e
    ·simp [y1,p7,p18,g2,g3]
    by_cases y2:x=d
    ·simp [y2,p18',q7,q8,q4]
    by_cases y3:x=c7
    ·simp [y3,p7',q7',m5,m2]
    simp [y1,y2,y3]
   ·obtain ⟨g1,g2,g3⟩:=he2
    unfold stC
    rw [ASt.set_ne p18,ASt.set_ne g3,ASt.set_ne p7,ASt.set_ne g2]
    exact g1
  ·simp (disch:=first|assumption|omega|(simp only [List.length_append,List.length_cons,List.length_nil];omega)) only [go_sem,hf]
 ·have hlt':¬ (i:Int)<L.length:=by omega
  rw [List.take_of_length_le (by omega)] at k7 k18 hs1
  simp (disch:=first|assumption|omega|(simp only [List.length_append,List.length_cons,List.length_nil];omega)) only [go_sem,hf,hlt',←hFF]
  rw [hFF]
  simp (disch:=first|assumption|omega|(simp only [List.length_append,List.length_cons,List.length_nil];omega)) only [go_sem,hf,k7,k18]
  refine hTd.use ?_
  rw [hs1]
  unfold stC
  simp (disch:=first|assumption|omega|(simp only [List.length_append,List.length_cons,List.length_nil];omega)) only [go_sem,hf,ASt.set_set]
  exact retC_by (by repeat' (first|exact Drop.refl _|with_reducible refine Drop.off ?_ (by assumption))) (.refl _) ⟨rfl,rfl⟩
end Go.A
namespace Go.A
open Go.Proofs
/-! 3: tabular/tabularlaw17.TextsCalls -/
def c3_7:ACode := .seq (.ops [ oq 4 (.mv (.v (.bool false)))]) (.seq (.ops [ oq 5 (.mv (.t 0)),oe 6 (.call 4 [(.t 5),(.v (.int .i64 12))]),oq 0 (.mv (.t 6))]) (.seq (.ops [ oq 7 (.mv (.t 1)),oe 8 (.call 5 [(.t 7),(.v (.int .i64 32))]),oq 1 (.mv (.t 8))]) (.seq (.ops [ oe 9 (.call 6 []),oq 10 (.mv (.t 9)),⟨some 11,some (10,true),.q (.mv (.t 0)),[]⟩,⟨some 12,some (10,true),.e (.call 7 [(.t 11)]),[]⟩,⟨some 13,some (10,true),.q (.mv (.t 0)),[]⟩,⟨some 14,some (10,true),.e (.call 8 [(.t 13)]),[]⟩,⟨some 15,some (10,true),.q (.eq .b false (.t 12) (.t 14)),[]⟩,oq 16 (.pick (.t 10) (.t 15) (.v (.bool false))),oq 17 (.mv (.t 16)),⟨some 18,some (17,true),.q (.mv (.t 0)),[]⟩,⟨some 19,some (17,true),.q (.mv (.t 1)),[]⟩,⟨some 20,some (17,true),.e (.call 11 [(.t 19)]),[]⟩,⟨some 21,some (17,true),.e (.call 10 [(.t 18),(.t 20)]),[]⟩,⟨some 22,some (17,true),.e (.call 9 [(.t 21)]),[]⟩,⟨some 23,some (17,true),.q (.mv (.t 0)),[]⟩,⟨some 24,some (17,true),.q (.mv (.t 1)),[]⟩,⟨some 25,some (17,true),.e (.call 13 [(.t 24)]),[]⟩,⟨some 26,some (17,true),.e (.call 12 [(.t 23),(.t 25)]),[]⟩,⟨some 27,some (17,true),.q (.eqs false [(0,0),(1,0),(2,2)] (.t 22) (.t 26)),[]⟩,oq 28 (.pick (.t 17) (.t 27) (.v (.bool false))),oq 4 (.mv (.t 28))]) .ret)))
@[go_sem] def c3_7_wp:=wp_of c3_7.eq_1
def c3:AFn:=⟨29,[.t 4],c3_7⟩
theorem c3_ok:compF Tryz.prog Tryz.f3=some c3:=by kernel_rfl
theorem a3 {args:List AV} {σ:ASt} {R:AV->ASt->Prop} (hl:args.length<=29) (h:c3_7.wp Tryz.prog (RetQ [.t 4] R) (init args) σ):ACalls Tryz.prog 3 args σ R:=acalls_of Tryz.func3 c3_ok hl h
/-! 13: tabular/tabularlaw16.Told -/
def c13_12:ACode := .seq (.ops [ oq 11 (.bin .lss (.t 10) (.t 9))]) (.seq (.cond (.t 11) .skip (.exit 0)) (.seq (.block 1 (.seq (.ops [ oq 12 (.ia 4 (.t 8) (.t 10)),oq 13 (.ld (some 4) (.t 12)),oe 5 (.alloc [(.int .i64 0),(.int .i64 0),(.bool false),(.sl .full [])]),oz (.store 4 (.t 5) (.t 13))]) (.ops [ oq 14 (.mv (.t 3)),oq 15 (.ld (some 4) (.t 5)),oe 16 (.call 43 [(.t 15)]),oe 17 (.call 9 [(.t 16)]),oq 18 (.bsl 3 [(.t 17)]),oe 19 (.app 28 3 32 [(.int .i64 0),(.int .i64 0),(.str [])] (.t 14) (.t 18)),oq 3 (.mv (.t 19))]))) (.ops [ oq 20 (.bin .add (.t 10) (.v (.int .i64 1))),oq 10 (.mv (.t 20))])))
def c13_17:ACode := .seq (.ops [ oq 21 (.mv (.t 3)),oq 2 (.mv (.t 21))]) .ret
def c13_20:ACode := .seq (.ops [ oq 2 (.mv (.v (.sl .full [])))]) (.seq (.ops [ oq 6 (.bsl 3 []),oq 3 (.mv (.t 6))]) (.seq (.seq (.ops [ oq 7 (.mv (.t 0)),oe 8 (.call 11 [(.t 7)]),oq 9 (.len (.t 8)),oq 10 (.mv (.v (.int .i64 0)))]) (.block 0 (.loop c13_12))) c13_17))
@[go_sem] def c13_12_wp:=wp_of c13_12.eq_1
@[go_sem] def c13_17_wp:=wp_of c13_17.eq_1
@[go_sem] def c13_20_wp:=wp_of c13_20.eq_1
def c13:AFn:=⟨22,[.t 2],c13_20⟩
theorem c13_ok:compF Tryz.prog Tryz.f13=some c13:=by kernel_rfl
theorem a13 {args:List AV} {σ:ASt} {R:AV->ASt->Prop} (hl:args.length<=22) (h:c13_20.wp Tryz.prog (RetQ [.t 2] R) (init args) σ):ACalls Tryz.prog 13 args σ R:=acalls_of Tryz.func13 c13_ok hl h
end Go.A
namespace Go.A
open Go.Proofs Go.Lib
theorem fixed_allS {a:Int} (p:Int) (ha:a.natAbs<=999999999999999999):∃ (s:List UInt8) (b:Bool),Pure Tryz.prog 27 [.int .i64 a,.int .i64 p] (.tuple [.str s,.bool b])/\∀ σ:ASt,Tab σ->Tens σ->ACalls Tryz.prog 81 [.int .i64 a,.int .i64 p] σ (fun v σ'=>v = .tuple [.str s,.bool b]/\σ'=σ):=by
 by_cases hp:p<0\/4<p
 ·exact ⟨[],false,rfixed_no hp,fun σ _ _=>fixed_no hp σ⟩
 ·have h2:Pure Tryz.prog 67 [.int .i64 a,.int .i64 p] (resAV (roundP a (10 ^ (4-p).toNat))):=by
   by_cases h4:p=4
   ·subst h4
    rw [show 10 ^ ((4:Int)-4).toNat=1 by decide,roundP_one ha]
    exact rround_hi (by omega)
   ·exact rround_ok ha (by omega) (by omega)
  have f1:=fun (σ:ASt) (h:Tab σ) (hT:Tens σ)=>fixed_ok h (show 0<=p by omega) (show p<=4 by omega) (round_ok4 hT ha (show 0<=p by omega) (by omega)) fun r hr=>roundP_le hr
  have f2:=rfixed_ok (show 0<=p by omega) (show p<=4 by omega) h2 fun r hr=>roundP_le hr
  cases ho:roundP a (10 ^ (4-p).toNat) with
  | none=>
    rw [ho] at f2
    simp only [ho] at f1
    exact ⟨_,_,f2,f1⟩
  | some r=>
    rw [ho] at f2
    simp only [ho] at f1
    exact ⟨_,_,f2,f1⟩
theorem xcall_no {σ:ASt} (s:List UInt8) (LA:List AV) (h:(limX s).2=0):ACalls Tryz.prog 10 [.str s,.sl .shr LA] σ fun v σ'=>v=(PV.fail 6).av/\σ'=σ:=by
 have hL:=xlimits_ok s
 generalize (limX s).1=least at *
 generalize (limX s).2=most at *
 simp only [PV.av]
 refine a10 (by simp) ?_
 simp (disch:=first|assumption|omega|(simp only [List.length_append,List.length_cons,List.length_nil];omega)) only [go_sem]
 refine hL.use ?_
 simp (disch:=first|assumption|omega|(simp only [List.length_append,List.length_cons,List.length_nil];omega)) only [go_sem,h]
 exact retC_by (.refl _) (.refl _) ⟨rfl,rfl⟩
theorem xcall_wrong {σ:ASt} (s:List UInt8) (LA:List AV) (h0:(limX s).2≠0) (h:(LA.length:Int)<(limX s).1\/(limX s).2<LA.length):ACalls Tryz.prog 10 [.str s,.sl .shr LA] σ fun v σ'=>v=(PV.fail 3).av/\σ'=σ:=by
 have hL:=xlimits_ok s
 generalize (limX s).1=least at *
 generalize (limX s).2=most at *
 simp only [PV.av]
 refine a10 (by simp) ?_
 by_cases g1:(LA.length:Int)<least
 ·simp (disch:=first|assumption|omega|(simp only [List.length_append,List.length_cons,List.length_nil];omega)) only [go_sem]
  refine hL.use ?_
  simp (disch:=first|assumption|omega|(simp only [List.length_append,List.length_cons,List.length_nil];omega)) only [go_sem,h0,g1]
  exact retC_by (.refl _) (.refl _) ⟨rfl,rfl⟩
 ·have g2:most<(LA.length:Int):=h.resolve_left g1
  simp (disch:=first|assumption|omega|(simp only [List.length_append,List.length_cons,List.length_nil];omega)) only [go_sem]
  refine hL.use ?_
  simp (disch:=first|assumption|omega|(simp only [List.length_append,List.length_cons,List.length_nil];omega)) only [go_sem,h0,g1,g2]
  exact retC_by (.refl _) (.refl _) ⟨rfl,rfl⟩
theorem rcall_no {σ:ASt} (s:List UInt8) (LA:List AV) (h:(limX s).2=0):ACalls Tryz.prog 12 [.str s,.sl .shr LA] σ fun v σ'=>v=tellAV (.fail 6)/\σ'=σ:=by
 have hL:=r17limits_ok s
 have hF:=rFail_ok 6 (by omega) (by omega)
 generalize (limX s).1=least at *
 generalize (limX s).2=most at *
 simp only [tellAV] at hF ⊢
 refine a12 (by simp) ?_
 simp (disch:=first|assumption|omega|(simp only [List.length_append,List.length_cons,List.length_nil];omega)) only [go_sem]
 refine allocC_by fun c hc=>?_
 simp (disch:=first|assumption|omega|(simp only [List.length_append,List.length_cons,List.length_nil];omega)) only [go_sem]
 refine hL.use ?_
 simp (disch:=first|assumption|omega|(simp only [List.length_append,List.length_cons,List.length_nil];omega)) only [go_sem,h]
 refine hF.use ?_
 simp (disch:=first|assumption|omega|(simp only [List.length_append,List.length_cons,List.length_nil];omega)) only [go_sem,ASt.set_set]
 exact retC_by (by repeat' (first|exact Drop.refl _|with_reducible refine Drop.off ?_ (by assumption))) (.refl _) ⟨rfl,rfl⟩
theorem rcall_wrong {σ:ASt} (s:List UInt8) (LA:List AV) (h0:(limX s).2≠0) (h:(LA.length:Int)<(limX s).1\/(limX s).2<LA.length):ACalls Tryz.prog 12 [.str s,.sl .shr LA] σ fun v σ'=>v=tellAV (.fail 3)/\σ'=σ:=by
 have hL:=r17limits_ok s
 have hF:=rFail_ok 3 (by omega) (by omega)
 generalize (limX s).1=least at *
 generalize (limX s).2=most at *
 simp only [tellAV] at hF ⊢
 refine a12 (by simp) ?_
 by_cases g1:(LA.length:Int)<least
 ·simp (disch:=first|assumption|omega|(simp only [List.length_append,List.length_cons,List.length_nil];omega)) only [go_sem]
  refine allocC_by fun c hc=>?_
  simp (disch:=first|assumption|omega|(simp only [List.length_append,List.length_cons,List.length_nil];omega)) only [go_sem]
  refine hL.use ?_
  simp (disch:=first|assumption|omega|(simp only [List.length_append,List.length_cons,List.length_nil];omega)) only [go_sem,h0,g1]
  refine hF.use ?_
  simp (disch:=first|assumption|omega|(simp only [List.length_append,List.length_cons,List.length_nil];omega)) only [go_sem,ASt.set_set]
  exact retC_by (by repeat' (first|exact Drop.refl _|with_reducible refine Drop.off ?_ (by assumption))) (.refl _) ⟨rfl,rfl⟩
 ·have g2:most<(LA.length:Int):=h.resolve_left g1
  simp (disch:=first|assumption|omega|(simp only [List.length_append,List.length_cons,List.length_nil];omega)) only [go_sem]
  refine allocC_by fun c hc=>?_
  simp (disch:=first|assumption|omega|(simp only [List.length_append,List.length_cons,List.length_nil];omega)) only [go_sem]
  refine hL.use ?_
  simp (disch:=first|assumption|omega|(simp only [List.length_append,List.length_cons,List.length_nil];omega)) only [go_sem,h0,g1,g2]
  refine hF.use ?_
  simp (disch:=first|assumption|omega|(simp only [List.length_append,List.length_cons,List.length_nil];omega)) only [go_sem,ASt.set_set]
  exact retC_by (by repeat' (first|exact Drop.refl _|with_reducible refine Drop.off ?_ (by assumption))) (.refl _) ⟨rfl,rfl⟩
set_option maxHeartbeats 1000000 in
theorem calls17 {σ:ASt} (hT:Tab σ) (hTe:Tens σ) (hM:MaxL σ) (s:List UInt8) (L:List PV) (hL:okA L) :
  ∃ R:PV,ACalls Tryz.prog 10 [.str s,.sl .shr (L.map argAV)] σ (fun v σ'=>v=R.av/\σ'=σ)/\ACalls Tryz.prog 12 [.str s,.sl .shr (L.map tellAV)] σ (fun v σ'=>v=tellAV R/\σ'=σ):=by
 have l1:(L.map argAV).length=L.length:=List.length_map _
 have l2:(L.map tellAV).length=L.length:=List.length_map _
 by_cases h0:(limX s).2=0
 ·exact ⟨.fail 6,xcall_no s _ h0,rcall_no s _ h0⟩
 by_cases h1:(L.length:Int)<(limX s).1\/(limX s).2<L.length
 ·exact ⟨.fail 3,xcall_wrong s _ h0 (by rw [l1];exact h1),rcall_wrong s _ h0 (by rw [l2];exact h1)⟩
 have hm:s∈nmX:=Classical.byContradiction fun h=>h0 (by rw [limX_no fun j _ hj=>h (List.mem_of_getElem? hj)])
 simp only [nmX,List.mem_cons,List.not_mem_nil,or_false] at hm
 rcases hm with rfl|rfl|rfl|rfl|rfl|rfl|rfl|rfl|rfl|rfl|rfl|rfl|rfl|rfl|rfl|rfl|rfl|rfl|rfl|rfl|rfl
 ·rw [show limX nLEN=(1,1) by decide] at h0 h1
  dsimp only at h0 h1
  exact ⟨_,xcall_of hT nLEN L (cntP (intP (pcs (txtA L 0).1).length)) (seen 0 (txtA L 0).2) (by decide) (by rw [show (limX nLEN).1=1 by decide];omega) (by rw [show (limX nLEN).2=1 by decide];omega) (fun b τ hT hb hk=>pk_LEN hT (maxl_keep hM hk) hL (by omega) hb),rk_LEN hL (by omega) (by omega)⟩
 ·rw [show limX nUPPER=(1,1) by decide] at h0 h1
  dsimp only at h0 h1
  exact ⟨_,xcall_of hT nUPPER L (PV.text (greatP (txtA L 0).1)) (seen 0 (txtA L 0).2) (by decide) (by rw [show (limX nUPPER).1=1 by decide];omega) (by rw [show (limX nUPPER).2=1 by decide];omega) (fun b τ hT hb hk=>pk_UPPER hT (maxl_keep hM hk) hL (by omega) hb),rk_UPPER hL (by omega) (by omega)⟩
 ·rw [show limX nLOWER=(1,1) by decide] at h0 h1
  dsimp only at h0 h1
  exact ⟨_,xcall_of hT nLOWER L (PV.text (smallP (txtA L 0).1)) (seen 0 (txtA L 0).2) (by decide) (by rw [show (limX nLOWER).1=1 by decide];omega) (by rw [show (limX nLOWER).2=1 by decide];omega) (fun b τ hT hb hk=>pk_LOWER hT (maxl_keep hM hk) hL (by omega) hb),rk_LOWER hL (by omega) (by omega)⟩
 ·rw [show limX nPROPER=(1,1) by decide] at h0 h1
  dsimp only at h0 h1
  exact ⟨_,xcall_of hT nPROPER L (PV.text (propP (txtA L 0).1)) (seen 0 (txtA L 0).2) (by decide) (by rw [show (limX nPROPER).1=1 by decide];omega) (by rw [show (limX nPROPER).2=1 by decide];omega) (fun b τ hT hb hk=>pk_PROPER hT (maxl_keep hM hk) hL (by omega) hb),rk_PROPER hL (by omega) (by omega)⟩
 ·rw [show limX nTRIM=(1,1) by decide] at h0 h1
  dsimp only at h0 h1
  exact ⟨_,xcall_of hT nTRIM L (PV.text (trimT (txtA L 0).1)) (seen 0 (txtA L 0).2) (by decide) (by rw [show (limX nTRIM).1=1 by decide];omega) (by rw [show (limX nTRIM).2=1 by decide];omega) (fun b τ hT hb hk=>pk_TRIM hT (maxl_keep hM hk) hL (by omega) hb),rk_TRIM hL (by omega) (by omega)⟩
 ·rw [show limX nVALUE=(1,1) by decide] at h0 h1
  dsimp only at h0 h1
  exact ⟨_,xcall_of hT nVALUE L (valV (txtA L 0).1) (seen 0 (txtA L 0).2) (by decide) (by rw [show (limX nVALUE).1=1 by decide];omega) (by rw [show (limX nVALUE).2=1 by decide];omega) (fun b τ hT hb hk=>pk_VALUE hT (maxl_keep hM hk) hL (by omega) hb),rk_VALUE hL (by omega) (by omega)⟩
 ·rw [show limX nCHAR=(1,1) by decide] at h0 h1
  dsimp only at h0 h1
  exact ⟨_,xcall_of hT nCHAR L (signV (numA L 0 0).1) (seen 0 (numA L 0 0).2) (by decide) (by rw [show (limX nCHAR).1=1 by decide];omega) (by rw [show (limX nCHAR).2=1 by decide];omega) (fun b τ hT hb hk=>pk_CHAR hT (maxl_keep hM hk) hL (by omega) hb),rk_CHAR hL (by omega) (by omega)⟩
 ·rw [show limX nCODE=(1,1) by decide] at h0 h1
  dsimp only at h0 h1
  exact ⟨_,xcall_of hT nCODE L (codeV (txtA L 0).1) (seen 0 (txtA L 0).2) (by decide) (by rw [show (limX nCODE).1=1 by decide];omega) (by rw [show (limX nCODE).2=1 by decide];omega) (fun b τ hT hb hk=>pk_CODE hT (maxl_keep hM hk) hL (by omega) hb),rk_CODE hL (by omega) (by omega)⟩
 ·rw [show limX nT=(1,1) by decide] at h0 h1
  dsimp only at h0 h1
  have h:=xcall_of hT nT L (tV L) 0 (by decide) (by rw [show (limX nT).1=1 by decide];omega) (by rw [show (limX nT).2=1 by decide];omega) (fun b τ hT hb hk=>pk_T (by omega) hb)
  rw [if_pos rfl] at h
  exact ⟨_,h,rk_T (by omega) (by omega)⟩
 ·rw [show limX nREVERSE=(1,1) by decide] at h0 h1
  dsimp only at h0 h1
  exact ⟨_,xcall_of hT nREVERSE L (PV.text (revP (txtA L 0).1)) (seen 0 (txtA L 0).2) (by decide) (by rw [show (limX nREVERSE).1=1 by decide];omega) (by rw [show (limX nREVERSE).2=1 by decide];omega) (fun b τ hT hb hk=>pk_REVERSE hT (maxl_keep hM hk) hL (by omega) hb),rk_REVERSE hL (by omega) (by omega)⟩
 ·rw [show limX nLEFT=(1,2) by decide] at h0 h1
  dsimp only at h0 h1
  exact ⟨_,xcall_of hT nLEFT L (sidesP nLEFT (txtA L 0).1 (numA L 1 1).1) (seen (seen 0 (txtA L 0).2) (numA L 1 1).2) (by decide) (by rw [show (limX nLEFT).1=1 by decide];omega) (by rw [show (limX nLEFT).2=2 by decide];omega) (fun b τ hT hb hk=>pk_LEFT hT (maxl_keep hM hk) hL (by omega) hb),rk_LEFT hL (by omega) (by omega)⟩
 ·rw [show limX nRIGHT=(1,2) by decide] at h0 h1
  dsimp only at h0 h1
  exact ⟨_,xcall_of hT nRIGHT L (sidesP nRIGHT (txtA L 0).1 (numA L 1 1).1) (seen (seen 0 (txtA L 0).2) (numA L 1 1).2) (by decide) (by rw [show (limX nRIGHT).1=1 by decide];omega) (by rw [show (limX nRIGHT).2=2 by decide];omega) (fun b τ hT hb hk=>pk_RIGHT hT (maxl_keep hM hk) hL (by omega) hb),rk_RIGHT hL (by omega) (by omega)⟩
 ·rw [show limX nFIXED=(1,2) by decide] at h0 h1
  dsimp only at h0 h1
  have hfr:(frstA L).1.natAbs<=999999999999999999:=by
   unfold frstA
   split
   ·rename_i v hv
    exact asNum_rng v (hL v (List.mem_of_getElem? hv)).1
   ·decide
  obtain ⟨t,ok,f2,f1⟩:=fixed_allS (numA L 1 2).1 hfr
  exact ⟨_,xcall_of hT nFIXED L (fixV t ok) (seen (frstA L).2 (numA L 1 2).2) (by decide) (by rw [show (limX nFIXED).1=1 by decide];omega) (by rw [show (limX nFIXED).2=2 by decide];omega) (fun b τ hT hb hk=>pk_FIXED hL (by omega) hb (f1 _ (tab_set hT hb _) (tens_set (hk _ _ hTe) hb _))),rk_FIXED hL (by omega) (by omega) f2⟩
 ·rw [show limX nREPT=(2,2) by decide] at h0 h1
  dsimp only at h0 h1
  exact ⟨_,xcall_of hT nREPT L (reptV (txtA L 0).1 (numA L 1 1).1) (seen (seen 0 (txtA L 0).2) (numA L 1 1).2) (by decide) (by rw [show (limX nREPT).1=2 by decide];omega) (by rw [show (limX nREPT).2=2 by decide];omega) (fun b τ hT hb hk=>pk_REPT hT (maxl_keep hM hk) hL (by omega) hb),rk_REPT hL (by omega) (by omega)⟩
 ·rw [show limX nEXACT=(2,2) by decide] at h0 h1
  dsimp only at h0 h1
  exact ⟨_,xcall_of hT nEXACT L (PV.bool (decide ((txtA L 0).1=(txtA L 1).1))) (seen (seen 0 (txtA L 0).2) (txtA L 1).2) (by decide) (by rw [show (limX nEXACT).1=2 by decide];omega) (by rw [show (limX nEXACT).2=2 by decide];omega) (fun b τ hT hb hk=>pk_EXACT hT (maxl_keep hM hk) hL (by omega) hb),rk_EXACT hL (by omega) (by omega)⟩
 ·rw [show limX nFIND=(2,3) by decide] at h0 h1
  dsimp only at h0 h1
  exact ⟨_,xcall_of hT nFIND L (findP (txtA L 0).1 (txtA L 1).1 (numA L 2 1).1) (seen (seen (seen 0 (txtA L 0).2) (txtA L 1).2) (numA L 2 1).2) (by decide) (by rw [show (limX nFIND).1=2 by decide];omega) (by rw [show (limX nFIND).2=3 by decide];omega) (fun b τ hT hb hk=>pk_FIND hT (maxl_keep hM hk) hL (by omega) hb),rk_FIND hL (by omega) (by omega)⟩
 ·rw [show limX nSEARCH=(2,3) by decide] at h0 h1
  dsimp only at h0 h1
  exact ⟨_,xcall_of hT nSEARCH L (findP (greatP (txtA L 0).1) (greatP (txtA L 1).1) (numA L 2 1).1) (seen (seen (seen 0 (txtA L 0).2) (txtA L 1).2) (numA L 2 1).2) (by decide) (by rw [show (limX nSEARCH).1=2 by decide];omega) (by rw [show (limX nSEARCH).2=3 by decide];omega) (fun b τ hT hb hk=>pk_SEARCH hT (maxl_keep hM hk) hL (by omega) hb),rk_SEARCH hL (by omega) (by omega)⟩
 ·rw [show limX nMID=(3,3) by decide] at h0 h1
  dsimp only at h0 h1
  exact ⟨_,xcall_of hT nMID L (midP (txtA L 0).1 (numA L 1 1).1 (numA L 2 1).1) (seen (seen (seen 0 (txtA L 0).2) (numA L 1 1).2) (numA L 2 1).2) (by decide) (by rw [show (limX nMID).1=3 by decide];omega) (by rw [show (limX nMID).2=3 by decide];omega) (fun b τ hT hb hk=>pk_MID hT (maxl_keep hM hk) hL (by omega) hb),rk_MID hL (by omega) (by omega)⟩
 ·rw [show limX nSUBSTITUTE=(3,4) by decide] at h0 h1
  dsimp only at h0 h1
  exact ⟨_,xcall_of hT nSUBSTITUTE L (substL L) (seen (seen (seen (seen 0 (txtA L 0).2) (txtA L 1).2) (txtA L 2).2) (numA L 3 0).2) (by decide) (by rw [show (limX nSUBSTITUTE).1=3 by decide];omega) (by rw [show (limX nSUBSTITUTE).2=4 by decide];omega) (fun b τ hT hb hk=>pk_SUBSTITUTE hT (maxl_keep hM hk) hL (by omega) hb),rk_SUBSTITUTE hL (by omega) (by omega)⟩
 ·rw [show limX nREPLACE=(4,4) by decide] at h0 h1
  dsimp only at h0 h1
  exact ⟨_,xcall_of hT nREPLACE L (replP (txtA L 0).1 (numA L 1 1).1 (numA L 2 1).1 (txtA L 3).1) (seen (seen (seen (seen 0 (txtA L 0).2) (numA L 1 1).2) (numA L 2 1).2) (txtA L 3).2) (by decide) (by rw [show (limX nREPLACE).1=4 by decide];omega) (by rw [show (limX nREPLACE).2=4 by decide];omega) (fun b τ hT hb hk=>pk_REPLACE hT (maxl_keep hM hk) hL (by omega) hb),rk_REPLACE hL (by omega) (by omega)⟩
 ·rw [show limX nCONCAT=(1,30) by decide] at h0 h1
  dsimp only at h0 h1
  exact ⟨_,xcall_of hT nCONCAT L (PV.text (catP L)) (catF L) (by decide) (by rw [show (limX nCONCAT).1=1 by decide];omega) (by rw [show (limX nCONCAT).2=30 by decide];omega) (fun b τ hT hb hk=>pk_CONCAT hT hL (by omega) hb),rk_CONCAT hL (by omega) (by omega)⟩
theorem xtold_ok (v:PV):Pure Tryz.prog 9 [v.av] (tellAV v):=by
 intro σ
 have hT:=tell_ok v
 have hk:∃ x y z,tellAV v = .agg [.int .i64 x,.int .i64 y,.str z]:=by cases v<;>exact ⟨_,_,_,rfl⟩
 obtain ⟨x,y,z,ht⟩:=hk
 rw [ht] at hT ⊢
 generalize v.av=a at *
 refine a9 (by simp) ?_
 simp (disch:=first|assumption|omega|(simp only [List.length_append,List.length_cons,List.length_nil];omega)) only [go_sem]
 refine allocC_by fun b hb=>?_
 simp (disch:=first|assumption|omega|(simp only [List.length_append,List.length_cons,List.length_nil];omega)) only [go_sem]
 refine hT.use ?_
 simp (disch:=first|assumption|omega|(simp only [List.length_append,List.length_cons,List.length_nil];omega)) only [go_sem]
 refine allocC_by fun c hc=>?_
 repeat (with_reducible replace hc:=set_none hc;obtain ⟨_,_,hc⟩:=hc)
 simp (disch:=first|assumption|omega|(simp only [List.length_append,List.length_cons,List.length_nil];omega)) only [go_sem,ASt.set_set]
 exact retC_by (by repeat' (first|exact Drop.refl _|with_reducible refine Drop.off ?_ (by assumption))) (.refl _) ⟨rfl,rfl⟩
set_option maxHeartbeats 1000000 in
theorem told17_ok {σ:ASt} (h:U8 σ) (L:List Pl) (hn:L.length<=100000):ACalls Tryz.prog 13 [.sl .shr (L.map plAV)] σ fun v σ'=>v = .sl .shr ((argsP L).map tellAV)/\σ'=σ:=by
 have hAr:=args_ok h L hn
 have hlen:(argsP L).length<=100000:=by simp [argsP];omega
 generalize argsP L=P at *
 refine a13 (by simp) ?_
 obtain ⟨F,hF⟩:∃ F,F=ACode.wp Tryz.prog c13_17:=⟨_,rfl⟩
 simp (disch:=first|assumption|omega|(simp only [List.length_append,List.length_cons,List.length_nil];omega)) only [go_sem,←hF]
 refine hAr.mono ?_
 rintro v σ' ⟨rfl,rfl⟩
 simp (disch:=first|assumption|omega|(simp only [List.length_append,List.length_cons,List.length_nil];omega)) only [go_sem,←hF]
 refine wp_loop_by (fun (i:Nat) a s2=>i<=P.length/\(a 8 = .sl .shr (P.map argAV)/\a 9 = .int .i64 P.length/\a 10 = .int .i64 i)/\∃ k,a 3 = .sl k ((P.take i).map tellAV)/\Grown σ' s2 k ((P.take i).map tellAV).length 3)
  (fun i=>P.length-i) 0 (Dr.now ⟨Nat.zero_le _,?_,.full,?_,.inl ⟨rfl,by simp,rfl⟩⟩) ?_
 ·simp (disch:=first|assumption|omega|(simp only [List.length_append,List.length_cons,List.length_nil];omega)) only [go_sem]
 ·simp (disch:=first|assumption|omega|(simp only [List.length_append,List.length_cons,List.length_nil];omega)) only [go_sem]
 rintro i a σ1 ⟨hi,hf,k,h3,hg⟩
 by_cases hlt:i<P.length
 ·have hlt':(i:Int)<P.length:=by omega
  have hx : P[i]? = some (P[i]'hlt) := List.getElem?_eq_getElem hlt
  obtain ⟨p, hp⟩ : ∃ p, P[i]'hlt = p := ⟨_, rfl⟩
  have hap:(P.take i).map tellAV ++ [tellAV p]=(P.take (i+1)).map tellAV:=by
   rw [List.take_succ_eq_append_getElem hlt,hp];simp
  rw [hp] at hx
  have hmx:=arg_get hx
  have hVa:=argval_ok p
  have hTo:=xtold_ok p
  obtain ⟨y1,y2,y3,hy⟩:=tell_agg p
  rw [hy] at hTo hap
  unfold argAV at hmx hVa
  obtain ⟨x,hxe⟩:∃ x,p.av=x:=⟨_,rfl⟩
  rw [hxe] at hmx hVa hTo
  have hl2:((P.take i).map tellAV).length<=100000:=by rw [List.length_map,List.length_take];omega
  generalize (P.take i).map tellAV=A at *
  unfold argAV at hf
  simp (disch:=first|assumption|omega|(simp only [List.length_append,List.length_cons,List.length_nil];omega)) only [go_sem,hf,h3,hlt',hmx,←hF]
  refine allocC_by fun c hc=>?_
  obtain ⟨hga,hc0⟩:=hg.upon hc (q := .obj [.int .i64 1,.int .i64 1,.bool false,.sl .full [x]])
  simp (disch:=first|assumption|omega|(simp only [List.length_append,List.length_cons,List.length_nil];omega)) only [go_sem,hf,h3,←hF]
  refine hVa.use ?_
  simp (disch:=first|assumption|omega|(simp only [List.length_append,List.length_cons,List.length_nil];omega)) only [go_sem,hf,h3,←hF]
  refine hTo.use ?_
  simp (disch:=first|assumption|omega|(simp only [List.length_append,List.length_cons,List.length_nil];omega)) only [go_sem,hf,h3,←hF]
  refine appC_by (bytes:=32) (ys := [.agg [.int .i64 y1,.int .i64 y2,.str y3]]) hga rfl rfl (by simp only [List.length_cons,List.length_nil];omega) (by simp only [List.length_cons,List.length_nil];omega) fun k' s3 hg'=>?_
  rw [hap] at hg' ⊢
  obtain ⟨s4,hd,hg2⟩:=hg'.off hc0
  simp (disch:=first|assumption|omega|(simp only [List.length_append,List.length_cons,List.length_nil];omega)) only [go_sem,hf,←hF]
  refine ⟨i+1,by dsimp only;omega,Dr.drop hd ⟨by omega,?_,k',?_,by simpa using hg2⟩⟩
  ·unfold argAV
   simp (disch:=first|assumption|omega|(simp only [List.length_append,List.length_cons,List.length_nil];omega)) only [go_sem,hf]
  ·rfl
 ·have hlt':¬ (i:Int)<P.length:=by omega
  have e:P.take i=P:=List.take_of_length_le (by omega)
  rw [e] at h3 hg
  simp (disch:=first|assumption|omega|(simp only [List.length_append,List.length_cons,List.length_nil];omega)) only [go_sem,hf,h3,hlt',←hF]
  rw [hF]
  simp (disch:=first|assumption|omega|(simp only [List.length_append,List.length_cons,List.length_nil];omega)) only [go_sem,h3]
  exact retC_by hg.drop (.sl _ _) ⟨rfl,rfl⟩
set_option maxHeartbeats 1000000 in
theorem TextsCalls_any {σ:ASt} (hT:Tab σ) (hU:U8 σ) (hTe:Tens σ) (hM:MaxL σ) (s0:List UInt8) (L0:List Pl) (hL0:L0.length<=9223372036854775807) :
  ACalls Tryz.prog 3 [.str s0,.sl .shr (L0.map plAV)] σ fun v σ'=>v = .bool true/\σ'=σ:=by
 have hC:=lcut_ok s0 12
 rw [show (((12:Nat)):Int)=12 from rfl] at hC
 have hF:=few_ok L0 32 hL0
 rw [show (((32:Nat)):Int)=32 from rfl] at hF
 have hLl:(L0.take 32).length<=32:=by rw [List.length_take];omega
 generalize L0.take 32=L at *
 generalize s0.take 12=s at *
 have hAw:=xawake_ok hT hU
 have hH1:=xhas_ok s
 have hH2:=r17has_ok s
 have hAr:=args_ok hU L (by omega)
 have hTo:=told17_ok hU L (by omega)
 obtain ⟨R,hR1,hR2⟩:=calls17 hT hTe hM s (argsP L) (argsP_ok L)
 have hTl:=xtold_ok R
 obtain ⟨y1,y2,y3,hy⟩:=tell_agg R
 rw [hy] at hTl hR2
 generalize argsP L=P at *
 generalize R.av=r at *
 generalize decide (0<(limX s).2)=b at *
 refine a3 (by simp) ?_
 simp (disch:=first|assumption|omega|(simp only [List.length_append,List.length_cons,List.length_nil];omega)) only [go_sem]
 refine hC.use ?_
 simp (disch:=first|assumption|omega|(simp only [List.length_append,List.length_cons,List.length_nil];omega)) only [go_sem]
 refine hF.use ?_
 simp (disch:=first|assumption|omega|(simp only [List.length_append,List.length_cons,List.length_nil];omega)) only [go_sem]
 refine hAw.mono ?_
 rintro v σ' ⟨rfl,rfl⟩
 simp (disch:=first|assumption|omega|(simp only [List.length_append,List.length_cons,List.length_nil];omega)) only [go_sem]
 refine hH1.use ?_
 simp (disch:=first|assumption|omega|(simp only [List.length_append,List.length_cons,List.length_nil];omega)) only [go_sem]
 refine hH2.use ?_
 simp (disch:=first|assumption|omega|(simp only [List.length_append,List.length_cons,List.length_nil];omega)) only [go_sem]
 refine ACalls.shr (by simp (disch:=first|assumption|omega|(simp only [List.length_append,List.length_cons,List.length_nil];omega)) only [go_sem]) (hAr.mono ?_)
 rintro v σ2 ⟨rfl,rfl⟩
 simp (disch:=first|assumption|omega|(simp only [List.length_append,List.length_cons,List.length_nil];omega)) only [go_sem]
 refine hR1.mono ?_
 rintro v σ3 ⟨rfl,rfl⟩
 simp (disch:=first|assumption|omega|(simp only [List.length_append,List.length_cons,List.length_nil];omega)) only [go_sem]
 refine hTl.use ?_
 simp (disch:=first|assumption|omega|(simp only [List.length_append,List.length_cons,List.length_nil];omega)) only [go_sem]
 refine ACalls.shr (by simp (disch:=first|assumption|omega|(simp only [List.length_append,List.length_cons,List.length_nil];omega)) only [go_sem]) (hTo.mono ?_)
 rintro v σ4 ⟨rfl,rfl⟩
 simp (disch:=first|assumption|omega|(simp only [List.length_append,List.length_cons,List.length_nil];omega)) only [go_sem]
 refine hR2.mono ?_
 rintro v σ5 ⟨rfl,rfl⟩
 simp (disch:=first|assumption|omega|(simp only [List.length_append,List.length_cons,List.length_nil];omega)) only [go_sem]
 exact retC_by (by repeat' (first|exact Drop.refl _|with_reducible refine Drop.off ?_ (by assumption))) (.refl _) ⟨rfl,rfl⟩
end Go.A
namespace Go.Proofs.YtoodoaekmeeheaaGreatDoor
open Go Go.ChangeShapes Go.WideShapes Go.ChangeAt Go.RowKit Go.A Go.Lib Go.Shelf
theorem row_own:ownKnob Tryz.prog.godebug=none:=by kernel_rfl
theorem row_laid:laidOutB Tryz.prog=true:=by kernel_rfl
theorem first_eq:Rows.laid_unicode_utf8_first=firstData:=by kernel_rfl
theorem acc_eq:(Rows.laid_unicode_utf8_acceptRanges:DataW Unit)=acceptData:=by kernel_rfl
theorem u8_extra:U8Extra Tryz.prog Tryz.lays260_ren:=⟨by kernel_rfl,by kernel_rfl,by kernel_rfl,by kernel_rfl,by kernel_rfl,by kernel_rfl,by kernel_rfl⟩
theorem var_size {P:Program} {w:World} {n:String} {d:DataW Unit} (h:VarReads P w n d) {g:Nat} (hg:P.globalNamed n=some g) {t e:TypeId} {k:Nat} (hty:(P.globals[g]?).map (·.type)=some t) (ht:P.underlying t=some (.array k e)) :
  ∃ cs T fr,w.heap[g]? = some (.cells cs T fr)/\cs.size=P.cellsOf t:=by
 obtain ⟨g',t',cs,fuel,p,hg',hty',hvar,hd⟩:=h
 obtain rfl:=Option.some.inj (hg.symm.trans hg')
 obtain rfl:=Option.some.inj (hty.symm.trans hty')
 have hlen:cs.toList.length=P.cellsOf t:=by
  cases fuel with
  | zero=>simp [DataW.trod] at hd
  | succ fuel=>
    simp only [DataW.trod,ht] at hd
    split at hd
    ·assumption
    ·cases hd
 unfold World.var? at hvar
 rw [hg,Option.bind_some] at hvar
 split at hvar
 ·rename_i cs' T fr hheap
  injection hvar with hvar
  subst hvar
  exact ⟨_,_,_,hheap,by simpa using hlen⟩
 ·cases hvar
theorem ints_reps {σ:ASt} {w:World} {k:IntKind}:∀ zs:List Int,Reps σ w (zs.map (AV.int k)) (zs.map (Value.int k))
 | [] => .nil
 | z::zs => .cons (.int k z) (ints_reps zs)
theorem slice_reads {P:Program} {w:World} {name:String} {g:Nat} {t e:TypeId} {k:IntKind} {l:List Int} (hn:P.globalNamed name=some g) (hy:(P.globals[g]?).map (·.type)=some t)
  (ht:P.underlying t=some (.slice e)) (he:P.underlying e=some (.int k)) (hc:P.cellsOf e=1) (hl:0<l.length) (h:VarReads P w name (.slice (l.map fun x => .lit (.int k x)) [])) :
  ∃ R o cap T fr,w.heap[g]? = some (.cells #[.slice (some ⟨R,o,none⟩) l.length cap] T fr)/\l.length<=cap/\∀ j z,l[j]? = some z->w.cell? ⟨R,o+j,none⟩=some (.int k z):=by
 obtain ⟨g',t',cs,fuel,p,hg,hty,hvar,hd⟩:=h
 obtain rfl:=Option.some.inj (hn.symm.trans hg)
 obtain rfl:=Option.some.inj (hy.symm.trans hty)
 rcases DataW.trod_slice ht hd with ⟨_,hx⟩|⟨a,len,cap,el,rs,m,rfl,hcs,hx,_,hlc,_,hel,helem,hsp,_⟩
 ·cases hx
 have e0:=congrArg Prod.fst hx
 simp only [DataW.slice.injEq] at e0
 obtain ⟨eE,eR⟩:=e0
 have hlen:len=l.length:=by
  have:=congrArg List.length eE
  simp at this
  omega
 have hcell:∀ i z,l[i]? = some z->w.cell? (a.add i)=some (.int k z):=by
  intro i z hiz
  have hi:i<l.length:=(List.getElem?_eq_some_iff.1 hiz).1
  have h1:=helem i (by omega)
  rw [hc] at h1
  obtain ⟨b, hb⟩ : ∃ b, el[i]? = some b := ⟨el[i]'(by omega), List.getElem?_eq_getElem (by omega)⟩
  rw [hb] at h1
  obtain ⟨ce,hce,hte⟩:=Option.bind_eq_some_iff.1 h1
  obtain ⟨z',hz,hbz,_⟩:=DataW.trod_int he hte
  have hb1:b.1 = .lit (.int k z):=by
   have:=congrArg (·[i]?) eE
   simp only [List.getElem?_map,hiz,hb,Option.map_some,Option.some.injEq] at this
   exact this.symm
  rw [hbz] at hb1
  simp only [DataW.lit.injEq,Lit.int.injEq,true_and] at hb1
  obtain ⟨_,_,hcc⟩:=World.cells?_some hce
  have:=hcc 0 (by omega)
  rw [hz] at this
  simp only [Nat.mul_one] at this
  have e1:(a.add i).add 0=a.add i:=by simp [Addr.add]
  rw [e1] at this
  rw [this,← hb1]
  rfl
 obtain ⟨z0,hz0⟩:∃ z,l[0]? = some z:=⟨l[0],List.getElem?_eq_getElem hl⟩
 obtain ⟨R,o,sR⟩:=a
 obtain rfl:sR=none:=by
  have h00:=hcell 0 z0 hz0
  have:(Addr.add ⟨R,o,sR⟩ 0)=⟨R,o,sR⟩:=by simp [Addr.add]
  rw [this] at h00
  exact Go.Proofs.cell_spot h00
 unfold World.var? at hvar
 rw [hn,Option.bind_some] at hvar
 split at hvar
 ·rename_i cs' T fr hheap
  injection hvar with hvar
  subst hvar
  have hcs2:cs' = #[.slice (some ⟨R,o,none⟩) l.length cap]:=by
   rw [<-hlen]
   exact Array.ext' (by simpa using hcs)
  subst hcs2
  exact ⟨R,o,cap,T,fr,hheap,by omega,fun j z hj=>by have:=hcell j z hj;rwa [Addr.add_lit] at this⟩
 ·cases hvar
theorem fix_ok {σ:ASt} {W:World} {b:Nat} {zs:List Int} (hs:σ b=some (.fix (zs.map (AV.int .u8)))) {cs:Array Value} {T:TypeId} {fr:Nat×Nat} (hh:W.heap[b]? = some (.cells cs T fr)) (hsz:cs.size=zs.length)
  (hc:∀ j z,zs[j]? = some z->W.cell? ⟨b,j,none⟩=some (.int .u8 z)):RoleOk σ W b (.fix (zs.map (AV.int .u8))):=by
 have hlt:b<W.heap.size:=(Array.getElem?_eq_some_iff.1 hh).1
 refine ⟨At.mk' (ints_reps _) (fun j _=>⟨hlt,.inr (.inl ⟨_,hs⟩)⟩) (fun j v hj=>?_),cs,T,fr,hh,by simpa using hsz⟩
 rw [List.getElem?_map] at hj
 obtain ⟨z,hz,rfl⟩:=Option.map_eq_some_iff.1 hj
 rw [Nat.zero_add]
 exact hc j z hz
def stOf:List (Nat×List AV)->ASt
 | [],_=>none
 | p::ps,b=>if b=p.1 then some (.fix p.2) else stOf ps b
theorem stOf_fix:∀ {ps:List (Nat×List AV)} {b:Nat} {r:Role},stOf ps b=some r->∃ l,r = .fix l
 | [],_,_,h=>by cases h
 | p::ps,b,r,h=>by
   simp only [stOf] at h
   split at h
   ·injection h with h;exact ⟨_,h.symm⟩
   ·exact stOf_fix h
theorem stOf_mem:∀ {ps:List (Nat×List AV)} {b:Nat} {r:Role},stOf ps b=some r->∃ l,(b,l)∈ps/\r = .fix l
 | [],_,_,h=>by cases h
 | p::ps,b,r,h=>by
   simp only [stOf] at h
   split at h
   ·rename_i hb
    injection h with h
    subst hb
    exact ⟨p.2,List.mem_cons_self,h.symm⟩
   ·obtain ⟨l,hl,he⟩:=stOf_mem h
    exact ⟨l,List.mem_cons_of_mem _ hl,he⟩
theorem still_fix {σ:ASt} (hfx:∀ b r,σ b=some r->∃ l,r = .fix l) {w:World} {b o:Nat} (h:b<w.heap.size):Still σ w b o:=by
 refine ⟨h,?_⟩
 cases hb:σ b with
 | none=>exact .inl rfl
 | some r=>obtain ⟨l,rfl⟩:=hfx b r hb;exact .inr (.inl ⟨_,rfl⟩)
theorem row_of {σ:ASt} {w:World} {b:Nat} {k:IntKind} (hst:∀ o,Still σ w b o):∀ (zs:List Int) (o:Nat),(∀ j z,zs[j]? = some z->w.cell? ⟨b,o+j,none⟩=some (.int k z))->Row σ w b o 1 (zs.map (AV.int k))
 | [],o,_ => .nil _ _ _
 | z::zs,o,h => .cons rfl (.cons (hst o) (h 0 z rfl) (.int k z) (.nil _ _)) (row_of hst zs (o+1) fun j z' hj=>by
   have:=h (j+1) z' (by simpa using hj)
   rwa [show o+(j+1)=o+1+j by omega] at this)
end Go.Proofs.YtoodoaekmeeheaaGreatDoor
namespace Go.A
section
variable {σ:ASt} {w:World}
theorem Still.fixed (hfx:∀ b r,σ b=some r->∃ l,r = .fix l) {b o:Nat} (h:Still noRole w b o):Still σ w b o:=by
 refine ⟨h.1,?_⟩
 cases hb:σ b with
 | none=>exact .inl rfl
 | some r=>obtain ⟨l,rfl⟩:=hfx b r hb;exact .inr (.inl ⟨_,rfl⟩)
theorem Stands.fixed (hfx:∀ b r,σ b=some r->∃ l,r = .fix l) (b:Nat):Stands σ b:=by
 refine ⟨fun cs h=>?_,fun l p h=>?_,fun T cs h=>?_⟩<;>(obtain ⟨l,hl⟩:=hfx b _ h;cases hl)
theorem SK.ok_fixed (hfx:∀ b r,σ b=some r->∃ l,r = .fix l) {k:SK} {b o n c sz:Nat} (h:k.ok noRole w b o n c sz):k.ok σ w b o n c sz:=by
 cases k with
 | shr=>trivial
 | full=>exact h
 | tok t s T=>exact ⟨h.1,h.2.1,h.2.2.1,h.2.2.2.1,Stands.fixed hfx b⟩
mutual
theorem Rep.fixed (hfx:∀ b r,σ b=some r->∃ l,r = .fix l):∀ {a:AV} {v:Value},Rep noRole w a v->Rep σ w a v
 | _,_,.any v => .any v
 | _,_,.bool b => .bool b
 | _,_,.int k n => .int k n
 | _,_,.str l => .str l
 | _,_,.ptr b o => .ptr b o
 | _,_,.imm h1 => .imm (h1.fixed hfx)
 | _,_,.nilp => .nilp
 | _,_,.slE A c => .slE A c
 | _,_,.slN => .slN
 | _,_,.sl h1 h2 h3 h4 h5 => .sl (h1.fixed hfx) h2 h3 (SK.ok_fixed hfx h4) h5
 | _,_,.msl b o n c => .msl b o n c
 | _,_,.agg h1 => .agg (h1.fixed hfx)
 | _,_,.tuple h1 => .tuple (h1.fixed hfx)
 | _,_,.iface h1 => .iface (h1.fixed hfx)
 | _,_,.nili => .nili
 | _,_,.func h1 h2 => .func (h1.fixed hfx) (h2.fixed hfx)
 | _,_,.nilf => .nilf
theorem Reps.fixed (hfx:∀ b r,σ b=some r->∃ l,r = .fix l):∀ {avs:List AV} {vs:List Value},Reps noRole w avs vs->Reps σ w avs vs
 | _,_,.nil => .nil
 | _,_,.cons h1 h2 => .cons (h1.fixed hfx) (h2.fixed hfx)
theorem At.fixed (hfx:∀ b r,σ b=some r->∃ l,r = .fix l):∀ {b o:Nat} {avs:List AV},At noRole w b o avs->At σ w b o avs
 | _,_,_,.nil b o => .nil b o
 | _,_,_,.cons h1 h2 h3 h4 => .cons (h1.fixed hfx) h2 (h3.fixed hfx) (h4.fixed hfx)
theorem Row.fixed (hfx:∀ b r,σ b=some r->∃ l,r = .fix l):∀ {b o sz:Nat} {avs:List AV},Row noRole w b o sz avs->Row σ w b o sz avs
 | _,_,_,_,.nil b o sz => .nil b o sz
 | _,_,_,_,.cons h1 h2 h3 => .cons h1 (h2.fixed hfx) (h3.fixed hfx)
end
end
end Go.A
namespace Go.Proofs.YtoodoaekmeeheaaGreatDoor
open Go Go.ChangeShapes Go.WideShapes Go.ChangeAt Go.RowKit Go.A Go.Lib Go.Shelf
theorem u8_roles {σ : ASt} {W : World} (h3 : VarReads Tryz.prog W "unicode/utf8.first" firstData) (h4 : VarReads Tryz.prog W "unicode/utf8.acceptRanges" acceptData) :
  (σ 1=some (.fix (firstTab.map (AV.int .u8)))->RoleOk σ W 1 (.fix (firstTab.map (AV.int .u8))))/\(σ 2=some (.fix (accTab.map (AV.int .u8)))->RoleOk σ W 2 (.fix (accTab.map (AV.int .u8)))):=by
 have hT:=utf8Tabs_of_reads (ρ:=Tryz.lays260_ren) Tryz.lays260 u8_extra h3 h4
 obtain ⟨hT1,hT2⟩:=hT
 have hT1:∀ c,c<256->W.cell? ⟨1,c,none⟩=some (.int .u8 (firstT c)):=hT1
 have hT2:∀ i,i<16->W.cell? ⟨2,2*i,none⟩=some (.int .u8 (accLo i))/\W.cell? ⟨2,2*i+1,none⟩=some (.int .u8 (accHi i)):=hT2
 constructor
 ·intro hs
  obtain ⟨cs,T,fr,hh,hsz⟩:=var_size h3 (g:=1) (by kernel_rfl) u8_extra.y3 (Tryz.lays260.t119)
  refine fix_ok hs hh (hsz.trans (by kernel_rfl)) fun j z hj=>?_
  have hl:=(List.getElem?_eq_some_iff.1 hj).1
  simp only [firstTab,List.length_map,List.length_range] at hl
  simp only [firstTab,List.getElem?_map,List.getElem?_range hl,Option.map_some,Option.some.injEq] at hj
  subst hj
  exact hT1 j hl
 ·intro hs
  obtain ⟨cs,T,fr,hh,hsz⟩:=var_size h4 (g:=2) (by kernel_rfl) u8_extra.y4 (Tryz.lays260.t139)
  refine fix_ok hs hh (hsz.trans (by kernel_rfl)) fun j z hj=>?_
  have hl:=(List.getElem?_eq_some_iff.1 hj).1
  have key:∀ j,j<32->accTab[j]? = some (if j % 2=0 then (accLo (j / 2):Int) else accHi (j / 2)):=by decide
  have hl:j<32:=hl
  rw [key j hl] at hj
  injection hj with hj
  subst hj
  obtain ⟨g1,g2⟩:=hT2 (j / 2) (by omega)
  split
  ·rw [show 2*(j / 2)=j by omega] at g1;exact g1
  ·rw [show 2*(j / 2)+1=j by omega] at g2;exact g2
theorem tens_role {σ : ASt} {W : World} (hfx : ∀ b r, σ b = some r → ∃ l, r = .fix l) (h5 : VarReads Tryz.prog W "tabular/deci.tens" (.slice (tensL.map fun x => .lit (.int .u64 x)) [])) :
  RoleOk σ W 3 (.fix [.sl .shr (tensL.map (AV.int .u64))]):=by
 obtain ⟨R,o,cap,T,fr,hheap,hle,hcells⟩:=slice_reads (g:=3) (t:=194) (e:=114) (by kernel_rfl) (by kernel_rfl) (by kernel_rfl) (by kernel_rfl) (by kernel_rfl) (by decide) h5
 have hlt:3<W.heap.size:=(Array.getElem?_eq_some_iff.1 hheap).1
 have hR:R<W.heap.size:=by
  have:=hcells 0 1 rfl
  refine Nat.lt_of_not_le fun hge=>?_
  simp [World.cell?,Array.getElem?_eq_none hge] at this
 exact ⟨.cons (still_fix hfx hlt) (by simp [World.cell?,hheap]) (.sl (sz:=1) (row_of (fun o=>still_fix hfx hR) tensL o hcells) (by simp) hle trivial hR) (.nil _ _),_,T,fr,hheap,rfl⟩
theorem pow_role {σ : ASt} {W : World} (hfx : ∀ b r, σ b = some r → ∃ l, r = .fix l) (h3 : VarReads Tryz.prog W "internal/strconv.uint64pow10" (Lib.tabData .u64 Lib.pow10Tab)) :
  RoleOk σ W 4 (.fix (Lib.pow10Tab.map (AV.int .u64))):=by
 obtain ⟨g',t',cs,fuel,p,hg',ht',hvar,hd⟩:=h3
 obtain rfl := Option.some.inj ((show Tryz.prog.globalNamed "internal/strconv.uint64pow10" = some 4 by kernel_rfl).symm.trans hg')
 obtain rfl:=Option.some.inj ((show (Tryz.prog.globals[4]?).map (·.type)=some 198 by kernel_rfl).symm.trans ht')
 have hcs:=cells_of_tab (n:=20) (e:=114) (k := .u64) (by kernel_rfl) (by kernel_rfl) (by kernel_rfl) (by kernel_rfl) hd
 unfold World.var? at hvar
 rw [show Tryz.prog.globalNamed "internal/strconv.uint64pow10" = some 4 by kernel_rfl, Option.bind_some] at hvar
 split at hvar
 ·rename_i cs' T fr hheap
  injection hvar with hvar
  have hlt:4<W.heap.size:=(Array.getElem?_eq_some_iff.1 hheap).1
  have he:cs'=(Lib.pow10Tab.map fun z=>Value.int .u64 z).toArray:=by rw [hvar];exact Array.ext' (by simpa using hcs)
  refine ⟨At.mk' (ints_reps _) (fun j _=>still_fix hfx hlt) (fun j v hj=>?_),cs',T,fr,hheap,by rw [he];simp⟩
  simp only [World.cell?,hheap,Nat.zero_add,he]
  simpa using hj
 ·cases hvar
end Go.Proofs.YtoodoaekmeeheaaGreatDoor
namespace Go.Proofs.YtoodoaekmeeheaaGreatDoor
open Go Go.ChangeShapes Go.WideShapes Go.ChangeAt Go.RowKit Go.A Go.Lib Go.Shelf
def laidU : List (String × DataW Unit) := [("math/bits.deBruijn32tab", Rows.laid_math_bits_deBruijn32tab), ("math/bits.deBruijn64tab", Rows.laid_math_bits_deBruijn64tab), ("internal/strconv.uint64pow10", Rows.laid_internal_strconv_uint64pow10), ("unicode/utf8.acceptRanges", Rows.laid_unicode_utf8_acceptRanges), ("tabular/deci.tens", Rows.laid_tabular_deci_tens), ("unicode/utf8.first", Rows.laid_unicode_utf8_first)]
end Go.Proofs.YtoodoaekmeeheaaGreatDoor
namespace Go
variable {H:Type} {enc:TypeId×Value->H}
theorem A.returnsInHanded_and_shaped {a:Assume} {C:Checked} {os:Os} {f:FuncId} {fn:Func} {s:ChangeSpec} {conds:List PathCond} {apart fresh handsOn again:Bool} {X:World->Array Value->Prop}
  (hX:∀ (w w':World) (args:Array Value),w.heap=w'.heap->X w args->X w' args)
  (own:ownKnob C.prog.godebug=none) (started:os.Started) (noInit:C.prog.inits.idxOf? f=none) (hfn:C.prog.funcs[f]? = some fn)
  (witness:∃ (w:World) (tape:Tape) (i:Input),w.os=os/\(w.forCall tape i).Shaped C.prog/\i.vars = []/\Input.okWide C.prog (w.forCall tape i) .any w.heap.size f i ∧
   ((s.pre enc C.prog fn conds apart (w.forCall tape i).memory i.args/\X (w.forCall tape i).memory i.args)/\sizedMet enc C.prog fn (OpenSpec.ofChange s) apart (w.forCall tape i).memory i.args)/\a.holds C.prog (lone (Frame.enter C.prog f i.args .normal) [] (w.forCall tape i)))
  (contract:∀ (W:World) (base:Nat) (args:Array Value) (ds gs:List (DataW H)) (before:List MemPlace),
   (∀ (j:Nat) t v,fn.params[j]? = some t->args[j]? = some v->Value.okWide C.prog W .any base t v) →
   DataW.Whole enc C.prog fn.params.toList s.vars apart W args.toList ds gs before →
   W.ShapedOpen C.prog->X W args →
   Calls C.prog f args W fun e W'=>∃ v,e = .returned v/\s.post enc C.prog fn apart fresh handsOn again W args v W') :
  ReturnsInHanded a C os f .any (fun w args=>(s.pre enc C.prog fn conds apart w args/\X w args)/\sizedMet enc C.prog fn (OpenSpec.ofChange s) apart w args) (s.post enc C.prog fn apart fresh handsOn again):=by
 refine returnsInHanded_of_calls own started noInit witness ?_
 intro w tape i _ hsh _ hok hpre hholds
 obtain ⟨_,_,_,fn',hfn',_,_,_,_,hval⟩:=hok
 have e:fn'=fn:=Option.some.inj (hfn'.symm.trans hfn)
 subst e
 obtain ⟨⟨⟨ds,gs,before,hw,hc⟩,hx⟩,hz⟩:=hpre
 have hw':=DataW.Whole.of_heap (w':=w.forCall tape i) (by rfl) hw
 refine (contract (w.forCall tape i) w.heap.size i.args ds gs before hval hw' hsh (hX _ _ _ (by rfl) hx)).mono fun e W' ⟨v,he,hp⟩=>?_
 subst he
 exact ChangeSpec.post_blind hp
end Go
namespace Go.Proofs.YtoodoaekmeeheaaGreatDoor
open Go Go.ChangeShapes Go.WideShapes Go.ChangeAt Go.RowKit Go.A Go.Lib Go.Shelf
def zPs:List (Nat×List AV) := [(1,firstTab.map (AV.int .u8)),(2,accTab.map (AV.int .u8)),(4,Lib.pow10Tab.map (AV.int .u64)),(3,[.sl .shr (tensL.map (AV.int .u64))])]
def zSt (m:Int):ASt:=fun b=>if b=0 then some (.fix ([m].map (AV.int .i64))) else stOf zPs b
theorem zSt_u8 (m:Int):U8 (zSt m):=⟨by simp [zSt,zPs,stOf],by simp [zSt,zPs,stOf]⟩
theorem zSt_tab (m:Int):Tab (zSt m):=by simp [Tab,zSt,zPs,stOf]
theorem zSt_tens (m:Int):Tens (zSt m):=by simp [Tens,zSt,zPs,stOf]
theorem zSt_max (m:Int):MaxL (zSt m):=⟨m,by simp [zSt]⟩
theorem zSt_fix {m:Int} {b:Nat} {r:Role} (h:zSt m b=some r):∃ l,r = .fix l:=by
 unfold zSt at h
 split at h
 ·injection h with h;exact ⟨_,h.symm⟩
 ·exact stOf_fix h
theorem z_sim {W:World} (hsh:W.ShapedOpen Tryz.prog) (h:laidMetH Tryz.prog laidU W):∃ m,Sim (zSt m) W:=by
 rw [MakeChecks.laidMetH_plain _ _ _ (by kernel_rfl)] at h
 have hp : VarReads Tryz.prog W "internal/strconv.uint64pow10" (Lib.tabData .u64 Lib.pow10Tab) := Lib.laidMet.reads h (.tail _ (.tail _ (.head _)))
 have h4 : VarReads Tryz.prog W "unicode/utf8.acceptRanges" acceptData := acc_eq ▸ Lib.laidMet.reads h (.tail _ (.tail _ (.tail _ (.head _))))
 have h5 : VarReads Tryz.prog W "tabular/deci.tens" (.slice (tensL.map fun x => .lit (.int .u64 x)) []) := Lib.laidMet.reads h (.tail _ (.tail _ (.tail _ (.tail _ (.head _)))))
 have h3 : VarReads Tryz.prog W "unicode/utf8.first" firstData := first_eq ▸ Lib.laidMet.reads h (.tail _ (.tail _ (.tail _ (.tail _ (.tail _ (.head _))))))
 obtain ⟨m,hm⟩:=Go.Proofs.cell_of_shapedOpen_int (g:=0) (zero := #[.int .i64 0]) (t:=3) hsh (of_decide_eq_true (by kernel_rfl)) (by kernel_rfl) rfl (by kernel_rfl) (by kernel_rfl) Tryz.underlying3
 have hm:W.cell? ⟨0,0,none⟩=some (.int .i64 m):=hm
 obtain ⟨cs,hh,hsz,_⟩:=hsh.1 0 #[.int .i64 0] 3 (of_decide_eq_true (by kernel_rfl)) (by kernel_rfl)
 obtain ⟨r1,r2⟩:=u8_roles (σ:=zSt m) h3 h4
 refine ⟨m,fun b r hb=>?_⟩
 have hb0:=hb
 unfold zSt at hb
 split at hb
 ·rename_i hbb
  subst hbb
  injection hb with hb
  subst hb
  have hlt:0<W.heap.size:=(Array.getElem?_eq_some_iff.1 hh).1
  refine ⟨At.mk' (ints_reps _) (fun j _=>⟨hlt,.inr (.inl ⟨_,hb0⟩)⟩) (fun j v hj=>?_),cs,_,_,hh,hsz⟩
  match j,hj with
  | 0,hj=>injection hj with hj;subst hj;exact hm
 ·obtain ⟨l,hl,rfl⟩:=stOf_mem hb
  simp only [zPs,List.mem_cons,List.not_mem_nil,or_false,Prod.mk.injEq] at hl
  rcases hl with ⟨rfl,rfl⟩|⟨rfl,rfl⟩|⟨rfl,rfl⟩|⟨rfl,rfl⟩
  ·exact r1 (zSt_u8 m).1
  ·exact r2 (zSt_u8 m).2
  ·exact pow_role (fun _ _=>zSt_fix) hp
  ·exact tens_role (fun _ _=>zSt_fix) h5
theorem calls_z {m:Int} {f:FuncId} {args:List AV} {vs:List Value} {w:World} (h:ACalls Tryz.prog f args (zSt m) fun r σ'=>r = .bool true/\σ'=zSt m) (hs:Sim (zSt m) w) (hr:Reps (zSt m) w args vs) :
  Calls Tryz.prog f ⟨vs⟩ w fun e w'=>e = .returned (.bool true)/\Ext w w':=
 (h w vs hs hr).mono fun e w' ⟨u,r,σ',he,⟨hrt,hst⟩,hle,_,hrep⟩=>by
  subst hrt hst
  cases hrep
  refine ⟨he,Ext.of_below ⟨hle.os,hle.tape,hle.output,hle.size,fun k hk=>?_⟩⟩
  cases hn:zSt m k with
  | none=>exact (hle.keep k hk hn).2
  | some r=>
    obtain ⟨l,rfl⟩:=zSt_fix hn
    exact (hle.fix k _ hk hn).2
end Go.Proofs.YtoodoaekmeeheaaGreatDoor
end
