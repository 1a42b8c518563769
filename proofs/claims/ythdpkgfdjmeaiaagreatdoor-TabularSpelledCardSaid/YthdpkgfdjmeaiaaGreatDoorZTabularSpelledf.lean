/- Part 6 of what TabularSpelled leans on: Hf CodeKl Kl Wa CodeGa Ga CodeGb Gb CodeGc Gc CodeGd Gd Tg Za Zu Eg Gp Wc Ea Zd CodeEq Eq CodeWb Wb CodeZe Ze CodeZg. -/
import Derived.Test.YthdpkgfdjmeaiaaGreatDoorProg
import Derived.KernelRfl
import Derived.Lib.MapLaws
import Derived.Lib.RuneCount
import Derived.Lib.LaidU8
import Derived.Lib.ItoaNum
import Derived.Lib.Replace
import Derived.Test.YthdpkgfdjmeaiaaGreatDoorZTabularSpellede
set_option linter.defProp false
set_option linter.unusedSimpArgs false
set_option linter.unusedVariables false
set_option maxRecDepth 100000
namespace Go.A
open Go.Proofs
theorem dtext_ok {σ:ASt} (h:Tab σ) {a:Int} (ha:a.natAbs<=999999999999999999):ACalls Tryz.prog 77 [.int .i64 a] σ fun v σ'=>v = .str (textD a)/\σ'=σ:=by
 have hS:=size_ok a (by omega) (by omega)
 obtain ⟨T,hT⟩:∃ T,textD a=T:=⟨_,rfl⟩
 rw [hT]
 unfold textD placesP at hT
 obtain ⟨s,hs⟩:∃ s,a.natAbs=s:=⟨_,rfl⟩
 rw [hs] at hS hT ha
 have hd:(s:Int).tdiv 10000=((s / 10000:Nat):Int):=by rw [Int.tdiv_eq_ediv_of_nonneg (by omega)];rfl
 have hm:(s:Int).tmod 10000=((s % 10000:Nat):Int):=by rw [Int.tmod_eq_emod_of_nonneg (by omega)];rfl
 have hp:s % 10000<10000:=Nat.mod_lt _ (by omega)
 have hw:s / 10000<=99999999999999:=by omega
 obtain ⟨p,hpp⟩:∃ p,s % 10000=p:=⟨_,rfl⟩
 obtain ⟨q,hqq⟩:∃ q,s / 10000=q:=⟨_,rfl⟩
 rw [hpp] at hp hm hT
 rw [hqq] at hd hw hT
 have hqw:IntKind.u64.wrap (q:Int)=q:=by rw [IntKind.wrap_u64];omega
 refine a77 (by simp) ?_
 simp (disch:=first|assumption|omega) only [go_sem,reduceCtorEq,↓reduceIte]
 refine hS.use ?_
 simp (disch:=first|assumption|omega) only [go_sem,↓reduceIte,hd,hqw]
 refine (fmt_ok h (u:=q) (by omega)).mono ?_
 rintro v σ' ⟨rfl,rfl⟩
 simp (disch:=first|assumption|omega) only [go_sem,Nat.reduceEqDiff,↓reduceIte,hm]
 have hql:(Lib.decDigits q).length<=15:=dd_len 14 q (by omega)
 by_cases h0:p=0
 ·subst h0
  rw [if_pos rfl,List.append_nil] at hT
  have g0:¬ (0:Int)<((0:Nat):Int):=by omega
  simp (disch:=first|assumption|omega) only [go_sem,reduceCtorEq,Int.reduceLT,↓reduceIte]
  by_cases hn:a<0
  ·have e1:binS .add [45] (Lib.decDigits q)=some (.str T):=by rw [binS_add (by simp;omega),← hT,if_pos hn]
   simp (disch:=first|assumption|omega) only [go_sem,Nat.reduceEqDiff,↓reduceIte,hn,e1]
   exact retC_by (by repeat' (first|exact Drop.refl _|with_reducible refine Drop.off ?_ (by assumption))) (.refl _) ⟨rfl,rfl⟩
  ·rw [if_neg hn,List.nil_append] at hT
   subst hT
   simp (disch:=first|assumption|omega) only [go_sem,Nat.reduceEqDiff,↓reduceIte,hn]
   exact retC_by (by repeat' (first|exact Drop.refl _|with_reducible refine Drop.off ?_ (by assumption))) (.refl _) ⟨rfl,rfl⟩
 ·rw [if_neg h0] at hT
  have g0:(0:Int)<(p:Int):=by omega
  have hDl:(Lib.decDigits (10000+p)).length<=5:=dd_len 4 _ (by omega)
  have hD1:1<=(Lib.decDigits (10000+p)).length:=List.length_pos_iff.2 (dd_len_pos _)
  have hF:=fmt_ok h (u:=10000+p) (by omega)
  rw [show (((10000+p:Nat):Int))=(10000:Int)+p by omega] at hF
  have htl:(Lib.decDigits (10000+p)).tail.length<=4:=by rw [List.length_tail];omega
  rw [<-List.drop_one] at hT htl
  generalize Lib.decDigits (10000+p)=D at *
  have hR:=trimRight_ok (D.drop 1) 48 (by decide) (by omega)
  have hRl:(Lib.trimRightB (D.drop 1) 48).length<=4:=by
   have:=congrArg List.length (trim_back 48 (D.drop 1))
   rw [List.length_append] at this
   omega
  generalize Lib.trimRightB (D.drop 1) 48=X at *
  have e1:binS .add [46] X=some (.str (46::X)):=binS_add (by simp;omega)
  have e2:binS .add (Lib.decDigits q) (46::X)=some (.str (Lib.decDigits q++46::X)):=binS_add (by simp;omega)
  have g5:(1:Int)<=D.length:=by omega
  simp (disch:=first|assumption|omega) only [go_sem,Nat.reduceEqDiff,↓reduceIte,g0]
  refine hF.mono ?_
  rintro v σ' ⟨rfl,rfl⟩
  simp (disch:=first|assumption|omega) only [go_sem,↓reduceIte,Int.reduceToNat,List.take_length]
  refine hR.use ?_
  simp (disch:=first|assumption|omega) only [go_sem,reduceCtorEq,Nat.reduceEqDiff,↓reduceIte,e1,e2]
  by_cases hn:a<0
  ·have e3:binS .add [45] (Lib.decDigits q++46::X)=some (.str T):=by rw [binS_add (by simp;omega),← hT,if_pos hn]
   simp (disch:=first|assumption|omega) only [go_sem,Nat.reduceEqDiff,↓reduceIte,hn,e3]
   exact retC_by (by repeat' (first|exact Drop.refl _|with_reducible refine Drop.off ?_ (by assumption))) (.refl _) ⟨rfl,rfl⟩
  ·rw [if_neg hn,List.nil_append] at hT
   subst hT
   simp (disch:=first|assumption|omega) only [go_sem,Nat.reduceEqDiff,↓reduceIte,hn]
   exact retC_by (by repeat' (first|exact Drop.refl _|with_reducible refine Drop.off ?_ (by assumption))) (.refl _) ⟨rfl,rfl⟩
end Go.A
namespace Go.A
open Go.Proofs
theorem prefix_minus (s:List UInt8):Lib.hasPrefix s [45]=decide (s.head? = some 45):=by
 unfold Lib.hasPrefix
 cases s with
 | nil=>rfl
 | cons c l=>
   simp only [List.isPrefixOf,Bool.and_true,List.head?_cons,Option.some.injEq]
   by_cases h:c=45
   ·subst h;rfl
   ·have h1:(45==c)=false:=by simpa using fun e=>h e.symm
    rw [h1];simp [h]
theorem trim_minus (s:List UInt8):Lib.trimPrefix s [45]=if s.head? = some 45 then s.drop 1 else s:=by
 unfold Lib.trimPrefix
 rw [prefix_minus]
 by_cases h:s.head? = some 45
 ·simp [h]
 ·simp [h]
theorem cut_len (l:List UInt8) (c:UInt8):(Lib.cut l [c]).1.length+(Lib.cut l [c]).2.1.length<=l.length:=by
 unfold Lib.cut
 split
 ·have:=Lib.index_room l [c] (by assumption)
  simp at this ⊢
  omega
 ·simp
set_option maxHeartbeats 1000000 in
theorem dparse_ok (s:List UInt8) (hs:s.length<=100000):Pure Tryz.prog 30 [.str s] (resAV (parseD s)):=by
 intro σ
 have hP:=cutPrefix_ok s [45]
 rw [prefix_minus,trim_minus] at hP
 obtain ⟨R,hR⟩:∃ R,parseD s=R:=⟨_,rfl⟩
 rw [hR]
 unfold parseD at hR
 dsimp only at hR
 generalize hm:decide (s.head? = some 45)=minus at *
 have hbl:(if s.head? = some 45 then s.drop 1 else s).length<=100000:=by
  split
  ·rw [List.length_drop];omega
  ·exact hs
 generalize (if s.head? = some 45 then s.drop 1 else s)=body at *
 have hC:=cutc_ok body 46 (by omega)
 have hCl:=cut_len body 46
 have hnf:(Lib.cut body [46]).2.2=false->(Lib.cut body [46]).2.1 = []:=by
  unfold Lib.cut
  split<;>simp
 generalize (Lib.cut body [46]).1=whole at *
 generalize (Lib.cut body [46]).2.1=part at *
 generalize (Lib.cut body [46]).2.2=dot at *
 unfold parseQ at hR
 obtain ⟨F,hF⟩:∃ F,F=ACode.wp Tryz.prog c30_32:=⟨_,rfl⟩
 have fin:∀ (a:AFr),part.length<=4->(accP 0 (whole++part++List.replicate (4-part.length) 48)).bind (madeP minus)=R->(a 5 = .bool minus/\a 6 = .str whole/\a 7 = .str part)->F (RetQ [.t 2,.t 3] fun v σ'=>v=resAV R/\σ'=σ) a σ:=by
  intro a hp4 hacc hf
  rw [hF]
  have hl2:whole.length+part.length<=9223372036854775807:=by omega
  have g4:(part.length:Int)<=4:=by omega
  have e0:([48,48,48,48]:List UInt8).drop part.length=List.replicate (4-part.length) 48:=by
   have:part.length=0\/part.length=1\/part.length=2\/part.length=3\/part.length=4:=by omega
   rcases this with h|h|h|h|h<;>rw [h]<;>rfl
  have e1:binS .add (whole++part) (List.replicate (4-part.length) 48)=some (.str (whole++part++List.replicate (4-part.length) 48)):=binS_add (by simp;omega)
  obtain ⟨M,hM⟩:∃ M,whole++part++List.replicate (4-part.length) 48=M:=⟨_,rfl⟩
  rw [hM] at hacc e1
  have hMl:M.length<=1000000:=by rw [<-hM];simp;omega
  simp (disch:=first|assumption|omega|(simp only [List.length_append,List.length_cons,List.length_nil];omega)) only [go_sem,Nat.reduceEqDiff,Nat.reduceAdd,↓reduceIte,Int.reduceToNat,hf,e0,e1]
  refine s2b_shr ?_
  simp (disch:=first|assumption|omega|(simp only [List.length_append,List.length_cons,List.length_nil];omega)) only [go_sem,↓reduceIte]
  refine wp_loop_on (fun (i:Nat) a σ'=>i<=M.length/\(∃ n:Nat,n<=999999999999999999/\accP 0 M=accP n (M.drop i)/\a 9 = .int .u64 n)/\(a 5 = .bool minus/\a 44 = .sl .shr (bytesAV M)/\a 45 = .int .i64 M.length/\a 46 = .int .i64 i)/\σ'=σ) (fun i=>M.length-i) 0 ⟨Nat.zero_le _,⟨0,by omega,rfl,?_⟩,?_,rfl⟩ ?_
  ·simp (disch:=first|assumption|omega|(simp only [List.length_append,List.length_cons,List.length_nil];omega)) only [go_sem,Nat.reduceEqDiff,↓reduceIte]
  ·simp (disch:=first|assumption|omega|(simp only [List.length_append,List.length_cons,List.length_nil];omega)) only [go_sem,Nat.reduceEqDiff,↓reduceIte,hf]
  rintro i a σ1 ⟨hi,⟨n,hn,hac,hf9⟩,hf,rfl⟩
  rw [hac] at hacc
  by_cases hlt:i<M.length
  ·have hidx : M[i]? = some (M[i]'hlt) := List.getElem?_eq_getElem hlt
   rw [List.drop_eq_getElem_cons hlt] at hac hacc
   obtain ⟨c, hc⟩ : ∃ c, M[i]'hlt = c := ⟨_, rfl⟩
   rw [hc] at hidx hac hacc
   have hlt':(i:Int)<M.length:=by omega
   have hcb:c.toNat<256:=c.toNat_lt
   rw [accP] at hac hacc
   by_cases h1:c.toNat<48
   ·have h1':(c.toNat:Int)<48:=by omega
    rw [if_pos (by omega)] at hacc
    subst hacc
    simp (disch:=first|assumption|omega|(simp only [List.length_append,List.length_cons,List.length_nil];omega)) only [go_sem,Nat.reduceEqDiff,↓reduceIte,hf,hlt',hidx,h1']
    exact retC_by (by repeat' (first|exact Drop.refl _|with_reducible refine Drop.off ?_ (by assumption))) (.refl _) ⟨rfl,rfl⟩
   have h1':¬ (c.toNat:Int)<48:=by omega
   by_cases h2:57<c.toNat
   ·have h2':(57:Int)<c.toNat:=by omega
    rw [if_pos (by omega)] at hacc
    subst hacc
    simp (disch:=first|assumption|omega|(simp only [List.length_append,List.length_cons,List.length_nil];omega)) only [go_sem,Nat.reduceEqDiff,↓reduceIte,hf,hlt',hidx,h1',h2']
    exact retC_by (by repeat' (first|exact Drop.refl _|with_reducible refine Drop.off ?_ (by assumption))) (.refl _) ⟨rfl,rfl⟩
   have h2':¬ (57:Int)<c.toNat:=by omega
   by_cases h3:99999999999999999<n
   ·have h3':(99999999999999999:Int)<n:=by omega
    rw [if_pos (by omega)] at hacc
    subst hacc
    simp (disch:=first|assumption|omega|(simp only [List.length_append,List.length_cons,List.length_nil];omega)) only [go_sem,Nat.reduceEqDiff,↓reduceIte,hf,hf9,hlt',hidx,h1',h2',h3']
    exact retC_by (by repeat' (first|exact Drop.refl _|with_reducible refine Drop.off ?_ (by assumption))) (.refl _) ⟨rfl,rfl⟩
   have h3':¬ (99999999999999999:Int)<n:=by omega
   rw [if_neg (by omega)] at hac hacc
   obtain ⟨n2,hn2⟩:∃ n2:Nat,10*n+(c.toNat-48)=n2:=⟨_,rfl⟩
   rw [hn2] at hac hacc
   have e2:10*(n:Int)+((c.toNat:Int)-48)=n2:=by omega
   simp (disch:=first|assumption|omega|(simp only [List.length_append,List.length_cons,List.length_nil];omega)) only [go_sem,Nat.reduceEqDiff,↓reduceIte,hf,hf9,hlt',hidx,h1',h2',h3',e2]
   exact ⟨i+1,by omega,by omega,⟨n2,by omega,hac,rfl⟩,rfl⟩
  ·have hlt':¬ (i:Int)<M.length:=by omega
   rw [List.drop_eq_nil_of_le (by omega),accP,Option.bind_some] at hacc
   subst hacc
   have hMd:=made_ok minus n (by omega)
   simp (disch:=first|assumption|omega|(simp only [List.length_append,List.length_cons,List.length_nil];omega)) only [go_sem,Nat.reduceEqDiff,↓reduceIte,hf,hf9,hlt']
   refine hMd.use ?_
   simp only [resAV]
   simp (disch:=first|assumption|omega|(simp only [List.length_append,List.length_cons,List.length_nil];omega)) only [go_sem,Nat.reduceEqDiff,↓reduceIte]
   exact retC_by (by repeat' (first|exact Drop.refl _|with_reducible refine Drop.off ?_ (by assumption))) (.refl _) ⟨rfl,rfl⟩
 refine a30 (by simp) ?_
 simp (disch:=first|assumption|omega|(simp only [List.length_append,List.length_cons,List.length_nil];omega)) only [go_sem,reduceCtorEq,↓reduceIte]
 refine hP.use ?_
 simp (disch:=first|assumption|omega|(simp only [List.length_append,List.length_cons,List.length_nil];omega)) only [go_sem,Nat.reduceEqDiff,↓reduceIte]
 refine hC.use ?_
 by_cases hw:whole = []
 ·subst hw
  rw [if_pos (.inl rfl)] at hR
  subst hR
  simp (disch:=first|assumption|omega|(simp only [List.length_append,List.length_cons,List.length_nil];omega)) only [go_sem,Nat.reduceEqDiff,↓reduceIte,←hF]
  exact retC_by (by repeat' (first|exact Drop.refl _|with_reducible refine Drop.off ?_ (by assumption))) (.refl _) ⟨rfl,rfl⟩
 cases dot with
 | false=>
   have hp:=hnf rfl
   subst hp
   rw [if_neg (by rintro (h|⟨h,_⟩)<;>contradiction)] at hR
   simp (disch:=first|assumption|omega|(simp only [List.length_append,List.length_cons,List.length_nil];omega)) only [go_sem,Nat.reduceEqDiff,↓reduceIte,hw,←hF]
   refine fin _ (by simp) hR ?_
   simp (disch:=first|assumption|omega|(simp only [List.length_append,List.length_cons,List.length_nil];omega)) only [go_sem,Nat.reduceEqDiff,↓reduceIte]
 | true=>
   by_cases hp:part = []
   ·subst hp
    rw [if_pos (.inr ⟨rfl,.inl rfl⟩)] at hR
    subst hR
    simp (disch:=first|assumption|omega|(simp only [List.length_append,List.length_cons,List.length_nil];omega)) only [go_sem,Nat.reduceEqDiff,↓reduceIte,hw,←hF]
    exact retC_by (by repeat' (first|exact Drop.refl _|with_reducible refine Drop.off ?_ (by assumption))) (.refl _) ⟨rfl,rfl⟩
   by_cases h4:4<part.length
   ·have h4':(4:Int)<part.length:=by omega
    rw [if_pos (.inr ⟨rfl,.inr h4⟩)] at hR
    subst hR
    simp (disch:=first|assumption|omega|(simp only [List.length_append,List.length_cons,List.length_nil];omega)) only [go_sem,Nat.reduceEqDiff,↓reduceIte,hw,hp,h4',←hF]
    exact retC_by (by repeat' (first|exact Drop.refl _|with_reducible refine Drop.off ?_ (by assumption))) (.refl _) ⟨rfl,rfl⟩
   ·have h4':¬ (4:Int)<part.length:=by omega
    rw [if_neg (by rintro (h|⟨_,h|h⟩)<;>contradiction)] at hR
    simp (disch:=first|assumption|omega|(simp only [List.length_append,List.length_cons,List.length_nil];omega)) only [go_sem,Nat.reduceEqDiff,↓reduceIte,hw,hp,h4',←hF]
    refine fin _ (by omega) hR ?_
    simp (disch:=first|assumption|omega|(simp only [List.length_append,List.length_cons,List.length_nil];omega)) only [go_sem,Nat.reduceEqDiff,↓reduceIte]
theorem textD_len {a:Int} (ha:a.natAbs<=999999999999999999):(textD a).length<=100:=by
 have h1:(Lib.decDigits (a.natAbs / 10000)).length<=15:=dd_len 14 _ (by omega)
 have h2:(placesP (a.natAbs % 10000)).length<=10:=by
  unfold placesP
  split
  ·simp
  ·rw [dd_four (by omega)]
   have:=congrArg List.length (trim_back 48 (fourP (a.natAbs % 10000)))
   rw [List.length_append] at this
   have e4:(fourP (a.natAbs % 10000)).length=4:=rfl
   simp
   omega
 unfold textD
 simp only [List.length_append]
 split<;>simp<;>omega
theorem whole_ok {a:Int} (ha:a.natAbs<=999999999999999999):Pure Tryz.prog 118 [.int .i64 a] (.int .i64 (a.tdiv 10000)):=by
 intro σ
 have hqb:(a.tdiv 10000).natAbs<=a.natAbs:=by rw [Int.natAbs_tdiv];exact Nat.div_le_self _ _
 have e:IntKind.i64.wrap (a.tdiv 10000)=a.tdiv 10000:=by rw [IntKind.wrap_i64];omega
 refine a118 (by simp) ?_
 simp (disch:=first|assumption|omega) only [go_sem,reduceCtorEq,↓reduceIte,e]
 exact retC_by (by repeat' (first|exact Drop.refl _|with_reducible refine Drop.off ?_ (by assumption))) (.refl _) ⟨rfl,rfl⟩
theorem isInt_ok (a:Int):Pure Tryz.prog 124 [.int .i64 a] (.bool (decide (a.tmod 10000=0))):=by
 intro σ
 refine a124 (by simp) ?_
 simp (disch:=first|assumption|omega) only [go_sem,reduceCtorEq,↓reduceIte]
 exact retC_by (by repeat' (first|exact Drop.refl _|with_reducible refine Drop.off ?_ (by assumption))) (.refl _) ⟨rfl,rfl⟩
end Go.A
namespace Go.A
open Go.Proofs
/-! 6: tabular/tabulartop.live -/
def c6_17:ACode := .seq (.ops [ oq 0 (.mv (.v (.bool false)))]) (.seq (.ops [ oe 8 (.call 26 [(.v (.int .i64 3))]),oq 1 (.mv (.t 8))]) (.seq (.seq (.ops [ oq 9 (.mv (.t 1)),oq 10 (.eq .p false (.t 9) (.v .nilp))]) (.cond (.t 10) (.seq (.ops [ oq 0 (.mv (.v (.bool false)))]) .ret) .skip)) (.seq (.ops [ oq 12 (.mv (.t 1)),oe 13 (.call 27 [(.t 12)]),oq 11 (.mv (.t 13)),oq 14 (.ext 0 (.t 11)),oq 15 (.ext 1 (.t 11)),oq 2 (.mv (.t 14)),oq 3 (.mv (.t 15))]) (.seq (.ops [ oe 17 (.call 29 [(.v (.str [97,98]))]),oe 18 (.call 28 [(.t 17)]),oq 16 (.mv (.t 18)),oq 19 (.ext 0 (.t 16)),oq 20 (.ext 1 (.t 16)),oq 4 (.mv (.t 19)),oq 5 (.mv (.t 20))]) (.seq (.ops [ oe 22 (.call 30 [(.v (.str [45,50,46,53]))]),oq 21 (.mv (.t 22)),oq 23 (.ext 0 (.t 21)),oq 24 (.ext 1 (.t 21)),oq 6 (.mv (.t 23)),oq 7 (.mv (.t 24))]) (.seq (.ops [ oq 25 (.mv (.t 3)),oq 26 (.bin .eql (.t 25) (.v (.int .i64 0))),oq 27 (.mv (.t 26)),⟨some 28,some (27,true),.q (.mv (.t 2)),[]⟩,⟨some 29,some (27,true),.q (.bin .eql (.t 28) (.v (.int .i64 1))),[]⟩,oq 30 (.pick (.t 27) (.t 29) (.v (.bool false))),oq 31 (.mv (.t 30)),⟨some 32,some (31,true),.q (.mv (.t 5)),[]⟩,oq 33 (.pick (.t 31) (.t 32) (.v (.bool false))),oq 34 (.mv (.t 33)),⟨some 35,some (34,true),.q (.mv (.t 4)),[]⟩,⟨some 36,some (34,true),.q (.bin .eql (.t 35) (.v (.str [97,98]))),[]⟩,oq 37 (.pick (.t 34) (.t 36) (.v (.bool false))),oq 38 (.mv (.t 37)),⟨some 39,some (38,true),.q (.mv (.t 7)),[]⟩,oq 40 (.pick (.t 38) (.t 39) (.v (.bool false))),oq 41 (.mv (.t 40)),⟨some 42,some (41,true),.q (.mv (.t 6)),[]⟩,⟨some 43,some (41,true),.q (.bin .eql (.t 42) (.v (.int .i64 (-25000)))),[]⟩,oq 44 (.pick (.t 41) (.t 43) (.v (.bool false))),oq 0 (.mv (.t 44))]) .ret))))))
@[go_sem] def c6_17_wp:=wp_of c6_17.eq_1
def c6:AFn:=⟨45,[.t 0],c6_17⟩
theorem c6_ok:compF Tryz.prog Tryz.f6=some c6:=by kernel_rfl
theorem a6 {args:List AV} {σ:ASt} {R:AV->ASt->Prop} (hl:args.length<=45) (h:c6_17.wp Tryz.prog (RetQ [.t 0] R) (init args) σ):ACalls Tryz.prog 6 args σ R:=acalls_of Tryz.func6 c6_ok hl h
end Go.A
namespace Go.A
open Go.Proofs Go.Lib
theorem live_ok {σ:ASt} (hT:CkT σ):ACalls Tryz.prog 6 [] σ fun v σ'=>v = .bool true/\σ'=σ:=by
 have hN:=dknew_ok hT 3
 have e3:min (max (3:Int) 2) 60000=3:=by decide
 rw [e3] at hN
 have hP:=dparse_ok [45,50,46,53] (by decide)
 have hPd:parseD [45,50,46,53]=some (-25000):=by decide +kernel
 rw [hPd] at hP
 have hS:=fun τ (h:CkT τ)=>ckseal_ok h [97,98] (by decide)
 have hO:=fun τ (h:CkT τ)=>ckopen_ok h ([97,98]++le32 (ckN [97,98])) (by rw [List.length_append,le32_len];decide)
 rw [openP_seal] at hO
 have hra:resAV (some (-25000)) = .tuple [.int .i64 (-25000),.bool true]:=rfl
 rw [hra] at hP
 refine a6 (by simp) ?_
 simp (disch:=first|assumption|omega) only [go_sem]
 refine hN.mono ?_
 rintro v σ1 ⟨d,rfl,B,cB,rB,fv,F,I,cI,rI,hD⟩
 have hK:=dktake_new (hD.at hT) hD hT (newP_ok (by decide)) rfl (by decide:(1:Int)<3) rfl (by decide:(1:Int)<1000000000)
 simp (disch:=first|assumption|omega) only [go_sem,Nat.reduceEqDiff,↓reduceIte]
 refine hK.mono ?_
 rintro v σ2 ⟨rfl,h2⟩
 have hi:(((newP 3).isF.length:Nat):Int)=1:=rfl
 have hC2:CkT σ2:=h2.at hT
 simp (disch:=first|assumption|omega) only [go_sem,Nat.reduceEqDiff,↓reduceIte,hi]
 refine (hS _ hC2).mono ?_
 rintro v σ3 ⟨rfl,rfl⟩
 generalize [97,98]++le32 (ckN [97,98])=sx at *
 simp (disch:=first|assumption|omega) only [go_sem,↓reduceIte]
 refine (hO _ hC2).mono ?_
 rintro v σ4 ⟨rfl,rfl⟩
 simp (disch:=first|assumption|omega) only [go_sem,Nat.reduceEqDiff,↓reduceIte]
 refine hP.use ?_
 simp (disch:=first|assumption|omega) only [go_sem,Nat.reduceEqDiff,↓reduceIte,Int.reduceNeg]
 exact retC_by h2.drop (.refl _) ⟨rfl,rfl⟩
end Go.A
namespace Go.A
open Go.Proofs
theorem itoa_ok {σ:ASt} (h:Tab σ) {n:Int} (h0 : -9223372036854775808<=n) (h1:n<=9223372036854775807):ACalls Tryz.prog 122 [.int .i64 n] σ fun v σ'=>v = .str (Lib.itoa n)/\σ'=σ:=by
 refine ACalls.of_ext (u := .string ⟨(Lib.itoa n).toArray⟩) (fun w vs hs ha=>?_) fun w => .str _
 cases ha with
 | cons h2 h3=>
   cases h2;cases h3
   refine (Tryz.strconv_Itoa n h0 h1 w (tabIs_of hs (by kernel_rfl) h)).mono ?_
   rintro e w' ⟨he,k,os,rfl⟩
   exact ⟨he,ext_grow w k os⟩
end Go.A
namespace Go.A
open Go.Proofs
/-! 42: (tabular/addr.Ref).Moved -/
/-! 74: (tabular/addr.Ref).Good -/
/-! 186: tabular/addr.letter -/
def c186_15:ACode := .seq (.ops [ oq 2 (.mv (.v (.int .i64 0)))]) (.seq (.block 0 (.seq (.ops [ oq 4 (.mv (.t 0)),oq 5 (.bin .geq (.t 4) (.v (.int .u8 65))),oq 6 (.mv (.t 5)),⟨some 7,some (6,true),.q (.mv (.t 0)),[]⟩,⟨some 8,some (6,true),.q (.bin .leq (.t 7) (.v (.int .u8 90))),[]⟩,oq 9 (.pick (.t 6) (.t 8) (.v (.bool false))),oq 3 (.mv (.t 9))]) (.cond (.t 3) (.seq (.ops [ oq 10 (.mv (.t 0)),oq 11 (.bin .sub (.t 10) (.v (.int .u8 65))),oq 12 (.conv .i64 (.t 11)),oq 13 (.bin .add (.t 12) (.v (.int .i64 1))),oq 2 (.mv (.t 13))]) .ret) (.seq (.ops [ oq 15 (.mv (.t 0)),oq 16 (.bin .geq (.t 15) (.v (.int .u8 97))),oq 17 (.mv (.t 16)),⟨some 18,some (17,true),.q (.mv (.t 0)),[]⟩,⟨some 19,some (17,true),.q (.bin .leq (.t 18) (.v (.int .u8 122))),[]⟩,oq 20 (.pick (.t 17) (.t 19) (.v (.bool false))),oq 14 (.mv (.t 20))]) (.cond (.t 14) (.seq (.ops [ oq 21 (.mv (.t 0)),oq 22 (.bin .sub (.t 21) (.v (.int .u8 97))),oq 23 (.conv .i64 (.t 22)),oq 24 (.bin .add (.t 23) (.v (.int .i64 1))),oq 2 (.mv (.t 24))]) .ret) .skip))))) (.seq (.ops [ oq 2 (.mv (.v (.int .i64 0)))]) .ret))
@[go_sem] def c186_15_wp:=wp_of c186_15.eq_1
def c186:AFn:=⟨25,[.t 2],c186_15⟩
theorem c186_ok:compF Tryz.prog Tryz.f186=some c186:=by kernel_rfl
theorem a186 {args:List AV} {σ:ASt} {R:AV->ASt->Prop} (hl:args.length<=25) (h:c186_15.wp Tryz.prog (RetQ [.t 2] R) (init args) σ):ACalls Tryz.prog 186 args σ R:=acalls_of Tryz.func186 c186_ok hl h
end Go.A
namespace Go.A
open Go.Proofs
def letterP (c:Int):Int:=if 65<=c/\c<=90 then c-64 else if 97<=c/\c<=122 then c-96 else 0
theorem letter_ok (c:Int) (h0:0<=c) (h1:c<=255):Pure Tryz.prog 186 [.int .u8 c] (.int .i64 (letterP c)):=by
 intro σ
 refine a186 (by simp) ?_
 repeat' (first|(simp (disch:=first|assumption|omega) only [go_sem,reduceCtorEq,Nat.reduceEqDiff,↓reduceIte])|with_reducible refine gC_d (fun h=>?_) (fun h=>?_)|with_reducible refine gC_dn (fun h=>?_) (fun h=>?_)|with_reducible refine condC_d (fun h=>?_) (fun h=>?_)|with_reducible refine condC_n (fun h=>?_) (fun h=>?_)|with_reducible refine condC_b (fun h=>?_) (fun h=>?_)|with_reducible refine boxC_by ?_ fun b hb=>?_)
 all_goals refine retC_by (Drop.refl _) (.refl _) ⟨?_,rfl⟩
 all_goals (simp only [letterP,resV_one];congr 1;repeat' split)<;>omega
structure Ref where
 row:Int
 col:Int
 absRow:Bool
 absCol:Bool
 deriving DecidableEq,Inhabited
def refAV (r:Ref):AV := .agg [.int .i64 r.row,.int .i64 r.col,.bool r.absRow,.bool r.absCol]
def Ref.good (r:Ref):Bool:=decide (0<=r.row/\r.row<3000/\0<=r.col/\r.col<700)
def Ref.zero:Ref:=⟨0,0,false,false⟩
end Go.A
namespace Go.A
open Go.Proofs
/-! 121: tabular/addr.Letters -/
def c121_15:ACode := .seq (.seq (.ops [ oq 12 (.mv (.t 0)),oq 13 (.bin .gtr (.t 12) (.v (.int .i64 0)))]) (.cond (.t 13) .skip (.exit 0))) (.seq (.block 1 (.ops [ oq 17 (.mv (.t 0)),oq 18 (.bin .sub (.t 17) (.v (.int .i64 1))),oq 19 (.bin .rem (.t 18) (.v (.int .i64 26))),oq 20 (.bin .add (.v (.int .i64 65)) (.t 19)),oq 21 (.conv .u8 (.t 20)),oq 22 (.bsl 1 [(.t 21)]),oq 23 (.b2s (.t 22)),oq 24 (.mv (.t 3)),oq 25 (.bin .add (.t 23) (.t 24)),oq 3 (.mv (.t 25))])) (.ops [ oq 14 (.mv (.t 0)),oq 15 (.bin .sub (.t 14) (.v (.int .i64 1))),oq 16 (.bin .quo (.t 15) (.v (.int .i64 26))),oq 0 (.mv (.t 16))]))
def c121_24:ACode := .seq (.ops [ oq 2 (.mv (.v (.str [])))]) (.seq (.seq (.ops [ oq 4 (.mv (.t 0)),oq 5 (.bin .lss (.t 4) (.v (.int .i64 0))),oq 6 (.mv (.t 5)),⟨some 7,some (6,false),.q (.mv (.t 0)),[]⟩,⟨some 8,some (6,false),.q (.bin .geq (.t 7) (.v (.int .i64 700))),[]⟩,oq 9 (.pick (.t 6) (.v (.bool true)) (.t 8))]) (.cond (.t 9) (.seq (.ops [ oq 2 (.mv (.v (.str [])))]) .ret) .skip)) (.seq (.ops [ oq 3 (.mv (.v (.str [])))]) (.seq (.seq (.ops [ oq 10 (.mv (.t 0)),oq 11 (.bin .add (.t 10) (.v (.int .i64 1))),oq 0 (.mv (.t 11))]) (.block 0 (.loop c121_15))) (.seq (.ops [ oq 26 (.mv (.t 3)),oq 2 (.mv (.t 26))]) .ret))))
@[go_sem] def c121_15_wp:=wp_of c121_15.eq_1
@[go_sem] def c121_24_wp:=wp_of c121_24.eq_1
def c121:AFn:=⟨27,[.t 2],c121_24⟩
theorem c121_ok:compF Tryz.prog Tryz.f121=some c121:=by kernel_rfl
theorem a121 {args:List AV} {σ:ASt} {R:AV->ASt->Prop} (hl:args.length<=27) (h:c121_24.wp Tryz.prog (RetQ [.t 2] R) (init args) σ):ACalls Tryz.prog 121 args σ R:=acalls_of Tryz.func121 c121_ok hl h
/-! 187: tabular/addr.Column -/
def c187_18:ACode := .seq (.ops [ oq 11 (.bin .lss (.t 10) (.t 9))]) (.seq (.cond (.t 11) .skip (.exit 0)) (.seq (.block 1 (.seq (.ops [ oq 12 (.ia 1 (.t 8) (.t 10)),oq 13 (.ld none (.t 12)),oq 6 (.mv (.t 13))]) (.seq (.seq (.ops [ oq 14 (.mv (.t 6)),oe 15 (.call 186 [(.t 14)]),oq 16 (.bin .eql (.t 15) (.v (.int .i64 0))),oq 17 (.mv (.t 16)),⟨some 18,some (17,false),.q (.mv (.t 4)),[]⟩,⟨some 19,some (17,false),.q (.bin .gtr (.t 18) (.v (.int .i64 700))),[]⟩,oq 20 (.pick (.t 17) (.v (.bool true)) (.t 19))]) (.cond (.t 20) (.seq (.ops [ oq 2 (.mv (.v (.int .i64 0))),oq 3 (.mv (.v (.bool false)))]) .ret) .skip)) (.ops [ oq 21 (.mv (.t 4)),oq 22 (.bin .mul (.v (.int .i64 26)) (.t 21)),oq 23 (.mv (.t 6)),oe 24 (.call 186 [(.t 23)]),oq 25 (.bin .add (.t 22) (.t 24)),oq 4 (.mv (.t 25))])))) (.ops [ oq 26 (.bin .add (.t 10) (.v (.int .i64 1))),oq 10 (.mv (.t 26))])))
def c187_32:ACode := .seq (.ops [ oq 2 (.mv (.v (.int .i64 0))),oq 3 (.mv (.v (.bool false)))]) (.seq (.ops [ oq 4 (.mv (.v (.int .i64 0)))]) (.seq (.seq (.ops [ oq 7 (.mv (.t 0)),oe 8 (.s2b (.t 7)),oq 9 (.len (.t 8)),oq 10 (.mv (.v (.int .i64 0)))]) (.block 0 (.loop c187_18))) (.seq (.seq (.ops [ oq 27 (.mv (.t 4)),oq 28 (.bin .lss (.t 27) (.v (.int .i64 1))),oq 29 (.mv (.t 28)),⟨some 30,some (29,false),.q (.mv (.t 4)),[]⟩,⟨some 31,some (29,false),.q (.bin .gtr (.t 30) (.v (.int .i64 700))),[]⟩,oq 32 (.pick (.t 29) (.v (.bool true)) (.t 31))]) (.cond (.t 32) (.seq (.ops [ oq 2 (.mv (.v (.int .i64 0))),oq 3 (.mv (.v (.bool false)))]) .ret) .skip)) (.seq (.ops [ oq 33 (.mv (.t 4)),oq 34 (.bin .sub (.t 33) (.v (.int .i64 1))),oq 2 (.mv (.t 34)),oq 3 (.mv (.v (.bool true)))]) .ret))))
@[go_sem] def c187_18_wp:=wp_of c187_18.eq_1
@[go_sem] def c187_32_wp:=wp_of c187_32.eq_1
def c187:AFn:=⟨35,[.t 2,.t 3],c187_32⟩
theorem c187_ok:compF Tryz.prog Tryz.f187=some c187:=by kernel_rfl
theorem a187 {args:List AV} {σ:ASt} {R:AV->ASt->Prop} (hl:args.length<=35) (h:c187_32.wp Tryz.prog (RetQ [.t 2,.t 3] R) (init args) σ):ACalls Tryz.prog 187 args σ R:=acalls_of Tryz.func187 c187_ok hl h
end Go.A
namespace Go.A
open Go.Proofs
def lettersF:Nat->Nat->List UInt8
 | 0,_ => []
 | k+1,n=>if n=0 then [] else lettersF k ((n-1) / 26) ++ [UInt8.ofNat (65+(n-1) % 26)]
def lettersP (col:Int):List UInt8:=if col<0\/700<=col then [] else lettersF 4 (col+1).toNat
theorem letters_ok (col:Int):Pure Tryz.prog 121 [.int .i64 col] (.str (lettersP col)):=by
 intro σ
 obtain ⟨q,hq⟩:∃ q,lettersP col=q:=⟨_,rfl⟩
 rw [hq]
 unfold lettersP at hq
 refine a121 (by simp) ?_
 by_cases hc:col<0\/700<=col
 ·rw [if_pos hc] at hq
  subst hq
  repeat' (first|(simp (disch:=first|assumption|omega) only [go_sem,reduceCtorEq,Nat.reduceEqDiff,↓reduceIte])|with_reducible refine gC_d (fun h=>?_) (fun h=>?_)|with_reducible refine gC_dn (fun h=>?_) (fun h=>?_)|with_reducible refine condC_d (fun h=>?_) (fun h=>?_)|with_reducible refine condC_n (fun h=>?_) (fun h=>?_)|with_reducible refine condC_b (fun h=>?_) (fun h=>?_)|with_reducible refine boxC_by ?_ fun b hb=>?_)
  all_goals first|(exfalso;omega)|exact retC_by (Drop.refl _) (.refl _) ⟨rfl,rfl⟩
 ·rw [if_neg hc] at hq
  obtain ⟨N,hN⟩:∃ N,(col+1).toNat=N:=⟨_,rfl⟩
  rw [hN] at hq
  have h0:¬ col<0:=by omega
  have h1:¬ 700<=col:=by omega
  have hc1:col+1=(N:Int):=by omega
  simp (disch:=first|assumption|omega) only [go_sem,reduceCtorEq,Nat.reduceEqDiff,↓reduceIte,h0,h1,hc1]
  refine wp_loop_by (fun (i:Nat×Nat×List UInt8) a σ'=>i.2.1<26 ^ i.1/\i.1<=4/\i.2.2.length+i.1=4/\q=lettersF i.1 i.2.1++i.2.2/\a 0 = .int .i64 i.2.1/\a 3 = .str i.2.2/\σ'=σ) (fun i=>i.1) (4,N,[]) (Dr.now ⟨by dsimp only;omega,by simp,by simp,by simp [hq],?_,?_,rfl⟩) ?_
  ·simp (disch:=first|assumption|omega) only [go_sem,↓reduceIte]
  ·simp (disch:=first|assumption|omega) only [go_sem,reduceCtorEq,Nat.reduceEqDiff,↓reduceIte]
  rintro ⟨k,n,s⟩ a σ1 ⟨hn,hk,hs,hqe,h0,h3,rfl⟩
  dsimp only at hn hk hs hqe h0 h3
  by_cases hz:n=0
  ·subst hz
   simp (disch:=first|assumption|omega) only [go_sem,Nat.reduceEqDiff,Int.reduceLT,↓reduceIte,h0,h3]
   refine retC_by (Drop.refl _) (.refl _) ⟨?_,rfl⟩
   have e:lettersF k 0 = []:=by cases k<;>rfl
   rw [hqe,e];rfl
  ·obtain ⟨m,rfl⟩:∃ m,n=m+1:=⟨n-1,by omega⟩
   have hb:(m:Int)<456976:=by
    have:=Nat.pow_le_pow_right (n:=26) (by omega) hk
    omega
   have hp:0<(m:Int)+1:=by omega
   have e1:(m:Int)+1-1=m:=by omega
   have e2:(m:Int).tmod 26=((m % 26:Nat):Int):=rfl
   have e3:(m:Int).tdiv 26=((m / 26:Nat):Int):=rfl
   have e4:(65+((m % 26:Nat):Int)).toNat=65+m % 26:=by omega
   have hk0:k≠0:=by rintro rfl;simp at hn
   obtain ⟨k,rfl⟩:∃ k',k=k'+1:=⟨k-1,by omega⟩
   have hs1:1+s.length<=9223372036854775807:=by omega
   simp (disch:=first|assumption|omega) only [go_sem,reduceCtorEq,Nat.reduceEqDiff,↓reduceIte,Bool.true_and,h0,h3,hp,e1,e2,e3,e4]
   refine ⟨(k,m / 26,UInt8.ofNat (65+m % 26)::s),by dsimp only;omega,Dr.now ⟨?_,by dsimp only;omega,by simp;omega,?_,?_,?_,rfl⟩⟩
   ·dsimp only
    rw [Nat.pow_succ] at hn
    omega
   ·dsimp only
    rw [hqe,lettersF,if_neg (by omega)]
    simp
   ·simp (disch:=first|assumption|omega) only [go_sem,↓reduceIte]
   ·simp (disch:=first|assumption|omega) only [go_sem,reduceCtorEq,Nat.reduceEqDiff,↓reduceIte]
def colF:Int->List UInt8->Option Int
 | n,[]=>some n
 | n,c::cs=>if letterP c.toNat=0\/700<n then none else colF (26*n+letterP c.toNat) cs
def columnP (l:List UInt8):Int×Bool:=
 match colF 0 l with
 | some n=>if n<1\/700<n then (0,false) else (n-1,true)
 | none=>(0,false)
theorem letterP_bd (c:Int):0<=letterP c/\letterP c<=26:=by
 unfold letterP
 split
 ·omega
 ·split<;>omega
theorem column_ok (l:List UInt8) (hl:l.length<=9223372036854775807):Pure Tryz.prog 187 [.str l] (.tuple [.int .i64 (columnP l).1,.bool (columnP l).2]):=by
 intro σ
 obtain ⟨q,hq⟩:∃ q,columnP l=q:=⟨_,rfl⟩
 rw [hq]
 refine a187 (by simp) ?_
 simp (disch:=first|assumption|omega) only [go_sem,reduceCtorEq,↓reduceIte]
 refine s2b_shr ?_
 simp (disch:=first|assumption|omega) only [go_sem,↓reduceIte]
 refine wp_loop_by (fun (i:Nat×Int) a σ'=>i.1<=l.length/\0<=i.2/\i.2<=18226/\colF 0 l=colF i.2 (l.drop i.1)/\a 4 = .int .i64 i.2/\a 8 = .sl .shr (bytesAV l)/\a 9 = .int .i64 l.length/\a 10 = .int .i64 i.1/\a 2 = .int .i64 0/\a 3 = .bool false/\σ'=σ) (fun i=>l.length-i.1) (0,0) (Dr.now ⟨by simp,by simp,by simp,rfl,?_,?_,?_,?_,?_,?_,rfl⟩) ?_
 ·simp (disch:=first|assumption|omega) only [go_sem,Nat.reduceEqDiff,↓reduceIte]
 ·simp (disch:=first|assumption|omega) only [go_sem,Nat.reduceEqDiff,↓reduceIte]
 ·simp (disch:=first|assumption|omega) only [go_sem,Nat.reduceEqDiff,↓reduceIte]
 ·simp (disch:=first|assumption|omega) only [go_sem,↓reduceIte]
 ·simp (disch:=first|assumption|omega) only [go_sem,Nat.reduceEqDiff,↓reduceIte]
 ·simp (disch:=first|assumption|omega) only [go_sem,Nat.reduceEqDiff,↓reduceIte]
 rintro ⟨i,n⟩ a σ1 ⟨hi,hn0,hn1,hcol,h4,h8,h9,h10,h2,h3,rfl⟩
 dsimp only at hi hn0 hn1 hcol h4 h10
 by_cases hlt:i<l.length
 ·have hidx : l[i]? = some (l[i]'hlt) := List.getElem?_eq_getElem hlt
  obtain ⟨c, hc⟩ : ∃ c, l[i]'hlt = c := ⟨_, rfl⟩
  rw [hc] at hidx
  have hcb:(c.toNat:Int)<=255:=by have:=c.toNat_lt;omega
  have hbd:=letterP_bd c.toNat
  rw [List.drop_eq_getElem_cons hlt,hc,colF] at hcol
  repeat' (first|(simp (disch:=first|assumption|omega) only [go_sem,Nat.reduceEqDiff,↓reduceIte,h4,h8,h9,h10,hidx])|refine (letter_ok c.toNat (by omega) hcb).use ?_|with_reducible refine gC_d (fun h=>?_) (fun h=>?_)|with_reducible refine gC_dn (fun h=>?_) (fun h=>?_)|with_reducible refine condC_d (fun h=>?_) (fun h=>?_)|with_reducible refine condC_n (fun h=>?_) (fun h=>?_)|with_reducible refine condC_b (fun h=>?_) (fun h=>?_)|with_reducible refine boxC_by ?_ fun b hb=>?_)
  ·rw [if_pos (by omega)] at hcol
   unfold columnP at hq
   rw [hcol] at hq
   subst hq
   exact retC_by (Drop.refl _) (.refl _) ⟨rfl,rfl⟩
  ·rename_i hz
   rw [if_neg (by omega)] at hcol
   refine ⟨(i+1,26*n+letterP c.toNat),by dsimp only;omega,Dr.now ⟨by dsimp only;omega,by dsimp only;omega,by dsimp only;omega,hcol,?_,?_,?_,?_,?_,?_,rfl⟩⟩
   ·simp (disch:=first|assumption|omega) only [go_sem,Nat.reduceEqDiff,↓reduceIte]
   ·simp (disch:=first|assumption|omega) only [go_sem,Nat.reduceEqDiff,↓reduceIte,h8]
   ·simp (disch:=first|assumption|omega) only [go_sem,Nat.reduceEqDiff,↓reduceIte,h9]
   ·simp (disch:=first|assumption|omega) only [go_sem,↓reduceIte]
   ·simp (disch:=first|assumption|omega) only [go_sem,Nat.reduceEqDiff,↓reduceIte,h2]
   ·simp (disch:=first|assumption|omega) only [go_sem,Nat.reduceEqDiff,↓reduceIte,h3]
  ·rw [if_pos (by omega)] at hcol
   unfold columnP at hq
   rw [hcol] at hq
   subst hq
   exact retC_by (Drop.refl _) (.refl _) ⟨rfl,rfl⟩
 ·have e:l.drop i = []:=List.drop_eq_nil_of_le (by omega)
  rw [e,colF] at hcol
  unfold columnP at hq
  rw [hcol] at hq
  repeat' (first|(simp (disch:=first|assumption|omega) only [go_sem,Nat.reduceEqDiff,↓reduceIte,h4,h9,h10])|with_reducible refine gC_d (fun h=>?_) (fun h=>?_)|with_reducible refine gC_dn (fun h=>?_) (fun h=>?_)|with_reducible refine condC_d (fun h=>?_) (fun h=>?_)|with_reducible refine condC_n (fun h=>?_) (fun h=>?_)|with_reducible refine condC_b (fun h=>?_) (fun h=>?_)|with_reducible refine boxC_by ?_ fun b hb=>?_)
  all_goals refine retC_by (Drop.refl _) (.refl _) ⟨?_,rfl⟩
  all_goals (simp only [resV_two] at *;split at hq)<;>first|(subst hq;rfl)|(exfalso;omega)
end Go.A
namespace Go.A
open Go.Proofs
/-! 173: tabular/addr.Read -/
def c173_15:ACode := .seq (.seq (.ops [ oq 25 (.mv (.t 5)),oq 26 (.mv (.t 0)),oq 27 (.lenS (.t 26)),oq 28 (.bin .lss (.t 25) (.t 27)),oq 29 (.mv (.t 28)),⟨some 30,some (29,true),.q (.mv (.t 0)),[]⟩,⟨some 31,some (29,true),.q (.mv (.t 5)),[]⟩,⟨some 32,some (29,true),.q (.idx (.t 30) (.t 31)),[]⟩,⟨some 33,some (29,true),.e (.call 186 [(.t 32)]),[]⟩,⟨some 34,some (29,true),.q (.bin .gtr (.t 33) (.v (.int .i64 0))),[]⟩,oq 35 (.pick (.t 29) (.t 34) (.v (.bool false)))]) (.cond (.t 35) .skip (.exit 0))) (.block 1 (.ops [ oq 36 (.mv (.t 5)),oq 37 (.bin .add (.t 36) (.v (.int .i64 1))),oq 5 (.mv (.t 37))]))
def c173_38:ACode := .seq (.seq (.ops [ oq 63 (.mv (.t 5)),oq 64 (.mv (.t 0)),oq 65 (.lenS (.t 64)),oq 66 (.bin .lss (.t 63) (.t 65)),oq 67 (.mv (.t 66)),⟨some 68,some (67,true),.q (.mv (.t 0)),[]⟩,⟨some 69,some (67,true),.q (.mv (.t 5)),[]⟩,⟨some 70,some (67,true),.q (.idx (.t 68) (.t 69)),[]⟩,⟨some 71,some (67,true),.q (.bin .geq (.t 70) (.v (.int .u8 48))),[]⟩,oq 72 (.pick (.t 67) (.t 71) (.v (.bool false))),oq 73 (.mv (.t 72)),⟨some 74,some (73,true),.q (.mv (.t 0)),[]⟩,⟨some 75,some (73,true),.q (.mv (.t 5)),[]⟩,⟨some 76,some (73,true),.q (.idx (.t 74) (.t 75)),[]⟩,⟨some 77,some (73,true),.q (.bin .leq (.t 76) (.v (.int .u8 57))),[]⟩,oq 78 (.pick (.t 73) (.t 77) (.v (.bool false)))]) (.cond (.t 78) .skip (.exit 2))) (.block 3 (.seq (.ops [ oq 79 (.mv (.t 9)),oq 80 (.bin .mul (.v (.int .i64 10)) (.t 79)),oq 81 (.mv (.t 0)),oq 82 (.mv (.t 5)),oq 83 (.idx (.t 81) (.t 82)),oq 84 (.bin .sub (.t 83) (.v (.int .u8 48))),oq 85 (.conv .i64 (.t 84)),oq 86 (.bin .add (.t 80) (.t 85)),oq 87 (.mnx false (.t 86) (.v (.int .i64 3001))),oq 9 (.mv (.t 87))]) (.ops [ oq 88 (.mv (.t 5)),oq 89 (.bin .add (.t 88) (.v (.int .i64 1))),oq 5 (.mv (.t 89))])))
def c173_50:ACode := .seq (.seq (.ops [ oq 90 (.mv (.t 9)),oq 91 (.bin .lss (.t 90) (.v (.int .i64 1))),oq 92 (.mv (.t 91)),⟨some 93,some (92,false),.q (.mv (.t 9)),[]⟩,⟨some 94,some (92,false),.q (.bin .gtr (.t 93) (.v (.int .i64 3000))),[]⟩,oq 95 (.pick (.t 92) (.v (.bool true)) (.t 94)),oq 96 (.mv (.t 95)),⟨some 97,some (96,false),.q (.mv (.t 0)),[]⟩,⟨some 98,some (96,false),.q (.mv (.t 10)),[]⟩,⟨some 99,some (96,false),.q (.idx (.t 97) (.t 98)),[]⟩,⟨some 100,some (96,false),.q (.bin .eql (.t 99) (.v (.int .u8 48))),[]⟩,oq 101 (.pick (.t 96) (.v (.bool true)) (.t 100)),oq 102 (.mv (.t 101)),⟨some 103,some (102,false),.q (.mv (.t 0)),[]⟩,⟨some 104,some (102,false),.q (.mv (.t 5)),[]⟩,⟨some 105,some (102,false),.e (.call 188 [(.t 103),(.t 104)]),[]⟩,⟨some 106,some (102,false),.e (.call 186 [(.t 105)]),[]⟩,⟨some 107,some (102,false),.q (.bin .gtr (.t 106) (.v (.int .i64 0))),[]⟩,oq 108 (.pick (.t 102) (.v (.bool true)) (.t 107)),oq 109 (.mv (.t 108)),⟨some 110,some (109,false),.q (.mv (.t 0)),[]⟩,⟨some 111,some (109,false),.q (.mv (.t 5)),[]⟩,⟨some 112,some (109,false),.e (.call 188 [(.t 110),(.t 111)]),[]⟩,⟨some 113,some (109,false),.q (.bin .eql (.t 112) (.v (.int .u8 95))),[]⟩,oq 114 (.pick (.t 109) (.v (.bool true)) (.t 113))]) (.cond (.t 114) (.seq (.ops [ oq 115 (.build [(.int .i64 0),(.int .i64 0),(.bool false),(.bool false)] []),oz (.store 4 (.t 2) (.t 115)),oq 3 (.mv (.v (.int .i64 0)))]) .ret) .skip)) (.seq (.ops [ oq 116 (.mv (.t 9)),oq 117 (.bin .sub (.t 116) (.v (.int .i64 1))),oq 118 (.mv (.t 7)),oq 119 (.fa 0 (.t 4)),oz (.store 1 (.t 119) (.t 117)),oq 120 (.fa 1 (.t 4)),oz (.store 1 (.t 120) (.t 118))]) (.seq (.ops [ oq 121 (.ld (some 4) (.t 4)),oq 122 (.mv (.t 5)),oz (.store 4 (.t 2) (.t 121)),oq 3 (.mv (.t 122))]) .ret))
def c173_52:ACode := .seq (.ops [ oq 62 (.mv (.t 5)),oq 9 (.mv (.v (.int .i64 0))),oq 10 (.mv (.t 62))]) (.seq (.block 2 (.loop c173_38)) c173_50)
def c173_53:ACode := .seq (.seq (.ops [ oq 49 (.mv (.t 5)),oq 50 (.mv (.t 0)),oq 51 (.lenS (.t 50)),oq 52 (.bin .lss (.t 49) (.t 51)),oq 53 (.mv (.t 52)),⟨some 54,some (53,true),.q (.mv (.t 0)),[]⟩,⟨some 55,some (53,true),.q (.mv (.t 5)),[]⟩,⟨some 56,some (53,true),.q (.idx (.t 54) (.t 55)),[]⟩,⟨some 57,some (53,true),.q (.bin .eql (.t 56) (.v (.int .u8 36))),[]⟩,oq 58 (.pick (.t 53) (.t 57) (.v (.bool false)))]) (.cond (.t 58) (.seq (.ops [ oq 59 (.fa 2 (.t 4)),oz (.store 1 (.t 59) (.v (.bool true)))]) (.ops [ oq 60 (.mv (.t 5)),oq 61 (.bin .add (.t 60) (.v (.int .i64 1))),oq 5 (.mv (.t 61))])) .skip)) c173_52
def c173_54:ACode := .seq (.seq (.ops [ oq 46 (.mv (.t 8)),oq 47 (.un .not (.t 46))]) (.cond (.t 47) (.seq (.ops [ oq 48 (.build [(.int .i64 0),(.int .i64 0),(.bool false),(.bool false)] []),oz (.store 4 (.t 2) (.t 48)),oq 3 (.mv (.v (.int .i64 0)))]) .ret) .skip)) c173_53
def c173_55:ACode := .seq (.ops [ oq 39 (.mv (.t 0)),oq 40 (.mv (.t 6)),oq 41 (.mv (.t 5)),oq 42 (.sls (true,0) (.t 39) (.t 40) (.t 41)),oe 43 (.call 187 [(.t 42)]),oq 38 (.mv (.t 43)),oq 44 (.ext 0 (.t 38)),oq 45 (.ext 1 (.t 38)),oq 7 (.mv (.t 44)),oq 8 (.mv (.t 45))]) c173_54
def c173_57:ACode := .seq (.ops [ oq 24 (.mv (.t 5)),oq 6 (.mv (.t 24))]) (.seq (.block 0 (.loop c173_15)) c173_55)
def c173_58:ACode := .seq (.seq (.ops [ oq 11 (.mv (.t 5)),oq 12 (.mv (.t 0)),oq 13 (.lenS (.t 12)),oq 14 (.bin .lss (.t 11) (.t 13)),oq 15 (.mv (.t 14)),⟨some 16,some (15,true),.q (.mv (.t 0)),[]⟩,⟨some 17,some (15,true),.q (.mv (.t 5)),[]⟩,⟨some 18,some (15,true),.q (.idx (.t 16) (.t 17)),[]⟩,⟨some 19,some (15,true),.q (.bin .eql (.t 18) (.v (.int .u8 36))),[]⟩,oq 20 (.pick (.t 15) (.t 19) (.v (.bool false)))]) (.cond (.t 20) (.seq (.ops [ oq 21 (.fa 3 (.t 4)),oz (.store 1 (.t 21) (.v (.bool true)))]) (.ops [ oq 22 (.mv (.t 5)),oq 23 (.bin .add (.t 22) (.v (.int .i64 1))),oq 5 (.mv (.t 23))])) .skip)) c173_57
def c173_59:ACode := .seq (.ops [ oq 5 (.mv (.v (.int .i64 0)))]) c173_58
def c173_60:ACode := .seq (.ops [ oe 4 (.alloc [(.int .i64 0),(.int .i64 0),(.bool false),(.bool false)])]) c173_59
def c173_61:ACode := .seq (.ops [ oe 2 (.alloc [(.int .i64 0),(.int .i64 0),(.bool false),(.bool false)]),oq 3 (.mv (.v (.int .i64 0)))]) c173_60
@[go_sem] def c173_15_wp:=wp_of c173_15.eq_1
@[go_sem] def c173_38_wp:=wp_of c173_38.eq_1
@[go_sem] def c173_50_wp:=wp_of c173_50.eq_1
@[go_sem] def c173_52_wp:=wp_of c173_52.eq_1
@[go_sem] def c173_53_wp:=wp_of c173_53.eq_1
@[go_sem] def c173_54_wp:=wp_of c173_54.eq_1
@[go_sem] def c173_55_wp:=wp_of c173_55.eq_1
@[go_sem] def c173_57_wp:=wp_of c173_57.eq_1
@[go_sem] def c173_58_wp:=wp_of c173_58.eq_1
@[go_sem] def c173_59_wp:=wp_of c173_59.eq_1
@[go_sem] def c173_60_wp:=wp_of c173_60.eq_1
@[go_sem] def c173_61_wp:=wp_of c173_61.eq_1
def c173:AFn:=⟨123,[.c 2 (some 4),.t 3],c173_61⟩
theorem c173_ok:compF Tryz.prog Tryz.f173=some c173:=by kernel_rfl
theorem a173 {args:List AV} {σ:ASt} {R:AV->ASt->Prop} (hl:args.length<=123) (h:c173_61.wp Tryz.prog (RetQ [.c 2 (some 4),.t 3] R) (init args) σ):ACalls Tryz.prog 173 args σ R:=acalls_of Tryz.func173 c173_ok hl h
/-! 188: tabular/addr.at -/
def c188_9:ACode := .seq (.ops [ oq 4 (.mv (.v (.int .u8 0)))]) (.seq (.seq (.ops [ oq 5 (.mv (.t 1)),oq 6 (.mv (.t 0)),oq 7 (.lenS (.t 6)),oq 8 (.bin .lss (.t 5) (.t 7))]) (.cond (.t 8) (.seq (.ops [ oq 9 (.mv (.t 0)),oq 10 (.mv (.t 1)),oq 11 (.idx (.t 9) (.t 10)),oq 4 (.mv (.t 11))]) .ret) .skip)) (.seq (.ops [ oq 4 (.mv (.v (.int .u8 0)))]) .ret))
@[go_sem] def c188_9_wp:=wp_of c188_9.eq_1
def c188:AFn:=⟨12,[.t 4],c188_9⟩
theorem c188_ok:compF Tryz.prog Tryz.f188=some c188:=by kernel_rfl
theorem a188 {args:List AV} {σ:ASt} {R:AV->ASt->Prop} (hl:args.length<=12) (h:c188_9.wp Tryz.prog (RetQ [.t 4] R) (init args) σ):ACalls Tryz.prog 188 args σ R:=acalls_of Tryz.func188 c188_ok hl h
end Go.A
namespace Go.A
open Go.Proofs
def atP (l:List UInt8) (i:Nat):Int:=match l[i]? with
 | some c=>c.toNat
 | none=>0
theorem atP_bd (l:List UInt8) (i:Nat):0<=atP l i/\atP l i<=255:=by
 unfold atP
 split
 ·rename_i c _;have:=c.toNat_lt;omega
 ·omega
theorem at_ok (l:List UInt8) (i:Nat) (hl:l.length<=9223372036854775807) (hi:i<=l.length):Pure Tryz.prog 188 [.str l,.int .i64 i] (.int .u8 (atP l i)):=by
 intro σ
 refine a188 (by simp) ?_
 unfold atP
 by_cases hlt:i<l.length
 ·have hidx : l[i]? = some (l[i]'hlt) := List.getElem?_eq_getElem hlt
  rw [hidx]
  simp (disch:=first|assumption|omega) only [go_sem,reduceCtorEq,Nat.reduceEqDiff,↓reduceIte,hidx]
  exact retC_by (Drop.refl _) (.refl _) ⟨rfl,rfl⟩
 ·rw [List.getElem?_eq_none (by omega)]
  simp (disch:=first|assumption|omega) only [go_sem,reduceCtorEq,Nat.reduceEqDiff,↓reduceIte]
  exact retC_by (Drop.refl _) (.refl _) ⟨rfl,rfl⟩
def runL (p:UInt8->Bool):List UInt8->Nat
 | []=>0
 | c::cs=>if p c then runL p cs+1 else 0
theorem runL_le (p:UInt8->Bool):∀ l,runL p l<=l.length
 | []=>Nat.le_refl _
 | c::cs=>by
   have:=runL_le p cs
   unfold runL
   split<;>simp<;>omega
def isL (c:UInt8):Bool:=decide (0<letterP c.toNat)
def isD (c:UInt8):Bool:=decide (48<=c.toNat/\c.toNat<=57)
def numF:Int->List UInt8->Int
 | n,[]=>n
 | n,c::cs=>if isD c then numF (min (10*n+(c.toNat-48)) 3001) cs else n
def readQ (l:List UInt8) (i:Nat) (col:Int) (ar ac:Bool):Ref×Int:=
 if numF 0 (l.drop i)<1\/3000<numF 0 (l.drop i)\/atP l i=48\/0<letterP (atP l (i+runL isD (l.drop i)))\/atP l (i+runL isD (l.drop i))=95 then (.zero,0)
 else (⟨numF 0 (l.drop i)-1,col,ar,ac⟩,(i+runL isD (l.drop i):Nat))
set_option maxHeartbeats 1000000 in
theorem read2 (l:List UInt8) (hl:l.length<=9223372036854775000) (σ:ASt) (b0 b1:Nat) (hb0:σ b0=none) (hb1:σ b1=none) (n1:b0≠b1) (i2:Nat) (hi2:i2<=l.length) (col:Int) (ar ac:Bool) (q:Ref×Int) (hq:readQ l i2 col ar ac=q)
  (a:AFr) (h0:a 0 = .str l) (h2:a 2 = .ptr b0 0) (h4:a 4 = .ptr b1 0) (h5:a 5 = .int .i64 i2) (h7:a 7 = .int .i64 col) :
  ACode.wp Tryz.prog c173_52 (RetQ [.c 2 (some 4),.t 3] fun v σ'=>v = .tuple [refAV q.1,.int .i64 q.2]/\σ'=σ) a
   ((σ.set b0 (some (.obj [.int .i64 0,.int .i64 0,.bool false,.bool false]))).set b1 (some (.obj [.int .i64 0,.int .i64 0,.bool ar,.bool ac]))):=by
 have n2:b1≠b0:=Ne.symm n1
 obtain ⟨F,hF⟩:∃ F,F=ACode.wp Tryz.prog c173_50:=⟨_,rfl⟩
 have fin:∀ (i:Nat) (n:Int) (a:AFr),i2<=i->i<=l.length->0<=n->n<=3001->(n=0\/i2<i)->i2+runL isD (l.drop i2)=i->numF 0 (l.drop i2)=n →
   a 0 = .str l->a 2 = .ptr b0 0->a 4 = .ptr b1 0->a 5 = .int .i64 i->a 7 = .int .i64 col->a 9 = .int .i64 n->a 10 = .int .i64 i2 →
   F (RetQ [.c 2 (some 4),.t 3] fun v σ'=>v = .tuple [refAV q.1,.int .i64 q.2]/\σ'=σ) a
    ((σ.set b0 (some (.obj [.int .i64 0,.int .i64 0,.bool false,.bool false]))).set b1 (some (.obj [.int .i64 0,.int .i64 0,.bool ar,.bool ac]))):=by
  rw [hF]
  intro i n a hi hil hn0 hn1 hni hrun hnum h0 h2 h4 h5 h7 h9 h10
  unfold readQ at hq
  rw [hrun,hnum] at hq
  by_cases hn:n<1
  ·rw [if_pos (.inl hn)] at hq
   subst hq
   repeat' (first|(simp (disch:=first|assumption|omega) only [go_sem,Nat.reduceEqDiff,Nat.reduceAdd,Nat.reduceLeDiff,↓reduceIte,Bool.true_and,h2,h9,hn,refAV])|with_reducible refine gC_d (fun h=>?_) (fun h=>?_)|with_reducible refine gC_dn (fun h=>?_) (fun h=>?_)|with_reducible refine condC_d (fun h=>?_) (fun h=>?_)|with_reducible refine condC_n (fun h=>?_) (fun h=>?_)|with_reducible refine condC_b (fun h=>?_) (fun h=>?_)|with_reducible refine boxC_by ?_ fun b hb=>?_)
   all_goals exact retC_by (by repeat' (first|exact Drop.refl _|with_reducible refine Drop.off ?_ (by assumption))) (.refl _) ⟨rfl,rfl⟩
  ·have hidx : l[i2]? = some (l[i2]'(by omega)) := List.getElem?_eq_getElem (by omega)
   obtain ⟨c, hc⟩ : ∃ c, l[i2]'(by omega) = c := ⟨_, rfl⟩
   rw [hc] at hidx
   have hat:atP l i2=c.toNat:=by unfold atP;rw [hidx]
   rw [hat] at hq
   have hb:=atP_bd l i
   repeat' (first|(simp (disch:=first|assumption|omega) only [go_sem,reduceCtorEq,Nat.reduceEqDiff,Nat.reduceAdd,Nat.reduceLeDiff,↓reduceIte,Bool.true_and,h0,h2,h4,h5,h7,h9,h10,hn,hidx,refAV])|refine (at_ok l i (by omega) hil).use ?_|refine (letter_ok _ hb.1 hb.2).use ?_|with_reducible refine gC_d (fun h=>?_) (fun h=>?_)|with_reducible refine gC_dn (fun h=>?_) (fun h=>?_)|with_reducible refine condC_d (fun h=>?_) (fun h=>?_)|with_reducible refine condC_n (fun h=>?_) (fun h=>?_)|with_reducible refine condC_b (fun h=>?_) (fun h=>?_)|with_reducible refine boxC_by ?_ fun b hb=>?_)
   all_goals first
    | (rw [if_pos (by omega)] at hq
       subst hq
       exact retC_by (by repeat' (first|exact Drop.refl _|with_reducible refine Drop.off ?_ (by assumption))) (.refl _) ⟨rfl,rfl⟩)
    | (rw [if_neg (by omega)] at hq
       subst hq
       exact retC_by (by repeat' (first|exact Drop.refl _|with_reducible refine Drop.off ?_ (by assumption))) (.refl _) ⟨rfl,rfl⟩)
 simp (disch:=first|assumption|omega) only [go_sem,Nat.reduceEqDiff,↓reduceIte,h5]
 rw [<-hF]
 refine wp_loop_by (fun (i:Nat×Int) a σ'=>i2<=i.1/\i.1<=l.length/\0<=i.2/\i.2<=3001/\(i.2=0\/i2<i.1)/\i2+runL isD (l.drop i2)=i.1+runL isD (l.drop i.1)/\numF 0 (l.drop i2)=numF i.2 (l.drop i.1) ∧
  a 0 = .str l/\a 2 = .ptr b0 0/\a 4 = .ptr b1 0/\a 5 = .int .i64 i.1/\a 7 = .int .i64 col/\a 9 = .int .i64 i.2/\a 10 = .int .i64 i2 ∧
  σ'=(σ.set b0 (some (.obj [.int .i64 0,.int .i64 0,.bool false,.bool false]))).set b1 (some (.obj [.int .i64 0,.int .i64 0,.bool ar,.bool ac]))) (fun i=>l.length-i.1) (i2,0)
  (Dr.now ⟨Nat.le_refl _,hi2,by simp,by simp,.inl rfl,rfl,rfl,?_,?_,?_,?_,?_,?_,?_,rfl⟩) ?_
 ·simp (disch:=first|assumption|omega) only [go_sem,reduceCtorEq,↓reduceIte,h0]
 ·simp (disch:=first|assumption|omega) only [go_sem,Nat.reduceEqDiff,↓reduceIte,h2]
 ·simp (disch:=first|assumption|omega) only [go_sem,Nat.reduceEqDiff,↓reduceIte,h4]
 ·simp (disch:=first|assumption|omega) only [go_sem,Nat.reduceEqDiff,↓reduceIte,h5]
 ·simp (disch:=first|assumption|omega) only [go_sem,Nat.reduceEqDiff,↓reduceIte,h7]
 ·simp (disch:=first|assumption|omega) only [go_sem,Nat.reduceEqDiff,↓reduceIte]
 ·simp (disch:=first|assumption|omega) only [go_sem,↓reduceIte]
 clear h0 h2 h4 h5 h7
 rintro ⟨i,n⟩ a σ1 ⟨hi,hil,hn0,hn1,hni,hrun,hnum,h0,h2,h4,h5,h7,h9,h10,rfl⟩
 dsimp only at hi hil hn0 hn1 hni hrun hnum h5 h9
 by_cases hlt:i<l.length
 ·have hidx : l[i]? = some (l[i]'hlt) := List.getElem?_eq_getElem hlt
  obtain ⟨c, hc⟩ : ∃ c, l[i]'hlt = c := ⟨_, rfl⟩
  rw [hc] at hidx
  have hcb:(c.toNat:Int)<=255:=by have:=c.toNat_lt;omega
  rw [List.drop_eq_getElem_cons hlt,hc,runL] at hrun
  rw [List.drop_eq_getElem_cons hlt,hc,numF] at hnum
  have hat:atP l i=c.toNat:=by unfold atP;rw [hidx]
  by_cases hd:48<=(c.toNat:Int)/\(c.toNat:Int)<=57
  ·have hD:isD c=true:=by unfold isD;simp;omega
   rw [if_pos hD] at hrun hnum
   have hd1:=hd.1
   have hd2:=hd.2
   simp (disch:=first|assumption|omega) only [go_sem,reduceCtorEq,Nat.reduceEqDiff,↓reduceIte,h0,h5,h9,hidx,hd1,hd2]
   refine ⟨(i+1,min (10*n+(c.toNat-48)) 3001),by dsimp only;omega,Dr.now ⟨by dsimp only;omega,by dsimp only;omega,by dsimp only;omega,by dsimp only;omega,by dsimp only;omega,by dsimp only;omega,hnum,?_,?_,?_,?_,?_,?_,?_,rfl⟩⟩
   ·simp (disch:=first|assumption|omega) only [go_sem,reduceCtorEq,↓reduceIte,h0]
   ·simp (disch:=first|assumption|omega) only [go_sem,Nat.reduceEqDiff,↓reduceIte,h2]
   ·simp (disch:=first|assumption|omega) only [go_sem,Nat.reduceEqDiff,↓reduceIte,h4]
   ·simp (disch:=first|assumption|omega) only [go_sem,↓reduceIte]
   ·simp (disch:=first|assumption|omega) only [go_sem,Nat.reduceEqDiff,↓reduceIte,h7]
   ·simp (disch:=first|assumption|omega) only [go_sem,Nat.reduceEqDiff,↓reduceIte]
   ·simp (disch:=first|assumption|omega) only [go_sem,Nat.reduceEqDiff,↓reduceIte,h10]
  ·have hD:¬ isD c=true:=by unfold isD;simp;omega
   rw [if_neg hD] at hrun hnum
   repeat' (first|(simp (disch:=first|assumption|omega) only [go_sem,reduceCtorEq,Nat.reduceEqDiff,↓reduceIte,h0,h5,hidx])|with_reducible refine gC_d (fun h=>?_) (fun h=>?_)|with_reducible refine gC_dn (fun h=>?_) (fun h=>?_)|with_reducible refine condC_d (fun h=>?_) (fun h=>?_)|with_reducible refine condC_n (fun h=>?_) (fun h=>?_)|with_reducible refine condC_b (fun h=>?_) (fun h=>?_)|with_reducible refine boxC_by ?_ fun b hb=>?_)
   all_goals first|(exfalso;omega)|skip
   all_goals refine fin i n _ hi hil hn0 hn1 hni (by omega) hnum ?_ ?_ ?_ ?_ ?_ ?_ ?_<;>simp (disch:=first|assumption|omega) only [go_sem,reduceCtorEq,Nat.reduceEqDiff,↓reduceIte,h0,h2,h4,h5,h7,h9,h10]
 ·have e:l.drop i = []:=List.drop_eq_nil_of_le (by omega)
  rw [e,runL] at hrun
  rw [e,numF] at hnum
  simp (disch:=first|assumption|omega) only [go_sem,reduceCtorEq,Nat.reduceEqDiff,↓reduceIte,h0,h5]
  refine fin i n _ hi hil hn0 hn1 hni (by omega) hnum ?_ ?_ ?_ ?_ ?_ ?_ ?_<;>simp (disch:=first|assumption|omega) only [go_sem,reduceCtorEq,Nat.reduceEqDiff,↓reduceIte,h0,h2,h4,h5,h7,h9,h10]
def readR (l:List UInt8) (i:Nat) (ac:Bool):Ref×Int:=
 if (columnP ((l.take (i+runL isL (l.drop i))).drop i)).2=false then (.zero,0)
 else if atP l (i+runL isL (l.drop i))=36 then readQ l (i+runL isL (l.drop i)+1) (columnP ((l.take (i+runL isL (l.drop i))).drop i)).1 true ac
 else readQ l (i+runL isL (l.drop i)) (columnP ((l.take (i+runL isL (l.drop i))).drop i)).1 false ac
set_option maxHeartbeats 1000000 in
theorem read1 (l:List UInt8) (hl:l.length<=9223372036854775000) (σ:ASt) (b0 b1:Nat) (hb0:σ b0=none) (hb1:σ b1=none) (n1:b0≠b1) (i0:Nat) (hi0:i0<=l.length) (ac:Bool) (q:Ref×Int) (hq:readR l i0 ac=q)
  (a:AFr) (h0:a 0 = .str l) (h2:a 2 = .ptr b0 0) (h4:a 4 = .ptr b1 0) (h5:a 5 = .int .i64 i0) :
  ACode.wp Tryz.prog c173_57 (RetQ [.c 2 (some 4),.t 3] fun v σ'=>v = .tuple [refAV q.1,.int .i64 q.2]/\σ'=σ) a
   ((σ.set b0 (some (.obj [.int .i64 0,.int .i64 0,.bool false,.bool false]))).set b1 (some (.obj [.int .i64 0,.int .i64 0,.bool false,.bool ac]))):=by
 have n2:b1≠b0:=Ne.symm n1
 obtain ⟨F2,hF2⟩:∃ F,F=ACode.wp Tryz.prog c173_52:=⟨_,rfl⟩
 obtain ⟨F3,hF3⟩:∃ F,F=ACode.wp Tryz.prog c173_53:=⟨_,rfl⟩
 obtain ⟨F4,hF4⟩:∃ F,F=ACode.wp Tryz.prog c173_54:=⟨_,rfl⟩
 obtain ⟨F5,hF5⟩:∃ F,F=ACode.wp Tryz.prog c173_55:=⟨_,rfl⟩
 have fin:∀ (i:Nat) (a:AFr),i0<=i->i<=l.length->i0+runL isL (l.drop i0)=i->a 0 = .str l->a 2 = .ptr b0 0->a 4 = .ptr b1 0->a 5 = .int .i64 i->a 6 = .int .i64 i0 →
   F5 (RetQ [.c 2 (some 4),.t 3] fun v σ'=>v = .tuple [refAV q.1,.int .i64 q.2]/\σ'=σ) a
    ((σ.set b0 (some (.obj [.int .i64 0,.int .i64 0,.bool false,.bool false]))).set b1 (some (.obj [.int .i64 0,.int .i64 0,.bool false,.bool ac]))):=by
  intro i a hi hil hrun h0 h2 h4 h5 h6
  unfold readR at hq
  rw [hrun] at hq
  obtain ⟨C,hC⟩:∃ C,columnP ((l.take i).drop i0)=C:=⟨_,rfl⟩
  rw [hC] at hq
  obtain ⟨col,ok⟩:=C
  rw [hF5,c173_55_wp,wp_seq',← hF4]
  simp (disch:=first|assumption|omega) only [go_sem,Nat.reduceEqDiff,↓reduceIte,h0,h5,h6]
  refine (column_ok ((l.take i).drop i0) (by simp;omega)).use ?_
  rw [hC]
  simp (disch:=first|assumption|omega) only [go_sem,Nat.reduceEqDiff,↓reduceIte]
  rw [hF4,c173_54_wp,wp_seq',← hF3]
  cases ok
  ·rw [if_pos rfl] at hq
   subst hq
   simp (disch:=first|assumption|omega) only [go_sem,Nat.reduceEqDiff,Nat.reduceAdd,Nat.reduceLeDiff,↓reduceIte,Bool.true_and,h2,refAV]
   exact retC_by (by repeat' (first|exact Drop.refl _|with_reducible refine Drop.off ?_ (by assumption))) (.refl _) ⟨rfl,rfl⟩
  ·rw [if_neg (by simp)] at hq
   simp (disch:=first|assumption|omega) only [go_sem,↓reduceIte]
   rw [hF3,c173_53_wp,wp_seq',← hF2]
   by_cases hlt:i<l.length
   ·have hidx : l[i]? = some (l[i]'hlt) := List.getElem?_eq_getElem hlt
    obtain ⟨c, hc⟩ : ∃ c, l[i]'hlt = c := ⟨_, rfl⟩
    rw [hc] at hidx
    have hat:atP l i=c.toNat:=by unfold atP;rw [hidx]
    rw [hat] at hq
    by_cases h36:(c.toNat:Int)=36
    ·rw [if_pos h36] at hq
     simp (disch:=first|assumption|omega) only [go_sem,reduceCtorEq,Nat.reduceEqDiff,Nat.reduceAdd,Nat.reduceLeDiff,↓reduceIte,Bool.true_and,h0,h4,h5,hidx,h36,ASt.set_set]
     rw [hF2]
     refine read2 l hl σ b0 b1 hb0 hb1 n1 (i+1) (by omega) col true ac q hq _ ?_ ?_ ?_ ?_ ?_<;>simp (disch:=first|assumption|omega) only [go_sem,reduceCtorEq,Nat.reduceEqDiff,↓reduceIte,h0,h2,h4]
    ·rw [if_neg h36] at hq
     simp (disch:=first|assumption|omega) only [go_sem,reduceCtorEq,Nat.reduceEqDiff,↓reduceIte,h0,h5,hidx,h36]
     rw [hF2]
     refine read2 l hl σ b0 b1 hb0 hb1 n1 i (by omega) col false ac q hq _ ?_ ?_ ?_ ?_ ?_<;>simp (disch:=first|assumption|omega) only [go_sem,reduceCtorEq,Nat.reduceEqDiff,↓reduceIte,h0,h2,h4,h5]
   ·have hat:atP l i=0:=by unfold atP;rw [List.getElem?_eq_none (by omega)]
    rw [hat,if_neg (by omega)] at hq
    simp (disch:=first|assumption|omega) only [go_sem,reduceCtorEq,Nat.reduceEqDiff,↓reduceIte,h0,h5]
    rw [hF2]
    refine read2 l hl σ b0 b1 hb0 hb1 n1 i (by omega) col false ac q hq _ ?_ ?_ ?_ ?_ ?_<;>simp (disch:=first|assumption|omega) only [go_sem,reduceCtorEq,Nat.reduceEqDiff,↓reduceIte,h0,h2,h4,h5]
 rw [c173_57_wp,wp_seq']
 simp (disch:=first|assumption|omega) only [go_sem,↓reduceIte,h5]
 rw [<-hF5]
 refine wp_loop_by (fun (i:Nat) a σ'=>i0<=i/\i<=l.length/\i0+runL isL (l.drop i0)=i+runL isL (l.drop i)/\a 0 = .str l/\a 2 = .ptr b0 0/\a 4 = .ptr b1 0/\a 5 = .int .i64 i/\a 6 = .int .i64 i0 ∧
  σ'=(σ.set b0 (some (.obj [.int .i64 0,.int .i64 0,.bool false,.bool false]))).set b1 (some (.obj [.int .i64 0,.int .i64 0,.bool false,.bool ac]))) (fun i=>l.length-i) i0
  (Dr.now ⟨Nat.le_refl _,hi0,rfl,?_,?_,?_,?_,?_,rfl⟩) ?_
 ·simp (disch:=first|assumption|omega) only [go_sem,reduceCtorEq,↓reduceIte,h0]
 ·simp (disch:=first|assumption|omega) only [go_sem,Nat.reduceEqDiff,↓reduceIte,h2]
 ·simp (disch:=first|assumption|omega) only [go_sem,Nat.reduceEqDiff,↓reduceIte,h4]
 ·simp (disch:=first|assumption|omega) only [go_sem,Nat.reduceEqDiff,↓reduceIte,h5]
 ·simp (disch:=first|assumption|omega) only [go_sem,↓reduceIte]
 clear h0 h2 h4 h5
 rintro i a σ1 ⟨hi,hil,hrun,h0,h2,h4,h5,h6,rfl⟩
 by_cases hlt:i<l.length
 ·have hidx : l[i]? = some (l[i]'hlt) := List.getElem?_eq_getElem hlt
  obtain ⟨c, hc⟩ : ∃ c, l[i]'hlt = c := ⟨_, rfl⟩
  rw [hc] at hidx
  have hcb:(c.toNat:Int)<=255:=by have:=c.toNat_lt;omega
  rw [List.drop_eq_getElem_cons hlt,hc,runL] at hrun
  simp (disch:=first|assumption|omega) only [go_sem,reduceCtorEq,Nat.reduceEqDiff,↓reduceIte,h0,h5,hidx]
  refine (letter_ok c.toNat (by omega) hcb).use ?_
  by_cases hL:0<letterP c.toNat
  ·rw [if_pos (by unfold isL;simpa using hL)] at hrun
   simp (disch:=first|assumption|omega) only [go_sem,Nat.reduceEqDiff,↓reduceIte,h5,hL]
   refine ⟨i+1,by dsimp only;omega,Dr.now ⟨by omega,by omega,by omega,?_,?_,?_,?_,?_,rfl⟩⟩
   ·simp (disch:=first|assumption|omega) only [go_sem,reduceCtorEq,↓reduceIte,h0]
   ·simp (disch:=first|assumption|omega) only [go_sem,Nat.reduceEqDiff,↓reduceIte,h2]
   ·simp (disch:=first|assumption|omega) only [go_sem,Nat.reduceEqDiff,↓reduceIte,h4]
   ·simp (disch:=first|assumption|omega) only [go_sem,↓reduceIte]
   ·simp (disch:=first|assumption|omega) only [go_sem,Nat.reduceEqDiff,↓reduceIte,h6]
  ·rw [if_neg (by unfold isL;simpa using hL)] at hrun
   simp (disch:=first|assumption|omega) only [go_sem,Nat.reduceEqDiff,↓reduceIte,hL]
   refine fin i _ hi hil (by omega) ?_ ?_ ?_ ?_ ?_<;>simp (disch:=first|assumption|omega) only [go_sem,reduceCtorEq,Nat.reduceEqDiff,↓reduceIte,h0,h2,h4,h5,h6]
 ·have e:l.drop i = []:=List.drop_eq_nil_of_le (by omega)
  rw [e,runL] at hrun
  simp (disch:=first|assumption|omega) only [go_sem,reduceCtorEq,Nat.reduceEqDiff,↓reduceIte,h0,h5]
  refine fin i _ hi hil (by omega) ?_ ?_ ?_ ?_ ?_<;>simp (disch:=first|assumption|omega) only [go_sem,reduceCtorEq,Nat.reduceEqDiff,↓reduceIte,h0,h2,h4,h5,h6]
def readP (l:List UInt8):Ref×Int:=if atP l 0=36 then readR l 1 true else readR l 0 false
theorem read_ok (l:List UInt8) (hl:l.length<=9223372036854775000):Pure Tryz.prog 173 [.str l] (.tuple [refAV (readP l).1,.int .i64 (readP l).2]):=by
 intro σ
 obtain ⟨q,hq⟩:∃ q,readP l=q:=⟨_,rfl⟩
 rw [hq]
 unfold readP at hq
 refine a173 (by simp) ?_
 obtain ⟨F,hF⟩:∃ F,F=ACode.wp Tryz.prog c173_57:=⟨_,rfl⟩
 obtain ⟨F8,hF8⟩:∃ F,F=ACode.wp Tryz.prog c173_58:=⟨_,rfl⟩
 obtain ⟨F9,hF9⟩:∃ F,F=ACode.wp Tryz.prog c173_59:=⟨_,rfl⟩
 obtain ⟨F0,hF0⟩:∃ F,F=ACode.wp Tryz.prog c173_60:=⟨_,rfl⟩
 rw [c173_61_wp,wp_seq',← hF0]
 simp (disch:=first|assumption|omega) only [go_sem]
 refine allocC_by fun b0 hb0=>?_
 simp (disch:=first|assumption|omega) only [go_sem]
 rw [hF0,c173_60_wp,wp_seq',← hF9]
 simp (disch:=first|assumption|omega) only [go_sem]
 refine allocC_by fun b1 hb1=>?_
 obtain ⟨n1,n2,hb3⟩:=set_none hb1
 simp (disch:=first|assumption|omega) only [go_sem]
 rw [hF9,c173_59_wp,wp_seq',← hF8]
 simp (disch:=first|assumption|omega) only [go_sem]
 rw [hF8,c173_58_wp,wp_seq',← hF]
 by_cases hlt:0<l.length
 ·have hidx : l[0]? = some (l[0]'hlt) := List.getElem?_eq_getElem hlt
  obtain ⟨c, hc⟩ : ∃ c, l[0]'hlt = c := ⟨_, rfl⟩
  rw [hc] at hidx
  have hat:atP l 0=c.toNat:=by unfold atP;rw [hidx]
  have hlt':(0:Int)<l.length:=by omega
  rw [hat] at hq
  by_cases h36:(c.toNat:Int)=36
  ·rw [if_pos h36] at hq
   simp (disch:=first|assumption|omega) only [go_sem,reduceCtorEq,Nat.reduceEqDiff,Nat.reduceAdd,Nat.reduceLeDiff,↓reduceIte,Int.reduceAdd,Bool.true_and,hlt',hidx,h36,ASt.set_set]
   rw [hF]
   refine read1 l hl σ b0 b1 hb0 hb3 n2 1 (by omega) true q hq _ ?_ ?_ ?_ ?_<;>simp (disch:=first|assumption|omega) only [go_sem,reduceCtorEq,Nat.reduceEqDiff,↓reduceIte]
  ·rw [if_neg h36] at hq
   simp (disch:=first|assumption|omega) only [go_sem,reduceCtorEq,Nat.reduceEqDiff,↓reduceIte,hlt',hidx,h36]
   rw [hF]
   refine read1 l hl σ b0 b1 hb0 hb3 n2 0 (by omega) false q hq _ ?_ ?_ ?_ ?_<;>simp (disch:=first|assumption|omega) only [go_sem,reduceCtorEq,Nat.reduceEqDiff,↓reduceIte]
 ·have hat:atP l 0=0:=by unfold atP;rw [List.getElem?_eq_none (by omega)]
  have hlt':¬ (0:Int)<l.length:=by omega
  rw [hat,if_neg (by omega)] at hq
  simp (disch:=first|assumption|omega) only [go_sem,reduceCtorEq,Nat.reduceEqDiff,↓reduceIte,hlt']
  rw [hF]
  refine read1 l hl σ b0 b1 hb0 hb3 n2 0 (by omega) false q hq _ ?_ ?_ ?_ ?_<;>simp (disch:=first|assumption|omega) only [go_sem,reduceCtorEq,Nat.reduceEqDiff,↓reduceIte]
end Go.A
namespace Go.A
open Go.Proofs
/-! 155: tabular/addr.Parse -/
def c155_11:ACode := .seq (.ops [ oe 2 (.alloc [(.int .i64 0),(.int .i64 0),(.bool false),(.bool false)]),oq 3 (.mv (.v (.bool false)))]) (.seq (.ops [ oq 7 (.mv (.t 0)),oe 8 (.call 173 [(.t 7)]),oq 6 (.mv (.t 8)),oq 9 (.ext 0 (.t 6)),oq 10 (.ext 1 (.t 6)),oe 4 (.alloc [(.int .i64 0),(.int .i64 0),(.bool false),(.bool false)]),oz (.store 4 (.t 4) (.t 9)),oq 5 (.mv (.t 10))]) (.seq (.seq (.ops [ oq 11 (.mv (.t 5)),oq 12 (.bin .eql (.t 11) (.v (.int .i64 0))),oq 13 (.mv (.t 12)),⟨some 14,some (13,false),.q (.mv (.t 5)),[]⟩,⟨some 15,some (13,false),.q (.mv (.t 0)),[]⟩,⟨some 16,some (13,false),.q (.lenS (.t 15)),[]⟩,⟨some 17,some (13,false),.q (.bin .lss (.t 14) (.t 16)),[]⟩,oq 18 (.pick (.t 13) (.v (.bool true)) (.t 17))]) (.cond (.t 18) (.seq (.ops [ oq 19 (.build [(.int .i64 0),(.int .i64 0),(.bool false),(.bool false)] []),oz (.store 4 (.t 2) (.t 19)),oq 3 (.mv (.v (.bool false)))]) .ret) .skip)) (.seq (.ops [ oq 20 (.ld (some 4) (.t 4)),oz (.store 4 (.t 2) (.t 20)),oq 3 (.mv (.v (.bool true)))]) .ret)))
@[go_sem] def c155_11_wp:=wp_of c155_11.eq_1
def c155:AFn:=⟨21,[.c 2 (some 4),.t 3],c155_11⟩
theorem c155_ok:compF Tryz.prog Tryz.f155=some c155:=by kernel_rfl
theorem a155 {args:List AV} {σ:ASt} {R:AV->ASt->Prop} (hl:args.length<=21) (h:c155_11.wp Tryz.prog (RetQ [.c 2 (some 4),.t 3] R) (init args) σ):ACalls Tryz.prog 155 args σ R:=acalls_of Tryz.func155 c155_ok hl h
end Go.A
namespace Go.A
open Go.Proofs
def parseP (l:List UInt8):Ref×Bool:=if (readP l).2=0\/(readP l).2<l.length then (.zero,false) else ((readP l).1,true)
theorem parse_ok (l:List UInt8) (hl:l.length<=9223372036854775000):Pure Tryz.prog 155 [.str l] (.tuple [refAV (parseP l).1,.bool (parseP l).2]):=by
 intro σ
 obtain ⟨q,hq⟩:∃ q,parseP l=q:=⟨_,rfl⟩
 rw [hq]
 unfold parseP at hq
 obtain ⟨R,hR⟩:∃ R,readP l=R:=⟨_,rfl⟩
 rw [hR] at hq
 obtain ⟨⟨row,col,ar,ac⟩,n⟩:=R
 dsimp only at hq
 refine a155 (by simp) ?_
 simp (disch:=first|assumption|omega) only [go_sem]
 refine allocC_by fun b0 hb0=>?_
 simp (disch:=first|assumption|omega) only [go_sem,reduceCtorEq,↓reduceIte]
 refine (read_ok l hl).use ?_
 rw [hR]
 simp (disch:=first|assumption|omega) only [go_sem,Nat.reduceEqDiff,↓reduceIte,refAV]
 refine allocC_by fun b1 hb1=>?_
 obtain ⟨n1,n2,hb3⟩:=set_none hb1
 repeat' (first|(simp (disch:=first|assumption|omega) only [go_sem,reduceCtorEq,Nat.reduceEqDiff,Nat.reduceAdd,Nat.reduceLeDiff,↓reduceIte,Bool.true_and])|with_reducible refine gC_d (fun h=>?_) (fun h=>?_)|with_reducible refine gC_dn (fun h=>?_) (fun h=>?_)|with_reducible refine condC_d (fun h=>?_) (fun h=>?_)|with_reducible refine condC_n (fun h=>?_) (fun h=>?_)|with_reducible refine condC_b (fun h=>?_) (fun h=>?_)|with_reducible refine boxC_by ?_ fun b hb=>?_)
 all_goals first
  | (rw [if_pos (by omega)] at hq
     subst hq
     exact retC_by (by repeat' (first|exact Drop.refl _|with_reducible refine Drop.off ?_ (by assumption))) (.refl _) ⟨rfl,rfl⟩)
  | (rw [if_neg (by omega)] at hq
     subst hq
     exact retC_by (by repeat' (first|exact Drop.refl _|with_reducible refine Drop.off ?_ (by assumption))) (.refl _) ⟨rfl,rfl⟩)
def areaAV (a b:Ref):AV := .agg [.int .i64 a.row,.int .i64 a.col,.bool a.absRow,.bool a.absCol,.int .i64 b.row,.int .i64 b.col,.bool b.absRow,.bool b.absCol]
end Go.A
namespace Go.A
open Go.Proofs
theorem cut_ok (l:List UInt8) (n:Nat):Pure Tryz.prog 8 [.str l,.int .i64 n] (.str (l.take n)):=by
 intro σ
 refine a8 (by simp) ?_
 by_cases h:n<l.length
 ·have h':(n:Int)<l.length:=by omega
  simp (disch:=first|assumption|omega) only [go_sem,reduceCtorEq,Nat.reduceEqDiff,↓reduceIte,h']
  exact retC_by (by repeat' (first|exact Drop.refl _|with_reducible refine Drop.off ?_ (by assumption))) (.refl _) ⟨rfl,rfl⟩
 ·have h':¬ (n:Int)<l.length:=by omega
  simp (disch:=first|assumption|omega) only [go_sem,reduceCtorEq,Nat.reduceEqDiff,↓reduceIte,h']
  exact retC_by (by repeat' (first|exact Drop.refl _|with_reducible refine Drop.off ?_ (by assumption))) (.refl _) ⟨by rw [List.take_of_length_le (by omega)];rfl,rfl⟩
def greatC (c:UInt8):UInt8:=if 97<=c.toNat/\c.toNat<=122 then UInt8.ofNat (c.toNat-32) else c
def greatP (l:List UInt8):List UInt8:=l.map greatC
end Go.A
namespace Go.A
open Go.Proofs Go.Lib
def signsN (l:List UInt8):Nat:=runeCount ⟨⟨l⟩⟩
theorem signsN_le (l:List UInt8):signsN l<=l.length:=runeCount_le ⟨⟨l⟩⟩
def wordB (c:UInt8):Bool:=decide ((48<=c.toNat/\c.toNat<=57)\/(97<=c.toNat/\c.toNat<=122)\/(65<=c.toNat/\c.toNat<=90)\/c.toNat=95\/c.toNat=36\/c.toNat=46)
def digB (c:UInt8):Bool:=decide (48<=c.toNat/\c.toNat<=57)
def nameB (s:List UInt8):Bool:=decide (s ≠ []) && s.all (fun c=>wordB c && decide (c.toNat≠36)) && !((s.head?.map fun c=>digB c || decide (c.toNat=46)).getD false)
def cutDot:List UInt8->List UInt8×Option (List UInt8)
 | []=>([],none)
 | c::r=>if c.toNat=46 then ([],some r) else (c::(cutDot r).1,(cutDot r).2)
def numB (s:List UInt8):Bool:=
 match cutDot s with
 | (w,none)=>decide (w ≠ []) && w.all digB
 | (w,some p)=>decide (w ≠ []) && decide (p ≠ []) && decide (p.length<=4) && (w++p).all digB
def refB (s:List UInt8):Bool:=(parseP s).2
inductive Step where
 | bad (k:Nat)
 | blank
 | tok (kind:Int) (text:List UInt8) (n:Nat)
 deriving DecidableEq
def wordsS (r:List UInt8):Step:=
 let n:=runL wordB r
 let w:=r.take n
 if numB w then .tok 1 w n else if refB w then .tok 4 (greatP w) n else if nameB w then .tok 3 (greatP w) n else .bad 0
def quotedF:Nat->List UInt8->Nat->List UInt8->Step
 | 0,_,_,_ => .bad 0
 | k+1,r,p,acc=>
   if r = [] then .bad 0
   else if decodeL r=(65533,1) then .bad (1+p)
   else if (decodeL r).1≠34 then quotedF k (r.drop (decodeL r).2) (p+(decodeL r).2) (acc++encodeRune ((decodeL r).1:Int))
   else if r[1]? = some 34 then quotedF k (r.drop 2) (p+2) (acc ++ [34])
   else .tok 2 acc (p+2)
def errTexts:List (List UInt8) := [[35,68,73,86,47,48,33],[35,78,85,77,33],[35,86,65,76,85,69,33],[35,82,69,70,33],[35,78,47,65],[35,78,65,77,69,63],[35,67,89,67,76,69,33]]
def failS (r:List UInt8):List (List UInt8)->Step
 | [] => .bad 0
 | e::es=>if e.length<=r.length/\greatP (r.take e.length)=e then .tok 5 e e.length else failS r es
def alikeP (c:Int):List UInt8:=
 if c=8804 then [60,61] else if c=8805 then [62,61] else if c=8800 then [60,62] else if c=215 then [42] else if c=247 then [47] else if c=8722 then [45] else []
def twos:List (List UInt8) := [[60,61],[62,61],[60,62]]
def twoS (r:List UInt8):List (List UInt8)->Option (List UInt8)
 | []=>none
 | e::es=>if e.isPrefixOf r then some e else twoS r es
def opChars:List UInt8 := [43,45,42,47,94,38,61,60,62,37,40,41,58,44]
def opS (c:Int) (n:Nat) (r:List UInt8):Step:=
 if alikeP c ≠ [] then .tok 6 (alikeP c) n
 else match twoS r twos with
  | some e => .tok 6 e 2
  | none=>if (r.headD 0)∈opChars then .tok 6 (r.take 1) 1 else .bad 0
def stepP (r:List UInt8):Step:=
 let c:=(decodeL r).1
 if decodeL r=(65533,1) then .bad 0
 else if c=32\/c=9\/c=10 then .blank
 else if c<128/\wordB (UInt8.ofNat c)=true then wordsS r
 else if c=34 then quotedF (r.length) (r.drop 1) 0 []
 else if c=35 then failS r errTexts
 else opS c (decodeL r).2 r
structure Tok where
 kind:Int
 text:List UInt8
 at':Nat
 col:Nat
 deriving DecidableEq
def lexF:Nat->List UInt8->Nat->Nat->List Tok->List Tok×Nat×Int
 | 0,_,a,_,acc=>([],a,10)
 | k+1,r,a,c,acc=>
   if r = [] then (acc ++ [⟨0,[],a,c⟩],0,0)
   else match stepP r with
    | .bad j=>([],a+j,10)
    | .blank=>lexF k (r.drop 1) (a+1) (c+1) acc
    | .tok kind t n=>lexF k (r.drop n) (a+n) (c+signsN (r.take n)) (acc ++ [⟨kind,t,a,c⟩])
def lexP (s:List UInt8):List Tok×Nat×Int:=if 2000<s.length then ([],0,11) else lexF (s.length+1) s 0 0 []
def sgF:Nat->List UInt8->Option Nat
 | 0,_=>none
 | k+1,r=>if r = [] then some 0 else if decodeL r=(65533,1) then none else (sgF k (r.drop (decodeL r).2)).map (· + 1)
def tokAV (t:Tok):AV := .agg [.int .i64 t.kind,.str t.text,.int .i64 t.at',.int .i64 t.col]
end Go.A
namespace Go.A
open Go.Proofs Go.Lib
def accTab:List Int:=(List.range 16).flatMap fun i => [(accLo i:Int),(accHi i:Int)]
def U8 (σ:ASt):Prop:=σ 3=some (.fix (firstTab.map (AV.int .u8)))/\σ 4=some (.fix (accTab.map (AV.int .u8)))
theorem U8.of_eq {σ σ':ASt} (h:U8 σ) (h1:σ' 3=σ 3) (h2:σ' 4=σ 4):U8 σ':=⟨h1.trans h.1,h2.trans h.2⟩
theorem U8.set {σ:ASt} {b:Nat} {r:Option Role} (h:U8 σ) (hb:σ b=none):U8 (σ.set b r):=by
 refine h.of_eq (ASt.set_ne ?_) (ASt.set_ne ?_)<;>rintro rfl
 ·rw [h.1] at hb;cases hb
 ·rw [h.2] at hb;cases hb
theorem fix_ints {σ:ASt} {w:World} (hs:Sim σ w) {b:Nat} {k:IntKind} {zs:List Int} (h:σ b=some (.fix (zs.map (AV.int k)))):∀ j z,zs[j]? = some z->w.cell? ⟨b,j,none⟩=some (.int k z):=by
 intro j z hj
 obtain ⟨vs,h4,h5⟩:=(hs b _ h).1.vals
 have h6:=reps_ints h4
 subst h6
 have:=h5 j (Value.int k z) (by simp [hj])
 simpa using this
theorem u8_tabs {σ:ASt} {w:World} (hs:Sim σ w) (h:U8 σ):Utf8Tabs 3 4 w:=by
 refine ⟨fun c hc=>fix_ints hs h.1 c _ (by simp [firstTab,hc]),fun i hi=>?_⟩
 have key:∀ i,i<16->accTab[2*i]? = some (accLo i:Int)/\accTab[2*i+1]? = some (accHi i:Int):=by decide
 exact ⟨fix_ints hs h.2 _ _ (key i hi).1,fix_ints hs h.2 _ _ (key i hi).2⟩
theorem ACalls.of_below {P:Program} {σ:ASt} {f:FuncId} {args:List AV} {r:AV} {u:Value} (h:∀ w vs,Sim σ w->Reps σ w args vs->Calls P f ⟨vs⟩ w fun e w'=>e = .returned u/\RowKit.Below w.heap.size w w') (hr:∀ w,Rep σ w r u):ACalls P f args σ fun v σ'=>v=r/\σ'=σ:=
 ACalls.of_ext (fun w vs hs ha=>(h w vs hs ha).mono fun e w' ⟨he,hb⟩=>⟨he,Ext.of_below hb⟩) hr
theorem dec_ok {σ:ASt} (h:U8 σ) {l:List UInt8} (h0:l ≠ []):ACalls Tryz.prog 126 [.str l] σ fun v σ'=>v = .tuple [.int .i32 (decodeL l).1,.int .i64 (decodeL l).2]/\σ'=σ:=by
 refine ACalls.of_below (u := .tuple #[.int .i32 (decodeL l).1,.int .i64 (decodeL l).2]) (fun w vs hs ha=>?_) fun w => .tuple (.cons (.int _ _) (.cons (.int _ _) .nil))
 cases ha with
 | cons h1 h2=>
 cases h1;cases h2
 have:=Tryz.utf8_DecodeRuneInString ⟨⟨l⟩⟩ w (u8_tabs hs h)
 have e:decodeGo ⟨⟨l⟩⟩=decodeL l:=by
  unfold decodeGo decodeL
  rw [if_neg (by cases l;exact absurd rfl h0;simp [ByteArray.size])]
 rw [e] at this
 exact this
theorem count_ok (l:List UInt8) (hl:l.length<9223372036854775807):Pure Tryz.prog 108 [.str l] (.int .i64 (signsN l)):=by
 intro σ
 refine ACalls.of_ext (u := .int .i64 (signsN l)) (fun w vs hs ha=>?_) fun w => .int _ _
 cases ha with
 | cons h1 h2=>
 cases h1;cases h2
 refine (Tryz.utf8_RuneCountInString ⟨⟨l⟩⟩ w (by simpa [ByteArray.size] using hl)).mono ?_
 rintro e w' ⟨rfl,pos,rfl⟩
 exact ⟨rfl,Ext.alloc (Ext.refl w) _⟩
theorem runeLen_ok (r:Int):Pure Tryz.prog 135 [.int .i32 r] (.int .i64 (runeLen r)):=by
 intro σ
 refine ACalls.of_ext (u := .int .i64 (runeLen r)) (fun w vs hs ha=>?_) fun w => .int _ _
 cases ha with
 | cons h1 h2=>
 cases h1;cases h2
 exact (Tryz.utf8_RuneLen r w).mono fun e w' ⟨he,hw⟩=>⟨he,Ext.of_eq hw⟩
theorem prefix_ok (s p:List UInt8) (hs:s.length<=1000000000) (hp:p.length<=1000000000):Pure Tryz.prog 137 [.str s,.str p] (.bool (p.isPrefixOf s)):=by
 intro σ
 refine ACalls.of_ext (u := .bool (p.isPrefixOf s)) (fun w vs hs ha=>?_) fun w => .bool _
 cases ha with
 | cons h1 h2=>
 cases h2 with
 | cons h2 h3=>
 cases h1;cases h2;cases h3
 refine (Tryz.strings_HasPrefix ⟨⟨s⟩⟩ ⟨⟨p⟩⟩ w).mono fun e w' ⟨he,hw⟩=>⟨?_,Ext.of_eq hw⟩
 rw [he]
 rfl
theorem contains_ok (s:List UInt8) (c:UInt8):Pure Tryz.prog 138 [.str s,.str [c]] (.bool (decide (0<=indexByte s c))):=by
 intro σ
 refine ACalls.of_ext (u := .bool (decide (0<=indexByte s c))) (fun w vs hs ha=>?_) fun w => .bool _
 cases ha with
 | cons h1 h2=>
 cases h2 with
 | cons h2 h3=>
 cases h1;cases h2;cases h3
 exact (Tryz.strings_Contains_one ⟨⟨s⟩⟩ c w).mono fun e w' ⟨he,hw⟩=>⟨he,Ext.of_eq hw⟩
theorem index_ok (s:List UInt8) (c:UInt8):Pure Tryz.prog 129 [.str s,.str [c]] (.int .i64 (indexByte s c)):=by
 intro σ
 refine ACalls.of_ext (u := .int .i64 (indexByte s c)) (fun w vs hs ha=>?_) fun w => .int _ _
 cases ha with
 | cons h1 h2=>
 cases h2 with
 | cons h2 h3=>
 cases h1;cases h2;cases h3
 exact (Tryz.stringslite_Index_one ⟨⟨s⟩⟩ c w).mono fun e w' ⟨he,hw⟩=>⟨he,Ext.of_eq hw⟩
end Go.A
namespace Go.A
open Go.Proofs Go.Lib
theorem sgF_step {k:Nat} {r:List UInt8} (h0:r ≠ []) (hv:decodeL r≠(65533,1)):sgF (k+1) r=(sgF k (r.drop (decodeL r).2)).map (· + 1):=by
 rw [sgF,if_neg h0,if_neg hv]
theorem sgT_fuel:∀ (k m:Nat) (r:List UInt8),r.length<k->r.length<m->sgF k r=sgF m r
 | 0,_,r,h,_=>absurd h (Nat.not_lt_zero _)
 | _,0,r,_,h=>absurd h (Nat.not_lt_zero _)
 | k+1,m+1,r,h1,h2=>by
   rw [sgF,sgF]
   by_cases h0:r = []
   ·rw [if_pos h0,if_pos h0]
   ·rw [if_neg h0,if_neg h0]
    split
    ·rfl
    ·have hw:=decodeL_width r
     have hl:=List.length_pos_iff.2 h0
     rw [sgT_fuel k m _ (by rw [List.length_drop];omega) (by rw [List.length_drop];omega)]
def sgT (r:List UInt8):Option Nat:=sgF (r.length+1) r
theorem sgT_nil:sgT []=some 0:=rfl
theorem sgT_bad {r:List UInt8} (h0:r ≠ []) (hv:decodeL r=(65533,1)):sgT r=none:=by
 unfold sgT
 rw [sgF,if_neg h0,if_pos hv]
theorem sgT_step {r:List UInt8} (h0:r ≠ []) (hv:decodeL r≠(65533,1)):sgT r=(sgT (r.drop (decodeL r).2)).map (· + 1):=by
 unfold sgT
 rw [sgF_step h0 hv]
 have hw:=decodeL_width r
 have hl:=List.length_pos_iff.2 h0
 rw [sgT_fuel r.length ((r.drop (decodeL r).2).length+1) _ (by rw [List.length_drop];omega) (by omega)]
def sgAV (s:List UInt8):AV:=match sgT s with
 | some n => .tuple [.int .i64 n,.bool true]
 | none => .tuple [.int .i64 0,.bool false]
end Go.A
namespace Go.A
open Go.Proofs
theorem names_back1:(List.range 700).all (fun i=>decide (columnP (lettersP i)=((i:Int),true)))=true:=by decide +kernel
theorem names_back {a:Int} (h0:0<=a) (h1:a<700):columnP (lettersP a)=(a,true):=by
 obtain ⟨n,rfl⟩:∃ n:Nat,a=n:=⟨a.toNat,by omega⟩
 have:=List.all_eq_true.1 names_back1 n (List.mem_range.2 (by omega))
 simpa using this
theorem lettersF_len:∀ k n,(lettersF k n).length<=k
 | 0,n=>Nat.le_refl _
 | k+1,n=>by
   unfold lettersF
   split
   ·exact Nat.zero_le _
   ·have:=lettersF_len k ((n-1) / 26)
    simp;omega
theorem letters_len (c:Int):(lettersP c).length<=4:=by
 unfold lettersP
 split
 ·exact Nat.zero_le _
 ·exact lettersF_len _ _
end Go.A
namespace Go.A
open Go.Proofs
def digF:Nat->Nat->List UInt8
 | 0,_ => []
 | k+1,n=>if n<10 then [UInt8.ofNat (48+n)] else digF k (n / 10) ++ [UInt8.ofNat (48+n % 10)]
theorem digF_eq:∀ (k n:Nat),n<10 ^ (k+1)->Lib.decDigits n=digF (k+1) n
 | 0,n,h=>by
   rw [Lib.decDigits,dif_pos (by omega)]
   unfold digF
   rw [if_pos (by omega)]
 | k+1,n,h=>by
   rw [Lib.decDigits]
   unfold digF
   by_cases h1:n<10
   ·rw [dif_pos h1,if_pos h1]
   ·rw [dif_neg h1,if_neg h1,digF_eq k (n / 10) (by rw [Nat.pow_succ] at h;omega)]
def numT (row:Int):List UInt8:=digF 4 (row+1).toNat
theorem itoa_num {row:Int} (h0:0<=row) (h1:row<3000):Lib.itoa (row+1)=numT row:=by
 unfold Lib.itoa numT
 rw [if_neg (by omega),digF_eq 3 _ (by omega)]
theorem num_all:(List.range 3000).all (fun i=>decide (numF 0 (numT i)=(i:Int)+1) && (numT i).all isD && decide (1<=(numT i).length) && decide ((numT i).length<=4) && decide (atP (numT i) 0≠48))=true:=by decide +kernel
theorem num_facts {row:Int} (h0:0<=row) (h1:row<3000):numF 0 (numT row)=row+1/\(∀ c∈numT row,isD c=true)/\1<=(numT row).length/\(numT row).length<=4/\atP (numT row) 0≠48:=by
 obtain ⟨i,rfl⟩:∃ i:Nat,row=i:=⟨row.toNat,by omega⟩
 have:=List.all_eq_true.1 num_all i (List.mem_range.2 (by omega))
 simpa [and_assoc] using this
theorem let_all:(List.range 700).all (fun i=>(lettersP i).all isL && decide (1<=(lettersP i).length))=true:=by decide +kernel
theorem let_facts {col:Int} (h0:0<=col) (h1:col<700):(∀ c∈lettersP col,isL c=true)/\1<=(lettersP col).length:=by
 obtain ⟨i,rfl⟩:∃ i:Nat,col=i:=⟨col.toNat,by omega⟩
 have:=List.all_eq_true.1 let_all i (List.mem_range.2 (by omega))
 simpa using this
theorem atP_app (p x:List UInt8):atP (p++x) p.length=atP x 0:=by
 unfold atP
 rw [List.getElem?_append_right (Nat.le_refl _),Nat.sub_self]
theorem atP_0 {l x:List UInt8} (h:1<=l.length):atP (l++x) 0=atP l 0:=by
 unfold atP
 rw [List.getElem?_append_left (by omega)]
theorem atP_all {l:List UInt8} {p:UInt8->Bool} (h:∀ c∈l,p c=true) (h1:1<=l.length):∃ c:UInt8,p c=true/\atP l 0=c.toNat:=by
 cases l with
 | nil=>simp at h1
 | cons c l=>exact ⟨c,h c (by simp),rfl⟩
theorem runL_app {p:UInt8->Bool} {x:List UInt8} (hx:∀ c,x[0]? = some c->p c=false):∀ {l:List UInt8},(∀ c∈l,p c=true)->runL p (l++x)=l.length
 | [],_=>by
   cases x with
   | nil=>rfl
   | cons c x=>
     simp only [List.nil_append,runL,hx c rfl]
     rfl
 | c::l,h=>by
   simp only [List.cons_append,runL,h c (by simp),if_true,List.length_cons]
   rw [runL_app hx fun c hc=>h c (by simp [hc])]
theorem numF_app {x:List UInt8} (hx:∀ c,x[0]? = some c->isD c=false):∀ {l:List UInt8} {n:Int},(∀ c∈l,isD c=true)->numF n (l++x)=numF n l
 | [],n,_=>by
   cases x with
   | nil=>rfl
   | cons c x=>
     simp only [List.nil_append,numF,hx c rfl]
     rfl
 | c::l,n,h=>by
   simp only [List.cons_append,numF,h c (by simp),if_true]
   exact numF_app hx fun c hc=>h c (by simp [hc])
theorem d_not_l (c:UInt8) (h:isD c=true):isL c=false:=by
 simp only [isD,decide_eq_true_eq] at h
 unfold isL letterP
 rw [if_neg (by omega),if_neg (by omega)]
 rfl
def dolP (b:Bool):List UInt8:=if b then [36] else []
def textP (r:Ref):List UInt8:=dolP r.absCol++lettersP r.col++dolP r.absRow++numT r.row
def Behind (x:List UInt8):Prop:=x = []\/∃ y,x=58::y
theorem readQ_text {p x:List UInt8} (hx:Behind x) {row:Int} (h0:0<=row) (h1:row<3000) (col:Int) (ar ac:Bool) :
  readQ (p++(numT row++x)) p.length col ar ac=(⟨row,col,ar,ac⟩,((p.length+(numT row).length:Nat):Int)):=by
 obtain ⟨n1,n2,n3,n4,n5⟩:=num_facts h0 h1
 have hxd:∀ c,x[0]? = some c->isD c=false:=by
  rcases hx with rfl|⟨y,rfl⟩
  ·intro c hc;simp at hc
  ·intro c hc;simp at hc;subst hc;decide
 have hxa:atP x 0=0\/atP x 0=58:=by
  rcases hx with rfl|⟨y,rfl⟩
  ·exact .inl rfl
  ·exact .inr rfl
 have e1:(p++(numT row++x)).drop p.length=numT row++x:=by simp
 have e2:runL isD (numT row++x)=(numT row).length:=runL_app hxd n2
 have e3:numF 0 (numT row++x)=row+1:=by rw [numF_app hxd n2,n1]
 have e4:atP (p++(numT row++x)) p.length=atP (numT row) 0:=by rw [atP_app,atP_0 n3]
 have e5:atP (p++(numT row++x)) (p.length+(numT row).length)=atP x 0:=by
  rw [<-List.append_assoc,← List.length_append,atP_app]
 unfold readQ
 rw [e1,e2,e3,e4,e5,if_neg]
 ·rw [show row+1-1=row by omega]
 ·rintro (h|h|h|h|h)
  ·omega
  ·omega
  ·exact n5 h
  ·rcases hxa with h2|h2<;>rw [h2] at h<;>revert h<;>decide
  ·rcases hxa with h2|h2<;>rw [h2] at h<;>revert h<;>decide
theorem readR_text {p x:List UInt8} (hx:Behind x) {r:Ref} (hg:r.good=true) (ac:Bool) :
  readR (p++(lettersP r.col++(dolP r.absRow++(numT r.row++x)))) p.length ac=(⟨r.row,r.col,r.absRow,ac⟩,((p.length+(lettersP r.col).length+(dolP r.absRow).length+(numT r.row).length:Nat):Int)):=by
 simp only [Ref.good,decide_eq_true_eq] at hg
 obtain ⟨g1,g2,g3,g4⟩:=hg
 obtain ⟨l1,l2⟩:=let_facts g3 g4
 obtain ⟨n1,n2,n3,n4,n5⟩:=num_facts g1 g2
 obtain ⟨d,d1,d2⟩:=atP_all n2 n3
 have hXl:∀ c,(dolP r.absRow++(numT r.row++x))[0]? = some c->isL c=false:=by
  intro c hc
  cases har:r.absRow with
  | true=>rw [har] at hc;simp [dolP] at hc;subst hc;decide
  | false=>
    rw [har] at hc
    simp only [dolP,Bool.false_eq_true,if_false,List.nil_append] at hc
    rw [List.getElem?_append_left (by omega)] at hc
    exact d_not_l c (n2 c (List.mem_of_getElem? hc))
 have e1:(p++(lettersP r.col++(dolP r.absRow++(numT r.row++x)))).drop p.length=lettersP r.col++(dolP r.absRow++(numT r.row++x)):=by simp
 have e2:runL isL (lettersP r.col++(dolP r.absRow++(numT r.row++x)))=(lettersP r.col).length:=runL_app hXl l1
 have e3:((p++(lettersP r.col++(dolP r.absRow++(numT r.row++x)))).take (p.length+(lettersP r.col).length)).drop p.length=lettersP r.col:=by
  rw [<-List.append_assoc,← List.length_append,List.take_left,List.drop_left]
 have e4:atP (p++(lettersP r.col++(dolP r.absRow++(numT r.row++x)))) (p.length+(lettersP r.col).length)=atP (dolP r.absRow++(numT r.row++x)) 0:=by
  rw [<-List.append_assoc,← List.length_append,atP_app]
 unfold readR
 rw [e1,e2,e3,e4,names_back g3 g4,if_neg (by simp)]
 cases har:r.absRow with
 | true=>
   rw [if_pos (by rfl)]
   have:=readQ_text (p:=p++lettersP r.col ++ [36]) hx g1 g2 r.col true ac
   simp only [List.append_assoc,List.length_append,List.length_cons,List.length_nil,List.singleton_append,Nat.zero_add,← Nat.add_assoc] at this
   simp only [dolP,if_true,List.singleton_append,List.length_cons,List.length_nil,Nat.zero_add]
   exact this
 | false=>
   have hne:¬ atP (dolP false++(numT r.row++x)) 0=36:=by
    simp only [dolP,Bool.false_eq_true,if_false,List.nil_append]
    rw [atP_0 n3,d2]
    simp only [isD,decide_eq_true_eq] at d1
    omega
   rw [if_neg hne]
   have:=readQ_text (p:=p++lettersP r.col) hx g1 g2 r.col false ac
   simp only [List.append_assoc,List.length_append] at this
   simp only [dolP,Bool.false_eq_true,if_false,List.nil_append,List.length_nil,Nat.add_zero]
   exact this
theorem read_text {x:List UInt8} (hx:Behind x) {r:Ref} (hg:r.good=true):readP (textP r++x)=(r,((textP r).length:Int)):=by
 have hg':=hg
 simp only [Ref.good,decide_eq_true_eq] at hg'
 obtain ⟨g1,g2,g3,g4⟩:=hg'
 obtain ⟨l1,l2⟩:=let_facts g3 g4
 obtain ⟨d,d1,d2⟩:=atP_all l1 l2
 obtain ⟨row,col,ar,ac⟩:=r
 unfold readP textP
 simp only [List.append_assoc]
 cases ac with
 | true=>
   rw [if_pos (by rfl)]
   have:=readR_text (p := [36]) hx hg true
   simp only [dolP,if_true] at this ⊢
   refine this.trans ?_
   congr 1
   simp only [List.length_append,List.length_cons,List.length_nil]
   omega
 | false=>
   have hne:¬ atP (dolP false++(lettersP col++(dolP ar++(numT row++x)))) 0=36:=by
    simp only [dolP,Bool.false_eq_true,if_false,List.nil_append]
    rw [atP_0 l2,d2]
    intro h
    simp only [isL,decide_eq_true_eq] at d1
    rw [h] at d1
    revert d1
    decide
   rw [if_neg hne]
   have:=readR_text (p := []) hx hg false
   simp only [List.nil_append,List.length_nil,Nat.zero_add] at this
   simp only [dolP,Bool.false_eq_true,if_false,List.nil_append] at this ⊢
   refine this.trans ?_
   congr 1
   simp only [List.length_append]
   omega
theorem text_len {r:Ref} (hg:r.good=true):2<=(textP r).length/\(textP r).length<=10:=by
 simp only [Ref.good,decide_eq_true_eq] at hg
 obtain ⟨g1,g2,g3,g4⟩:=hg
 obtain ⟨l1,l2⟩:=let_facts g3 g4
 obtain ⟨n1,n2,n3,n4,n5⟩:=num_facts g1 g2
 have:=letters_len r.col
 unfold textP dolP
 simp only [List.length_append]
 constructor
 ·omega
 ·split<;>split<;>simp<;>omega
theorem parse_text {r:Ref} (hg:r.good=true):parseP (textP r)=(r,true):=by
 have h:=read_text (x := []) (.inl rfl) hg
 rw [List.append_nil] at h
 have:=text_len hg
 unfold parseP
 rw [h,if_neg (by dsimp only;omega)]
end Go.A
namespace Go.A
inductive Nd where
 | mk (op n:Int) (s:List UInt8) (a b:Ref) (kids:List Nd)
instance:Inhabited Nd:=⟨.mk 0 0 [] .zero .zero []⟩
def Nd.op:Nd->Int | .mk op _ _ _ _ _=>op
mutual
def Nd.av:Nd->AV
 | .mk op n s a b kids => .agg [.int .i64 op,.int .i64 n,.str s,.int .i64 a.row,.int .i64 a.col,.bool a.absRow,.bool a.absCol,.int .i64 b.row,.int .i64 b.col,.bool b.absRow,.bool b.absCol,.sl .shr (Nd.avs kids)]
def Nd.avs:List Nd->List AV
 | [] => []
 | x::xs=>x.av::Nd.avs xs
end
theorem Nd.avs_map:∀ l:List Nd,Nd.avs l=l.map Nd.av
 | []=>rfl
 | x::xs=>by rw [Nd.avs,Nd.avs_map xs];rfl
theorem Nd.av_eq (op n:Int) (s:List UInt8) (a b:Ref) (kids:List Nd):(Nd.mk op n s a b kids).av = .agg [.int .i64 op,.int .i64 n,.str s,.int .i64 a.row,.int .i64 a.col,.bool a.absRow,.bool a.absCol,.int .i64 b.row,.int .i64 b.col,.bool b.absRow,.bool b.absCol,.sl .shr (kids.map Nd.av)]:=by
 rw [Nd.av,Nd.avs_map]
def Nd.cs (op n:Int) (s:List UInt8) (a b:Ref) (L:List AV):List AV := [.int .i64 op,.int .i64 n,.str s,.int .i64 a.row,.int .i64 a.col,.bool a.absRow,.bool a.absCol,.int .i64 b.row,.int .i64 b.col,.bool b.absRow,.bool b.absCol,.sl .shr L]
theorem Nd.av_cs (op n:Int) (s:List UInt8) (a b:Ref) (kids:List Nd):(Nd.mk op n s a b kids).av = .agg (Nd.cs op n s a b (kids.map Nd.av)):=Nd.av_eq ..
section
variable {op n:Int} {s:List UInt8} {a b:Ref} {L:List AV}
@[go_sem] theorem cs_0:(Nd.cs op n s a b L)[0]? = some (.int .i64 op):=id rfl
@[go_sem] theorem cs_1:(Nd.cs op n s a b L)[1]? = some (.int .i64 n):=id rfl
@[go_sem] theorem cs_2:(Nd.cs op n s a b L)[2]? = some (.str s):=id rfl
@[go_sem] theorem cs_11:(Nd.cs op n s a b L)[11]? = some (.sl .shr L):=id rfl
@[go_sem] theorem cs_len:(Nd.cs op n s a b L).length=12:=id rfl
@[go_sem] theorem cs_leaves:leaves (Nd.cs op n s a b L)=true:=id rfl
@[go_sem] theorem cs_take:(Nd.cs op n s a b L).take 12=Nd.cs op n s a b L:=id rfl
@[go_sem] theorem cs_ta:((Nd.cs op n s a b L).drop 3).take 4 = [.int .i64 a.row,.int .i64 a.col,.bool a.absRow,.bool a.absCol]:=id rfl
@[go_sem] theorem cs_tb:((Nd.cs op n s a b L).drop 7).take 4 = [.int .i64 b.row,.int .i64 b.col,.bool b.absRow,.bool b.absCol]:=id rfl
end
theorem Nd.av_len (n:Nd):n.av.cells.length=12:=by cases n;rfl
theorem Nd.av_leaves (n:Nd):leaves n.av.cells=true:=by cases n;rfl
theorem Nd.get {l:List Nd} {i:Nat} {x:Nd} (h:l[i]? = some x):(l.map Nd.av)[i]? = some x.av:=by rw [List.getElem?_map,h];rfl
mutual
theorem Nd.deep:∀ n:Nd,Go.A.deep n.av=n.av
 | .mk op n s a b kids=>by
   rw [Nd.av,Go.A.deep]
   simp only [Go.A.deeps,Go.A.deep,Nd.deeps kids]
theorem Nd.deeps:∀ l:List Nd,Go.A.deeps (Nd.avs l)=Nd.avs l
 | []=>rfl
 | x::xs=>by rw [Nd.avs,Go.A.deeps,Nd.deep x,Nd.deeps xs]
end
mutual
def Nd.size:Nd->Nat
 | .mk _ _ _ _ _ kids=>1+Nd.sizes kids
def Nd.sizes:List Nd->Nat
 | []=>0
 | x::xs=>x.size+Nd.sizes xs
end
theorem Nd.size_kid:∀ {l:List Nd} {x:Nd},x∈l->x.size<=Nd.sizes l
 | [],_,h=>by cases h
 | y::l,x,h=>by
   rw [Nd.sizes]
   rcases List.mem_cons.1 h with rfl|h
   ·omega
   ·have:=Nd.size_kid h;omega
theorem Nd.size_pos (n:Nd):0<n.size:=by cases n;rw [Nd.size];omega
mutual
def Nd.depth:Nd->Nat
 | .mk _ _ _ _ _ kids=>Nd.depths kids+1
def Nd.depths:List Nd->Nat
 | []=>0
 | x::xs=>max x.depth (Nd.depths xs)
end
theorem Nd.depth_le_size:∀ n:Nd,n.depth<=n.size:=by
 intro n
 induction h:n.size using Nat.strongRecOn generalizing n with
 | _ k ih=>
   obtain ⟨op,m,s,a,b,kids⟩:=n
   subst h
   rw [Nd.size] at ih ⊢
   rw [Nd.depth]
   have key:∀ l:List Nd,(∀ x∈l,x.depth<=x.size)->Nd.depths l<=Nd.sizes l:=by
    intro l
    induction l with
    | nil=>intro _;exact Nat.le_refl _
    | cons x l ihl=>
      intro hx
      rw [Nd.depths,Nd.sizes]
      have h1:=hx x (by simp)
      have h2:=ihl fun y hy=>hx y (by simp [hy])
      omega
   have:=key kids fun x hx=>ih _ (by have:=Nd.size_kid hx;omega) x rfl
   omega
def levelP (op:Int):Int:=
 if op=7\/op=8 then 6 else if op=9 then 7 else if op<10\/22<=op then 8
 else if op<=11 then 3 else if op<=13 then 4 else if op=14 then 5 else if op=15 then 2 else 1
def signL:List (List UInt8) := [[43],[45],[42],[47],[94],[38],[61],[60,62],[60],[60,61],[62],[62,61]]
def errL:List (List UInt8) := [[35,68,73,86,47,48,33],[35,78,85,77,33],[35,86,65,76,85,69,33],[35,82,69,70,33],[35,78,47,65],[35,78,65,77,69,63],[35,67,89,67,76,69,33]]
def failT (op n:Int):List UInt8:=if op≠4\/n.tdiv 10000<1\/7<n.tdiv 10000 then [] else errL.getD (n.tdiv 10000-1).toNat []
def truthP (b:Bool):List UInt8:=if b=true then [84,82,85,69] else [70,65,76,83,69]
def quotT (s:List UInt8):List UInt8:=34::(s.flatMap fun c=>if c=34 then [34,34] else [c]) ++ [34]
def insT (least:Int) (op:Int) (t:List UInt8):List UInt8:=if least<=levelP op then t else 40::t ++ [41]
def joinC:List (Int×List UInt8)->List UInt8
 | [] => []
 | p::r=>p.2++r.flatMap fun q=>44::q.2
def spellK (op n:Int) (s:List UInt8) (a b:Ref) (ks:List (Int×List UInt8)):List UInt8:=
 if op=1 then textD n else if op=2 then quotT s else if op=3 then truthP (!decide (n=0)) else if op=4 then failT op n else if op=5 then textP a else if op=6 then textP a ++ [58]++textP b
 else if op=7\/op=8 then (if op=7 then 45 else 43)::insT 6 (ks.getD 0 (0,[])).1 (ks.getD 0 (0,[])).2
 else if op=9 then insT 7 (ks.getD 0 (0,[])).1 (ks.getD 0 (0,[])).2 ++ [37]
 else if op=22 then s++40::joinC ks ++ [41]
 else if op=23 then []
 else insT (levelP op) (ks.getD 0 (0,[])).1 (ks.getD 0 (0,[])).2++signL.getD (op-10).toNat []++insT (levelP op+1) (ks.getD 1 (0,[])).1 (ks.getD 1 (0,[])).2
mutual
def Nd.spell:Nd->List UInt8
 | .mk op n s a b kids=>spellK op n s a b (Nd.spells kids)
def Nd.spells:List Nd->List (Int×List UInt8)
 | [] => []
 | x::xs=>(x.op,x.spell)::Nd.spells xs
end
theorem Nd.spells_map:∀ l:List Nd,Nd.spells l=l.map fun x=>(x.op,x.spell)
 | []=>rfl
 | x::xs=>by rw [Nd.spells,Nd.spells_map xs];rfl
def nodeOk (op n:Int) (s:List UInt8) (a b:Ref) (k:Nat):Prop:=
 (1<=op/\op<=23)/\(op=1->n.natAbs<=999999999999999999)/\(op=2->s.length<=100000)/\(op=4->1<=n.tdiv 10000/\n.tdiv 10000<=7)/\(op=22->s ≠ [])/\(op=5\/op=6->a.good=true)/\(op=6->b.good=true)/\(op=7\/op=8\/op=9->1<=k)/\(10<=op/\op<=21->2<=k)/\k<=1000000
mutual
def Nd.ok:Nd->Prop
 | .mk op n s a b kids=>nodeOk op n s a b kids.length/\Nd.oks kids
def Nd.oks:List Nd->Prop
 | []=>True
 | x::xs=>x.ok/\Nd.oks xs
end
theorem Nd.oks_mem:∀ {l:List Nd},Nd.oks l↔∀ x∈l,x.ok
 | []=>by simp [Nd.oks]
 | y::l=>by rw [Nd.oks,Nd.oks_mem (l:=l)];simp
end Go.A
namespace Go.A
open Go.Proofs Go.Shelf Go.RowKit
section
variable {P:Program} {ρ:Ren}
set_option maxHeartbeats 2000000 in
theorem bstr_used (L:Lays.n169 P ρ) (X:Builder.Extra P ρ) (b g cap size:Nat) (l:List UInt8) (w:World) (h0:l ≠ []) (hc1:w.cell? ⟨b,1,none⟩=some (.slice (some ⟨g,0,none⟩) l.length cap)) (hcap:cap≠0)
  (hsh:w.shape? g=some (ρ.t 5,size)) (hle:l.length<=size) (h63:l.length<=9223372036854775807) (hcell:∀ j x,l[j]? = some x->w.cell? ⟨g,j,none⟩=some (.int .u8 x.toNat)) :
  Calls P (ρ.f 169) #[.pointer (some ⟨b,0,none⟩)] w fun e w'=>e = .returned (.string ⟨l.toArray⟩)/\w'=w.drew.freeze ⟨g,0,none⟩ l.length:=by
 have c1:w.drew.cell? ⟨b,1,none⟩=some (.slice (some ⟨g,0,none⟩) l.length cap):=hc1
 have hSD:(Builtin.unsafeSliceData_ #[(ρ.t 37)] (ρ.t 127) #[.slice (some ⟨g,0,none⟩) l.length cap]).run P w.drew = .ok (.pointer (some ⟨g,0,none⟩)) w.drew:=
  Lib.run_unsafeSliceData_row _ _ _ _ _ _ hcap
 have hUS:(Builtin.unsafeString_ #[(ρ.t 127),(ρ.t 3)] (ρ.t 9) #[.pointer (some ⟨g,0,none⟩),.int .i64 l.length]).run P w.drew = .ok (.string ⟨l.toArray⟩) (w.drew.freeze ⟨g,0,none⟩ l.length):=by
  refine Lib.run_unsafeString_row w.drew (ρ.t 127) (ρ.t 3) (ρ.t 9) (ρ.t 5) L.t127 X.cellsByte g size hsh l h0 hle h63 ?_
  intro j x hx
  rw [addr_add',Nat.zero_add]
  exact hcell j x hx
 have mixed:=L.mixed
 have t72:=L.t72;have a72:=L.a72;have z72:=L.z72;have v72:=L.v72;have u72:=run_underlying L.t72
 have t70:=L.t70;have a70:=L.a70;have z70:=L.z70;have v70:=L.v70;have u70:=run_underlying L.t70
 have t37:=L.t37;have a37:=L.a37;have z37:=L.z37;have v37:=L.v37;have u37:=run_underlying L.t37
 have t127:=L.t127;have a127:=L.a127;have z127:=L.z127;have v127:=L.v127;have u127:=run_underlying L.t127
 have t3:=L.t3;have a3:=L.a3;have z3:=L.z3;have v3:=L.v3;have u3:=run_underlying L.t3
 have t9:=L.t9;have a9:=L.a9;have z9:=L.z9;have v9:=L.v9;have u9:=run_underlying L.t9
 have t5:=X.t5;have a5:=X.a5;have z5:=X.z5;have v5:=X.v5;have u5:=run_underlying X.t5
 go_enter L.f169,Body.n169_ntmps ρ
 go_wp2
 go_region_o
 all_goals (go_wp2;go_ret;exact ⟨rfl,rfl⟩)
set_option maxHeartbeats 2000000 in
theorem bstr_nil (L:Lays.n169 P ρ) (X:Builder.Extra P ρ) (b:Nat) (w:World) (hc1:w.cell? ⟨b,1,none⟩=some (.slice none 0 0)) :
  Calls P (ρ.f 169) #[.pointer (some ⟨b,0,none⟩)] w fun e w'=>e = .returned (.string ⟨#[]⟩)/\w'=w.drew:=by
 have hUS:=Any.unsafeString_none L X
 have c1:w.drew.cell? ⟨b,1,none⟩=some (.slice none 0 0):=hc1
 have hSD:(Builtin.unsafeSliceData_ #[(ρ.t 37)] (ρ.t 127) #[.slice none 0 0]).run P w.drew = .ok (.pointer none) w.drew:=rfl
 have mixed:=L.mixed
 have t72:=L.t72;have a72:=L.a72;have z72:=L.z72;have v72:=L.v72;have u72:=run_underlying L.t72
 have t70:=L.t70;have a70:=L.a70;have z70:=L.z70;have v70:=L.v70;have u70:=run_underlying L.t70
 have t37:=L.t37;have a37:=L.a37;have z37:=L.z37;have v37:=L.v37;have u37:=run_underlying L.t37
 have t127:=L.t127;have a127:=L.a127;have z127:=L.z127;have v127:=L.v127;have u127:=run_underlying L.t127
 have t3:=L.t3;have a3:=L.a3;have z3:=L.z3;have v3:=L.v3;have u3:=run_underlying L.t3
 have t9:=L.t9;have a9:=L.a9;have z9:=L.z9;have v9:=L.v9;have u9:=run_underlying L.t9
 have t5:=X.t5;have a5:=X.a5;have z5:=X.z5;have v5:=X.v5;have u5:=run_underlying X.t5
 go_enter L.f169,Body.n169_ntmps ρ
 go_wp2
 go_region_o
 all_goals (go_wp2;go_ret;exact ⟨rfl,rfl⟩)
end
theorem size_bld:(Tryz.prog.info? 100).map (·.size)=some 2:=by kernel_rfl
theorem lies_bld:liesAt Tryz.prog Tryz.prog.depth 100 (2 / Tryz.prog.cellsOf 100) 0 100 1=true:=by kernel_rfl
set_option maxHeartbeats 1000000 in
set_option maxRecDepth 1000000 in
theorem cc_used (b:Nat) (w:World) (h0:w.cell? ⟨b,0,none⟩=some (.pointer (some ⟨b,0,none⟩))) :
  Calls Tryz.prog 113 #[.pointer (some ⟨b,0,none⟩)] w fun e w'=>e = .returned (.tuple #[])/\w'=w:=by
 obtain ⟨j,hj,_⟩:=Option.map_eq_some_iff.1 size_bld
 go_enter Tryz.func113,Tryz.ntmps113
 go_wp2
 rw [Lib.run_neq_ptr_same w _ Tryz.underlying98 hj]
 go_wp2
 go_end0
 exact ⟨rfl,rfl⟩
set_option maxHeartbeats 1000000 in
set_option maxRecDepth 1000000 in
theorem cc_fresh (b:Nat) (w:World) (h0:w.cell? ⟨b,0,none⟩=some (.pointer none)) (hsh:w.shape? b=some (100,2)) (hfz:w.frozen? ⟨b,0,none⟩=false) :
  Calls Tryz.prog 113 #[.pointer (some ⟨b,0,none⟩)] w fun e w'=>e = .returned (.tuple #[])/\w'=w.setCell ⟨b,0,none⟩ (.pointer (some ⟨b,0,none⟩)):=by
 obtain ⟨j,hj,hjs⟩:=Option.map_eq_some_iff.1 size_bld
 go_enter Tryz.func113,Tryz.ntmps113
 go_wp2
 rw [Lib.run_to_unsafe w ⟨b,0,none⟩ Tryz.underlying98 Tryz.underlying178 hj (by rw [hjs];decide) hsh (Nat.zero_lt_succ 1)]
 simp only [Result.andThen]
 rw [Oper.upon_value]
 go_wp2
 rw [run_callFunc_extern Tryz.func141 (by kernel_rfl) (by kernel_rfl) (by kernel_rfl) (e:=Extern.AbiNoEscape.same) (by kernel_rfl)]
 rw [Lib.run_noEscape]
 simp only [Result.andThen]
 rw [Oper.upon_value]
 go_wp2
 rw [Lib.run_from_unsafe w ⟨b,0,none⟩ Tryz.underlying178 Tryz.underlying98 hj hsh lies_bld]
 simp only [Result.andThen]
 rw [Oper.upon_value]
 go_wp2
 go_end0
 exact ⟨rfl,rfl⟩
end Go.A
namespace Go.A
open Go.Proofs
theorem copyCheck_typ {σ:ASt} {b:Nat} (h:σ b=some (.typ 100 [.pointer none,.slice none 0 0])) :
  ACalls Tryz.prog 113 [.ptr b 0] σ fun v σ'=>v = .tuple []/\σ'=σ.set b (some (.obj [.ptr b 0,.sl .full []])):=by
 intro w vs hs ha
 cases ha with
 | cons h1 h2=>
 cases h1;cases h2
 have hb:w.heap[b]? = some (.cells ⟨[.pointer none,.slice none 0 0]⟩ 100 (0,0)):=hs b _ h
 refine (cc_fresh b w (by simp [World.cell?,hb]) (by simp [World.shape?,hb]) (by simp [World.frozen?,hb])).mono ?_
 rintro e w' ⟨rfl,rfl⟩
 have hw:=Wrote.setCell (o:=0) hb (.pointer (some ⟨b,0,none⟩))
 have hle:Le σ w (σ.set b (some (.obj [.ptr b 0,.sl .full []]))) (w.setCell ⟨b,0,none⟩ (.pointer (some ⟨b,0,none⟩))):=by
  refine ⟨hw.os,hw.tape,hw.output,by rw [hw.size];exact Nat.le_refl _,fun x hx hn=>?_,fun x cs hx hn=>?_,fun x f hx hn=>?_⟩
  all_goals have hne:x≠b:=by rintro rfl;rw [h] at hn;cases hn
  ·rw [ASt.set_ne hne];exact ⟨hn,hw.other x hne⟩
  ·rw [ASt.set_ne hne];exact ⟨.inr hn,hw.other x hne⟩
  ·rw [ASt.set_ne hne];exact ⟨.inr ⟨f,Nat.le_refl _,hn⟩,shape_of_heap_eq (hw.other x hne),fun o _=>cell_of_heap_eq (hw.other x hne) o⟩
 have hro:RoleOk (σ.set b (some (.obj [.ptr b 0,.sl .full []]))) (w.setCell ⟨b,0,none⟩ (.pointer (some ⟨b,0,none⟩))) b (.obj [.ptr b 0,.sl .full []]):=by
  refine ⟨_,_,_,hw.new,?_,fun o ho=>?_⟩
  ·exact .cons (.ptr _ _) (.cons .slN .nil)
  ·rw [hw.frozen]
   simp only [World.frozen?,hb]
   simp
 exact ⟨_,_,_,rfl,⟨rfl,rfl⟩,hle,hw.sim hs hle hro,.tuple .nil⟩
theorem copyCheck_used {σ:ASt} {b:Nat} {x:AV} (h:σ b=some (.obj [.ptr b 0,x])):ACalls Tryz.prog 113 [.ptr b 0] σ fun v σ'=>v = .tuple []/\σ'=σ:=by
 intro w vs hs ha
 cases ha with
 | cons h1 h2=>
 cases h1;cases h2
 obtain ⟨us,h3,h4,_⟩:=hs.objCell h
 cases h3 with
 | cons h5 h6=>
 cases h5
 refine (cc_used b w (h4 0 _ rfl)).mono ?_
 rintro e w' ⟨rfl,rfl⟩
 exact ⟨_,_,_,rfl,⟨rfl,rfl⟩,Le.refl _ _,hs,.tuple .nil⟩
theorem bstring_typ {σ:ASt} {b:Nat} (h:σ b=some (.typ 100 [.pointer none,.slice none 0 0])):ACalls Tryz.prog 49 [.ptr b 0] σ fun v σ'=>v = .str []/\σ'=σ:=by
 intro w vs hs ha
 cases ha with
 | cons h1 h2=>
 cases h1;cases h2
 have hb:w.heap[b]? = some (.cells ⟨[.pointer none,.slice none 0 0]⟩ 100 (0,0)):=hs b _ h
 refine (bstr_nil Tryz.lays169 Tryz.Builder_Extra_169 b w (by simp [World.cell?,hb])).mono ?_
 rintro e w' ⟨rfl,rfl⟩
 have hx:Ext w w.drew:=Ext.drew (Ext.refl w)
 exact ⟨_,_,_,rfl,⟨rfl,rfl⟩,ext_le hx,hs.ext hx,.str []⟩
theorem row_bytes {σ:ASt} {w:World} {b:Nat}:∀ {l:List UInt8} {o:Nat},Row σ w b o 1 (bytesAV l)->∀ j x,l[j]? = some x->w.cell? ⟨b,o+j,none⟩=some (.int .u8 x.toNat)
 | [],o,h,j,x,hj=>by simp at hj
 | c::l,o,h,j,x,hj=>by
   cases h with
   | cons h1 h2 h3=>
   cases j with
   | zero=>
     simp only [List.getElem?_cons_zero,Option.some.injEq] at hj
     subst hj
     cases h2 with
     | cons g1 g2 g3 g4=>
     cases g3
     exact g2
   | succ j=>
     have:=row_bytes (l:=l) h3 j x (by simpa using hj)
     rw [show o+(j+1)=o+1+j by omega]
     exact this
theorem bstring_used {σ:ASt} {b g:Nat} {p:AV} {l:List UInt8} (h0:l ≠ []) (hl:l.length<=9223372036854775807) (h:σ b=some (.obj [p,.sl (.tok g 1 5) (bytesAV l)])) (hg:σ g=some (.tok l.length)) :
  ACalls Tryz.prog 49 [.ptr b 0] σ fun v σ'=>v = .str l/\σ'=σ:=by
 intro w vs hs ha
 cases ha with
 | cons h1 h2=>
 cases h1;cases h2
 obtain ⟨us,h3,h4,h9⟩:=hs.objCell h
 cases h3 with
 | cons h5 h6=>
 cases h6 with
 | cons h7 h8=>
 cases h8
 obtain ⟨c,T,fr,k1,k2,k3⟩:=hs g _ hg
 have hlen:(bytesAV l).length=l.length:=by simp [bytesAV]
 generalize hbl:bytesAV l=bl at h7
 cases h7 with
 | sl r1 r2 r3 r4 r5=>
 subst hbl
 obtain ⟨rfl,rfl,rfl,r6,r7⟩:=r4
 have hpos:0<l.length:=List.length_pos_iff.2 h0
 subst r2
 rw [hlen] at r3
 have hc1:=h4 1 _ rfl
 rw [hlen] at hc1
 refine (bstr_used Tryz.lays169 Tryz.Builder_Extra_169 b g _ _ l w h0 hc1 (by omega) r6 (by omega) hl ?_).mono ?_
 ·intro j x hj
  have:=row_bytes r1 j x hj
  simpa using this
 rintro e w' ⟨rfl,rfl⟩
 have hother:∀ x,x≠g->(w.drew.freeze ⟨g,0,none⟩ l.length).heap[x]? = w.heap[x]? := by
  intro x hx
  simp only [World.freeze]
  rw [if_neg (by omega)]
  simp only [Array.getElem?_modify]
  rw [if_neg (Ne.symm hx)]
  rfl
 obtain ⟨lo,hi⟩:=fr
 have hk1:w.drew.heap[g]? = some (.cells c T (lo,hi)):=k1
 obtain ⟨fr',hfr,hnew⟩:∃ fr':Nat×Nat,fr'.2<=l.length/\(w.drew.freeze ⟨g,0,none⟩ l.length).heap[g]? = some (.cells c T fr'):=by
  refine ⟨if lo==hi then (0,0+l.length) else (min lo 0,max hi (0+l.length)),?_,?_⟩
  ·dsimp only at k3
   split<;>dsimp only<;>omega
  ·simp only [World.freeze]
   rw [if_neg (by omega)]
   simp only [Array.getElem?_modify,if_true,hk1,Option.map_some]
 have hshape:(w.drew.freeze ⟨g,0,none⟩ l.length).shape? g=w.shape? g:=by simp only [World.shape?,hnew,k1]
 have hcells:∀ o,(w.drew.freeze ⟨g,0,none⟩ l.length).cell? ⟨g,o,none⟩=w.cell? ⟨g,o,none⟩:=fun o=>by simp only [World.cell?,hnew,k1]
 have hle:Le σ w σ (w.drew.freeze ⟨g,0,none⟩ l.length):=by
  refine ⟨?_,?_,?_,?_,fun x hx hn=>?_,fun x cs hx hn=>?_,fun x f hx hn=>?_⟩
  ·simp only [World.freeze];split<;>rfl
  ·simp only [World.freeze];split<;>rfl
  ·simp only [World.freeze];split<;>rfl
  ·simp only [World.freeze];split
   ·exact Nat.le_refl _
   ·rw [Array.size_modify];exact Nat.le_refl _
  ·have hne:x≠g:=by rintro rfl;rw [hg] at hn;cases hn
   exact ⟨hn,hother x hne⟩
  ·have hne:x≠g:=by rintro rfl;rw [hg] at hn;cases hn
   exact ⟨.inr hn,hother x hne⟩
  ·by_cases hne:x=g
   ·subst hne
    exact ⟨.inr ⟨f,Nat.le_refl _,hn⟩,hshape,fun o _=>hcells o⟩
   ·exact ⟨.inr ⟨f,Nat.le_refl _,hn⟩,shape_of_heap_eq (hother x hne),fun o _=>cell_of_heap_eq (hother x hne) o⟩
 have hsim:Sim σ (w.drew.freeze ⟨g,0,none⟩ l.length):=by
  intro x q hx
  by_cases hne:x=g
  ·subst hne
   rw [hg] at hx
   injection hx with hx
   subst hx
   exact ⟨c,T,fr',hnew,k2,hfr⟩
  ·exact (hs x q hx).keep hle (hother x hne)
 exact ⟨_,_,_,rfl,⟨rfl,rfl⟩,hle,hsim,.str l⟩
end Go.A
namespace Go.A
open Go.Proofs
/-! 78: tabular/token.Quote -/
def c78_3:ACode := .seq (.ops [ oq 2 (.mv (.v (.str [])))]) (.seq (.ops [ oq 3 (.mv (.t 0)),oe 4 (.call 117 [(.t 3),(.v (.str [34])),(.v (.str [34,34]))]),oq 5 (.bin .add (.v (.str [34])) (.t 4)),oq 6 (.bin .add (.t 5) (.v (.str [34]))),oq 2 (.mv (.t 6))]) .ret)
@[go_sem] def c78_3_wp:=wp_of c78_3.eq_1
def c78:AFn:=⟨7,[.t 2],c78_3⟩
theorem c78_ok:compF Tryz.prog Tryz.f78=some c78:=by kernel_rfl
theorem a78 {args:List AV} {σ:ASt} {R:AV->ASt->Prop} (hl:args.length<=7) (h:c78_3.wp Tryz.prog (RetQ [.t 2] R) (init args) σ):ACalls Tryz.prog 78 args σ R:=acalls_of Tryz.func78 c78_ok hl h
end Go.A
namespace Go.A
open Go.Proofs Go.Lib
def dbl (s:List UInt8):List UInt8:=s.flatMap fun c=>if c=34 then [34,34] else [c]
theorem dbl_nil:dbl [] = []:=rfl
theorem dbl_q (s:List UInt8):dbl (34::s)=34::34::dbl s:=by simp [dbl]
theorem dbl_o {c:UInt8} (h:c≠34) (s:List UInt8):dbl (c::s)=c::dbl s:=by simp [dbl,h]
theorem dbl_app (u v:List UInt8):dbl (u++v)=dbl u++dbl v:=by simp [dbl]
theorem dbl_same:∀ u:List UInt8,34 ∉ u->dbl u=u
 | [],_=>rfl
 | c::u,h=>by
   simp only [List.mem_cons,not_or] at h
   rw [dbl_o (fun e=>h.1 e.symm),dbl_same u h.2]
theorem rep_ne {c:UInt8} (hc:c≠34) (new:List UInt8):∀ (k:Nat) (s:List UInt8),replaceK [34] new k (c::s)=c::replaceK [34] new k s
 | 0,s=>rfl
 | k+1,s=>by
   have hp:([34]:List UInt8).isPrefixOf (c::s)=false:=by
    simp [List.isPrefixOf]
    exact fun h=>hc h.symm
   have hi:index (c::s) [34]=if index s [34] == -1 then -1 else index s [34]+1:=by
    rw [index,hp]
    simp
   unfold replaceK
   rw [hi]
   have hge:=index_ge s [34]
   by_cases h:index s [34] = -1
   ·have hb:(index s [34] == -1)=true:=by rw [h];rfl
    rw [if_pos hb,if_pos (by rfl),if_pos hb]
   ·have hb:¬ (index s [34] == -1)=true:=by rw [beq_iff_eq];exact h
    rw [if_neg hb,if_neg (by rw [beq_iff_eq];omega),if_neg hb]
    have e:(index s [34]+1).toNat=(index s [34]).toNat+1:=by omega
    rw [e,List.take_succ_cons]
    simp only [List.length_cons,List.length_nil,List.cons_append]
    rw [show (index s [34]).toNat+1+(0+1)=((index s [34]).toNat+(0+1))+1 by omega,List.drop_succ_cons]
theorem rep_eq (new:List UInt8) (k:Nat) (s:List UInt8):replaceK [34] new (k+1) (34::s)=new++replaceK [34] new k s:=by
 have hi:index (34::s) [34]=0:=by
  rw [index]
  simp [List.isPrefixOf]
 rw [replaceK,hi]
 simp
theorem rep_dbl:∀ s:List UInt8,replaceK [34] [34,34] (s.count 34) s=dbl s
 | []=>rfl
 | c::s=>by
   by_cases hc:c=34
   ·subst hc
    rw [List.count_cons_self,rep_eq,rep_dbl s,dbl_q]
    rfl
   ·rw [List.count_cons_of_ne (by simpa using hc),rep_ne hc,rep_dbl s,dbl_o hc]
theorem replace_dbl (s:List UInt8):replaceAll s [34] [34,34]=dbl s:=by
 unfold replaceAll replace replaceNum
 rw [if_neg (by decide),if_pos (.inl (by omega)),count_one,rep_dbl]
theorem dbl_len (s:List UInt8):(dbl s).length<=2*s.length:=by
 induction s with
 | nil=>simp [dbl]
 | cons c s ih=>
   by_cases hc:c=34
   ·subst hc;rw [dbl_q];simp;omega
   ·rw [dbl_o hc];simp;omega
def MaxL (σ:ASt):Prop:=∃ m:Int,σ 2=some (.fix ([m].map (AV.int .i64)))
theorem replace_ok {σ:ASt} (hM:MaxL σ) (s:List UInt8) (hs:s.length<=100000):ACalls Tryz.prog 117 [.str s,.str [34],.str [34,34]] σ fun v σ'=>v = .str (dbl s)/\σ'=σ:=by
 obtain ⟨m,hm⟩:=hM
 refine ACalls.of_below (u := .string ⟨⟨dbl s⟩⟩) (fun w vs hsim ha=>?_) fun w => .str _
 cases ha with
 | cons h1 h2=>
 cases h2 with
 | cons h2 h3=>
 cases h3 with
 | cons h3 h4=>
 cases h1;cases h2;cases h3;cases h4
 have hcell:=fix_ints hsim hm 0 m rfl
 have e1:(⟨⟨s⟩⟩:ByteArray).size=s.length:=rfl
 have e2:(⟨⟨[34,34]⟩⟩:ByteArray).size=2:=rfl
 have hcb:countB ⟨⟨s⟩⟩ ⟨⟨[34]⟩⟩<=s.length:=by
  show count s [34]<=s.length
  rw [count_one]
  exact List.count_le_length
 refine (Tryz.strings_ReplaceAll ⟨⟨s⟩⟩ ⟨⟨[34]⟩⟩ ⟨⟨[34,34]⟩⟩ m w (by rw [e1];omega) hcell (by decide) (by rw [e1,e2];omega)).mono ?_
 rintro e w' ⟨rfl,hb⟩
 refine ⟨?_,hb⟩
 show _=Ending.returned (.string ⟨⟨dbl s⟩⟩)
 rw [<-replace_dbl]
theorem tquote_ok {σ:ASt} (hM:MaxL σ) (s:List UInt8) (hs:s.length<=100000):ACalls Tryz.prog 78 [.str s] σ fun v σ'=>v = .str (34::dbl s ++ [34])/\σ'=σ:=by
 have hl:=dbl_len s
 refine a78 (by simp) ?_
 simp (disch:=first|assumption|omega) only [go_sem,reduceCtorEq,↓reduceIte]
 refine (replace_ok hM s hs).mono ?_
 rintro v σ' ⟨rfl,rfl⟩
 have e1:binS .add [34] (dbl s)=some (.str (34::dbl s)):=binS_add (by simp;omega)
 have e2:binS .add (34::dbl s) [34]=some (.str (34::dbl s ++ [34])):=binS_add (by simp;omega)
 simp (disch:=first|assumption|omega) only [go_sem,↓reduceIte,e1,e2]
 exact retC_by (Drop.refl _) (.refl _) ⟨rfl,rfl⟩
end Go.A
namespace Go.A
open Go.Proofs
/-! 81: (tabular/addr.Ref).Text -/
def c81_3:ACode := .seq (.ops [ oe 1 (.box (.t 0)),oq 2 (.mv (.v (.str [])))]) (.seq (.ops [ oq 3 (.fa 3 (.t 1)),oq 4 (.ld none (.t 3)),oq 6 (.fa 1 (.t 1)),oq 7 (.ld none (.t 6)),oq 10 (.fa 2 (.t 1)),oq 11 (.ld none (.t 10)),oq 14 (.fa 0 (.t 1)),oq 15 (.ld none (.t 14)),oq 16 (.bin .add (.t 15) (.v (.int .i64 1))),⟨some 5,none,.e (.call 120 [(.t 4)]),[⟨none,.ld none (.t 6),7⟩,⟨none,.ld none (.t 10),11⟩,⟨none,.ld none (.t 14),15⟩]⟩,⟨some 8,none,.e (.call 121 [(.t 7)]),[⟨none,.ld none (.t 10),11⟩,⟨none,.ld none (.t 14),15⟩]⟩,oq 9 (.bin .add (.t 5) (.t 8)),⟨some 12,none,.e (.call 120 [(.t 11)]),[⟨none,.ld none (.t 14),15⟩]⟩,oq 13 (.bin .add (.t 9) (.t 12)),oe 17 (.call 122 [(.t 16)]),oq 18 (.bin .add (.t 13) (.t 17)),oq 2 (.mv (.t 18))]) .ret)
@[go_sem] def c81_3_wp:=wp_of c81_3.eq_1
def c81:AFn:=⟨19,[.t 2],c81_3⟩
theorem c81_ok:compF Tryz.prog Tryz.f81=some c81:=by kernel_rfl
theorem a81 {args:List AV} {σ:ASt} {R:AV->ASt->Prop} (hl:args.length<=19) (h:c81_3.wp Tryz.prog (RetQ [.t 2] R) (init args) σ):ACalls Tryz.prog 81 args σ R:=acalls_of Tryz.func81 c81_ok hl h
/-! 82: (tabular/addr.Area).Text -/
def c82_3:ACode := .seq (.ops [ oe 1 (.box (.t 0)),oq 2 (.mv (.v (.str [])))]) (.seq (.ops [ oq 3 (.fa 0 (.t 1)),oq 4 (.ld (some 4) (.t 3)),oq 7 (.fa 4 (.t 1)),oq 8 (.ld (some 4) (.t 7)),⟨some 5,none,.e (.call 81 [(.t 4)]),[⟨none,.ld (some 4) (.t 7),8⟩]⟩,oq 6 (.bin .add (.t 5) (.v (.str [58]))),oe 9 (.call 81 [(.t 8)]),oq 10 (.bin .add (.t 6) (.t 9)),oq 2 (.mv (.t 10))]) .ret)
@[go_sem] def c82_3_wp:=wp_of c82_3.eq_1
def c82:AFn:=⟨11,[.t 2],c82_3⟩
theorem c82_ok:compF Tryz.prog Tryz.f82=some c82:=by kernel_rfl
theorem a82 {args:List AV} {σ:ASt} {R:AV->ASt->Prop} (hl:args.length<=11) (h:c82_3.wp Tryz.prog (RetQ [.t 2] R) (init args) σ):ACalls Tryz.prog 82 args σ R:=acalls_of Tryz.func82 c82_ok hl h
/-! 120: tabular/addr.dollar -/
def c120_9:ACode := .seq (.ops [ oq 2 (.mv (.v (.str [])))]) (.seq (.seq (.ops [ oq 3 (.mv (.t 0))]) (.cond (.t 3) (.seq (.ops [ oq 2 (.mv (.v (.str [36])))]) .ret) .skip)) (.seq (.ops [ oq 2 (.mv (.v (.str [])))]) .ret))
@[go_sem] def c120_9_wp:=wp_of c120_9.eq_1
def c120:AFn:=⟨4,[.t 2],c120_9⟩
theorem c120_ok:compF Tryz.prog Tryz.f120=some c120:=by kernel_rfl
theorem a120 {args:List AV} {σ:ASt} {R:AV->ASt->Prop} (hl:args.length<=4) (h:c120_9.wp Tryz.prog (RetQ [.t 2] R) (init args) σ):ACalls Tryz.prog 120 args σ R:=acalls_of Tryz.func120 c120_ok hl h
end Go.A
namespace Go.A
open Go.Proofs
theorem dollar_ok (b:Bool):Pure Tryz.prog 120 [.bool b] (.str (dolP b)):=by
 intro σ
 refine a120 (by simp) ?_
 cases b
 ·simp (disch:=first|assumption|omega) only [go_sem,reduceCtorEq,↓reduceIte]
  exact retC_by (Drop.refl _) (.refl _) ⟨rfl,rfl⟩
 ·simp (disch:=first|assumption|omega) only [go_sem,reduceCtorEq,↓reduceIte]
  exact retC_by (Drop.refl _) (.refl _) ⟨rfl,rfl⟩
theorem text_ok {σ:ASt} (ht:Tab σ) {r:Ref} (hg:r.good=true):ACalls Tryz.prog 81 [refAV r] σ fun v σ'=>v = .str (textP r)/\σ'=σ:=by
 have hg':=hg
 simp only [Ref.good,decide_eq_true_eq] at hg'
 obtain ⟨g1,g2,g3,g4⟩:=hg'
 have hi:=itoa_num g1 g2
 have hl:=letters_len r.col
 have hn:=(num_facts g1 g2).2.2.2.1
 have hd1:(dolP r.absCol).length<=1:=by unfold dolP;split<;>simp
 have hd2:(dolP r.absRow).length<=1:=by unfold dolP;split<;>simp
 obtain ⟨l,hlq⟩:∃ l,textP r=l:=⟨_,rfl⟩
 rw [hlq]
 unfold textP at hlq
 refine a81 (by simp) ?_
 simp (disch:=first|assumption|omega|(simp only [List.length_append,List.length_cons,List.length_nil];omega)) only [go_sem,refAV]
 refine boxC_by rfl fun b hb=>?_
 simp (disch:=first|assumption|omega|(simp only [List.length_append,List.length_cons,List.length_nil];omega)) only [go_sem,Nat.reduceEqDiff,↓reduceIte]
 refine (dollar_ok _).use ?_
 simp (disch:=first|assumption|omega|(simp only [List.length_append,List.length_cons,List.length_nil];omega)) only [go_sem,Nat.reduceEqDiff,↓reduceIte]
 refine (letters_ok _).use ?_
 simp (disch:=first|assumption|omega|(simp only [List.length_append,List.length_cons,List.length_nil];omega)) only [go_sem,Nat.reduceEqDiff,↓reduceIte]
 refine (dollar_ok _).use ?_
 simp (disch:=first|assumption|omega|(simp only [List.length_append,List.length_cons,List.length_nil];omega)) only [go_sem,Nat.reduceEqDiff,↓reduceIte]
 refine (itoa_ok (ht.set hb) (by omega) (by omega)).mono ?_
 rintro v σ' ⟨rfl,rfl⟩
 rw [hi]
 simp (disch:=first|assumption|omega|(simp only [List.length_append,List.length_cons,List.length_nil];omega)) only [go_sem,Nat.reduceEqDiff,↓reduceIte,hlq]
 exact retC_by (by repeat' (first|exact Drop.refl _|with_reducible refine Drop.off ?_ (by assumption))) (.refl _) ⟨rfl,rfl⟩
theorem atext_ok {σ:ASt} (ht:Tab σ) {a b:Ref} (ha:a.good=true) (hb:b.good=true):ACalls Tryz.prog 82 [areaAV a b] σ fun v σ'=>v = .str (textP a ++ [58]++textP b)/\σ'=σ:=by
 have l1:=text_len ha
 have l2:=text_len hb
 refine a82 (by simp) ?_
 simp (disch:=first|assumption|omega) only [go_sem,areaAV]
 refine boxC_by rfl fun b0 hb0=>?_
 simp (disch:=first|assumption|omega) only [go_sem,Nat.reduceEqDiff,Nat.reduceAdd,Nat.reduceLeDiff,↓reduceIte]
 refine (text_ok (ht.set hb0) ha).mono ?_
 rintro v σ' ⟨rfl,rfl⟩
 have e1:binS .add (textP a) [58]=some (.str (textP a ++ [58])):=binS_add (by simp only [List.length_cons,List.length_nil];omega)
 have e2:binS .add (textP a ++ [58]) (textP b)=some (.str (textP a ++ [58]++textP b)):=binS_add (by simp only [List.length_append,List.length_cons,List.length_nil];omega)
 simp (disch:=first|assumption|omega) only [go_sem,Nat.reduceEqDiff,Nat.reduceAdd,Nat.reduceLeDiff,↓reduceIte,e1]
 refine (text_ok (ht.set hb0) hb).mono ?_
 rintro v σ' ⟨rfl,rfl⟩
 simp (disch:=first|assumption|omega) only [go_sem,Nat.reduceEqDiff,↓reduceIte,e2]
 exact retC_by (by repeat' (first|exact Drop.refl _|with_reducible refine Drop.off ?_ (by assumption))) (.refl _) ⟨rfl,rfl⟩
end Go.A
namespace Go.A
open Go.Proofs
/-! 103: tabular/token.word -/
def c103_3:ACode := .seq (.ops [ oq 2 (.mv (.v (.bool false)))]) (.seq (.ops [ oq 3 (.mv (.t 0)),oq 4 (.bin .geq (.t 3) (.v (.int .u8 48))),oq 5 (.mv (.t 4)),⟨some 6,some (5,true),.q (.mv (.t 0)),[]⟩,⟨some 7,some (5,true),.q (.bin .leq (.t 6) (.v (.int .u8 57))),[]⟩,oq 8 (.pick (.t 5) (.t 7) (.v (.bool false))),oq 9 (.mv (.t 8)),⟨some 10,some (9,false),.q (.mv (.t 0)),[]⟩,⟨some 11,some (9,false),.q (.bin .geq (.t 10) (.v (.int .u8 97))),[]⟩,⟨some 12,some (9,false),.q (.mv (.t 11)),[]⟩,⟨some 13,some (12,true),.q (.mv (.t 0)),[]⟩,⟨some 14,some (12,true),.q (.bin .leq (.t 13) (.v (.int .u8 122))),[]⟩,⟨some 15,some (9,false),.q (.pick (.t 12) (.t 14) (.v (.bool false))),[]⟩,oq 16 (.pick (.t 9) (.v (.bool true)) (.t 15)),oq 17 (.mv (.t 16)),⟨some 18,some (17,false),.q (.mv (.t 0)),[]⟩,⟨some 19,some (17,false),.q (.bin .geq (.t 18) (.v (.int .u8 65))),[]⟩,⟨some 20,some (17,false),.q (.mv (.t 19)),[]⟩,⟨some 21,some (20,true),.q (.mv (.t 0)),[]⟩,⟨some 22,some (20,true),.q (.bin .leq (.t 21) (.v (.int .u8 90))),[]⟩,⟨some 23,some (17,false),.q (.pick (.t 20) (.t 22) (.v (.bool false))),[]⟩,oq 24 (.pick (.t 17) (.v (.bool true)) (.t 23)),oq 25 (.mv (.t 24)),⟨some 26,some (25,false),.q (.mv (.t 0)),[]⟩,⟨some 27,some (25,false),.q (.bin .eql (.t 26) (.v (.int .u8 95))),[]⟩,oq 28 (.pick (.t 25) (.v (.bool true)) (.t 27)),oq 29 (.mv (.t 28)),⟨some 30,some (29,false),.q (.mv (.t 0)),[]⟩,⟨some 31,some (29,false),.q (.bin .eql (.t 30) (.v (.int .u8 36))),[]⟩,oq 32 (.pick (.t 29) (.v (.bool true)) (.t 31)),oq 33 (.mv (.t 32)),⟨some 34,some (33,false),.q (.mv (.t 0)),[]⟩,⟨some 35,some (33,false),.q (.bin .eql (.t 34) (.v (.int .u8 46))),[]⟩,oq 36 (.pick (.t 33) (.v (.bool true)) (.t 35)),oq 2 (.mv (.t 36))]) .ret)
@[go_sem] def c103_3_wp:=wp_of c103_3.eq_1
def c103:AFn:=⟨37,[.t 2],c103_3⟩
theorem c103_ok:compF Tryz.prog Tryz.f103=some c103:=by kernel_rfl
theorem a103 {args:List AV} {σ:ASt} {R:AV->ASt->Prop} (hl:args.length<=37) (h:c103_3.wp Tryz.prog (RetQ [.t 2] R) (init args) σ):ACalls Tryz.prog 103 args σ R:=acalls_of Tryz.func103 c103_ok hl h
/-! 119: tabular/token.Errors -/
def c119_3:ACode := .seq (.ops [ oq 0 (.mv (.v (.sl .full [])))]) (.seq (.ops [ oq 1 (.bsl 1 [(.v (.str [35,68,73,86,47,48,33])),(.v (.str [35,78,85,77,33])),(.v (.str [35,86,65,76,85,69,33])),(.v (.str [35,82,69,70,33])),(.v (.str [35,78,47,65])),(.v (.str [35,78,65,77,69,63])),(.v (.str [35,67,89,67,76,69,33]))]),oq 0 (.mv (.t 1))]) .ret)
@[go_sem] def c119_3_wp:=wp_of c119_3.eq_1
def c119:AFn:=⟨2,[.t 0],c119_3⟩
theorem c119_ok:compF Tryz.prog Tryz.f119=some c119:=by kernel_rfl
theorem a119 {args:List AV} {σ:ASt} {R:AV->ASt->Prop} (hl:args.length<=2) (h:c119_3.wp Tryz.prog (RetQ [.t 0] R) (init args) σ):ACalls Tryz.prog 119 args σ R:=acalls_of Tryz.func119 c119_ok hl h
/-! 130: tabular/token.isNum -/
def c130_21:ACode := .seq (.ops [ oq 34 (.bin .lss (.t 33) (.t 32))]) (.seq (.cond (.t 34) .skip (.exit 0)) (.seq (.block 1 (.seq (.ops [ oq 35 (.ia 1 (.t 31) (.t 33)),oq 36 (.ld none (.t 35)),oq 7 (.mv (.t 36))]) (.seq (.ops [ oq 37 (.mv (.t 7)),oe 38 (.call 154 [(.t 37)]),oq 39 (.un .not (.t 38))]) (.cond (.t 39) (.seq (.ops [ oq 2 (.mv (.v (.bool false)))]) .ret) .skip)))) (.ops [ oq 40 (.bin .add (.t 33) (.v (.int .i64 1))),oq 33 (.mv (.t 40))])))
def c130_27:ACode := .seq (.seq (.ops [ oq 28 (.mv (.t 3)),oq 29 (.mv (.t 4)),oq 30 (.bin .add (.t 28) (.t 29)),oe 31 (.s2b (.t 30)),oq 32 (.len (.t 31)),oq 33 (.mv (.v (.int .i64 0)))]) (.block 0 (.loop c130_21))) (.seq (.ops [ oq 2 (.mv (.v (.bool true)))]) .ret)
def c130_30:ACode := .seq (.ops [ oq 2 (.mv (.v (.bool false)))]) (.seq (.ops [ oq 9 (.mv (.t 0)),oe 10 (.call 64 [(.t 9),(.v (.str [46]))]),oq 8 (.mv (.t 10)),oq 11 (.ext 0 (.t 8)),oq 12 (.ext 1 (.t 8)),oq 13 (.ext 2 (.t 8)),oq 3 (.mv (.t 11)),oq 4 (.mv (.t 12)),oq 5 (.mv (.t 13))]) (.seq (.seq (.ops [ oq 14 (.mv (.t 3)),oq 15 (.bin .eql (.t 14) (.v (.str []))),oq 16 (.mv (.t 15)),⟨some 17,some (16,false),.q (.mv (.t 5)),[]⟩,⟨some 18,some (16,false),.q (.mv (.t 17)),[]⟩,⟨some 19,some (18,true),.q (.mv (.t 4)),[]⟩,⟨some 20,some (18,true),.q (.bin .eql (.t 19) (.v (.str []))),[]⟩,⟨some 21,some (18,true),.q (.mv (.t 20)),[]⟩,⟨some 22,some (21,false),.q (.mv (.t 4)),[]⟩,⟨some 23,some (21,false),.q (.lenS (.t 22)),[]⟩,⟨some 24,some (21,false),.q (.bin .gtr (.t 23) (.v (.int .i64 4))),[]⟩,⟨some 25,some (18,true),.q (.pick (.t 21) (.v (.bool true)) (.t 24)),[]⟩,⟨some 26,some (16,false),.q (.pick (.t 18) (.t 25) (.v (.bool false))),[]⟩,oq 27 (.pick (.t 16) (.v (.bool true)) (.t 26))]) (.cond (.t 27) (.seq (.ops [ oq 2 (.mv (.v (.bool false)))]) .ret) .skip)) c130_27))
@[go_sem] def c130_21_wp:=wp_of c130_21.eq_1
@[go_sem] def c130_27_wp:=wp_of c130_27.eq_1
@[go_sem] def c130_30_wp:=wp_of c130_30.eq_1
def c130:AFn:=⟨41,[.t 2],c130_30⟩
theorem c130_ok:compF Tryz.prog Tryz.f130=some c130:=by kernel_rfl
theorem a130 {args:List AV} {σ:ASt} {R:AV->ASt->Prop} (hl:args.length<=41) (h:c130_30.wp Tryz.prog (RetQ [.t 2] R) (init args) σ):ACalls Tryz.prog 130 args σ R:=acalls_of Tryz.func130 c130_ok hl h
/-! 131: tabular/token.isRef -/
def c131_5:ACode := .seq (.ops [ oq 2 (.mv (.v (.bool false)))]) (.seq (.ops [ oq 6 (.mv (.t 0)),oe 7 (.call 155 [(.t 6)]),oq 5 (.mv (.t 7)),oq 8 (.ext 0 (.t 5)),oq 9 (.ext 1 (.t 5)),oe 3 (.alloc [(.int .i64 0),(.int .i64 0),(.bool false),(.bool false)]),oz (.store 4 (.t 3) (.t 8)),oq 4 (.mv (.t 9))]) (.seq (.ops [ oq 10 (.mv (.t 4)),oq 2 (.mv (.t 10))]) .ret))
@[go_sem] def c131_5_wp:=wp_of c131_5.eq_1
def c131:AFn:=⟨11,[.t 2],c131_5⟩
theorem c131_ok:compF Tryz.prog Tryz.f131=some c131:=by kernel_rfl
theorem a131 {args:List AV} {σ:ASt} {R:AV->ASt->Prop} (hl:args.length<=11) (h:c131_5.wp Tryz.prog (RetQ [.t 2] R) (init args) σ):ACalls Tryz.prog 131 args σ R:=acalls_of Tryz.func131 c131_ok hl h
/-! 132: tabular/token.great -/
def c132_15:ACode := .seq (.ops [ oq 11 (.bin .lss (.t 10) (.t 9))]) (.seq (.cond (.t 11) .skip (.exit 0)) (.seq (.block 1 (.seq (.ops [ oq 12 (.mv (.t 10)),oq 13 (.ia 1 (.t 8) (.t 10)),oq 14 (.ld none (.t 13)),oq 4 (.mv (.t 12)),oq 5 (.mv (.t 14))]) (.seq (.ops [ oq 15 (.mv (.t 5)),oq 16 (.bin .geq (.t 15) (.v (.int .u8 97))),oq 17 (.mv (.t 16)),⟨some 18,some (17,true),.q (.mv (.t 5)),[]⟩,⟨some 19,some (17,true),.q (.bin .leq (.t 18) (.v (.int .u8 122))),[]⟩,oq 20 (.pick (.t 17) (.t 19) (.v (.bool false)))]) (.cond (.t 20) (.ops [ oq 21 (.mv (.t 3)),oq 22 (.mv (.t 4)),oq 23 (.mv (.t 5)),oq 24 (.bin .sub (.t 23) (.v (.int .u8 32))),oq 25 (.ia 1 (.t 21) (.t 22)),oz (.store 1 (.t 25) (.t 24))]) .skip)))) (.ops [ oq 26 (.bin .add (.t 10) (.v (.int .i64 1))),oq 10 (.mv (.t 26))])))
def c132_23:ACode := .seq (.ops [ oq 2 (.mv (.v (.str [])))]) (.seq (.ops [ oq 6 (.mv (.t 0)),oe 7 (.s2b (.t 6)),oq 3 (.mv (.t 7))]) (.seq (.seq (.ops [ oq 8 (.mv (.t 3)),oq 9 (.len (.t 8)),oq 10 (.mv (.v (.int .i64 0)))]) (.block 0 (.loop c132_15))) (.seq (.ops [ oq 27 (.mv (.t 3)),oq 28 (.b2s (.t 27)),oq 2 (.mv (.t 28))]) .ret)))
@[go_sem] def c132_15_wp:=wp_of c132_15.eq_1
@[go_sem] def c132_23_wp:=wp_of c132_23.eq_1
def c132:AFn:=⟨29,[.t 2],c132_23⟩
theorem c132_ok:compF Tryz.prog Tryz.f132=some c132:=by kernel_rfl
theorem a132 {args:List AV} {σ:ASt} {R:AV->ASt->Prop} (hl:args.length<=29) (h:c132_23.wp Tryz.prog (RetQ [.t 2] R) (init args) σ):ACalls Tryz.prog 132 args σ R:=acalls_of Tryz.func132 c132_ok hl h
/-! 133: tabular/token.isName -/
def c133_15:ACode := .seq (.ops [ oq 7 (.bin .lss (.t 6) (.t 5))]) (.seq (.cond (.t 7) .skip (.exit 0)) (.seq (.block 1 (.seq (.ops [ oq 8 (.mv (.t 6)),oq 3 (.mv (.t 8))]) (.seq (.ops [ oq 9 (.mv (.t 0)),oq 10 (.mv (.t 3)),oq 11 (.idx (.t 9) (.t 10)),oe 12 (.call 103 [(.t 11)]),oq 13 (.un .not (.t 12)),oq 14 (.mv (.t 13)),⟨some 15,some (14,false),.q (.mv (.t 0)),[]⟩,⟨some 16,some (14,false),.q (.mv (.t 3)),[]⟩,⟨some 17,some (14,false),.q (.idx (.t 15) (.t 16)),[]⟩,⟨some 18,some (14,false),.q (.bin .eql (.t 17) (.v (.int .u8 36))),[]⟩,oq 19 (.pick (.t 14) (.v (.bool true)) (.t 18)),oq 20 (.mv (.t 19)),⟨some 21,some (20,false),.q (.mv (.t 3)),[]⟩,⟨some 22,some (20,false),.q (.bin .eql (.t 21) (.v (.int .i64 0))),[]⟩,⟨some 23,some (20,false),.q (.mv (.t 22)),[]⟩,⟨some 24,some (23,true),.q (.mv (.t 0)),[]⟩,⟨some 25,some (23,true),.q (.mv (.t 3)),[]⟩,⟨some 26,some (23,true),.q (.idx (.t 24) (.t 25)),[]⟩,⟨some 27,some (23,true),.e (.call 154 [(.t 26)]),[]⟩,⟨some 28,some (23,true),.q (.mv (.t 27)),[]⟩,⟨some 29,some (28,false),.q (.mv (.t 0)),[]⟩,⟨some 30,some (28,false),.q (.mv (.t 3)),[]⟩,⟨some 31,some (28,false),.q (.idx (.t 29) (.t 30)),[]⟩,⟨some 32,some (28,false),.q (.bin .eql (.t 31) (.v (.int .u8 46))),[]⟩,⟨some 33,some (23,true),.q (.pick (.t 28) (.v (.bool true)) (.t 32)),[]⟩,⟨some 34,some (20,false),.q (.pick (.t 23) (.t 33) (.v (.bool false))),[]⟩,oq 35 (.pick (.t 20) (.v (.bool true)) (.t 34))]) (.cond (.t 35) (.seq (.ops [ oq 2 (.mv (.v (.bool false)))]) .ret) .skip)))) (.ops [ oq 36 (.bin .add (.t 6) (.v (.int .i64 1))),oq 6 (.mv (.t 36))])))
def c133_22:ACode := .seq (.ops [ oq 2 (.mv (.v (.bool false)))]) (.seq (.seq (.ops [ oq 4 (.mv (.t 0)),oq 5 (.lenS (.t 4)),oq 6 (.mv (.v (.int .i64 0)))]) (.block 0 (.loop c133_15))) (.seq (.ops [ oq 37 (.mv (.t 0)),oq 38 (.bin .neq (.t 37) (.v (.str []))),oq 2 (.mv (.t 38))]) .ret))
@[go_sem] def c133_15_wp:=wp_of c133_15.eq_1
@[go_sem] def c133_22_wp:=wp_of c133_22.eq_1
def c133:AFn:=⟨39,[.t 2],c133_22⟩
theorem c133_ok:compF Tryz.prog Tryz.f133=some c133:=by kernel_rfl
theorem a133 {args:List AV} {σ:ASt} {R:AV->ASt->Prop} (hl:args.length<=39) (h:c133_22.wp Tryz.prog (RetQ [.t 2] R) (init args) σ):ACalls Tryz.prog 133 args σ R:=acalls_of Tryz.func133 c133_ok hl h
/-! 136: tabular/token.alike -/
def c136_37:ACode := .seq (.ops [ oq 2 (.mv (.v (.str [])))]) (.seq (.seq (.ops [ oq 3 (.mv (.t 0))]) (.block 0 (.seq (.ops [ oq 5 (.bin .eql (.t 3) (.v (.int .i32 8804))),oq 4 (.mv (.t 5))]) (.cond (.t 4) (.seq (.ops [ oq 2 (.mv (.v (.str [60,61])))]) .ret) (.seq (.ops [ oq 7 (.bin .eql (.t 3) (.v (.int .i32 8805))),oq 6 (.mv (.t 7))]) (.cond (.t 6) (.seq (.ops [ oq 2 (.mv (.v (.str [62,61])))]) .ret) (.seq (.ops [ oq 9 (.bin .eql (.t 3) (.v (.int .i32 8800))),oq 8 (.mv (.t 9))]) (.cond (.t 8) (.seq (.ops [ oq 2 (.mv (.v (.str [60,62])))]) .ret) (.seq (.ops [ oq 11 (.bin .eql (.t 3) (.v (.int .i32 215))),oq 10 (.mv (.t 11))]) (.cond (.t 10) (.seq (.ops [ oq 2 (.mv (.v (.str [42])))]) .ret) (.seq (.ops [ oq 13 (.bin .eql (.t 3) (.v (.int .i32 247))),oq 12 (.mv (.t 13))]) (.cond (.t 12) (.seq (.ops [ oq 2 (.mv (.v (.str [47])))]) .ret) (.seq (.ops [ oq 15 (.bin .eql (.t 3) (.v (.int .i32 8722))),oq 14 (.mv (.t 15))]) (.cond (.t 14) (.seq (.ops [ oq 2 (.mv (.v (.str [45])))]) .ret) .skip)))))))))))))) (.seq (.ops [ oq 2 (.mv (.v (.str [])))]) .ret))
@[go_sem] def c136_37_wp:=wp_of c136_37.eq_1
def c136:AFn:=⟨16,[.t 2],c136_37⟩
theorem c136_ok:compF Tryz.prog Tryz.f136=some c136:=by kernel_rfl
theorem a136 {args:List AV} {σ:ASt} {R:AV->ASt->Prop} (hl:args.length<=16) (h:c136_37.wp Tryz.prog (RetQ [.t 2] R) (init args) σ):ACalls Tryz.prog 136 args σ R:=acalls_of Tryz.func136 c136_ok hl h
/-! 154: tabular/token.digit -/
def c154_3:ACode := .seq (.ops [ oq 2 (.mv (.v (.bool false)))]) (.seq (.ops [ oq 3 (.mv (.t 0)),oq 4 (.bin .geq (.t 3) (.v (.int .u8 48))),oq 5 (.mv (.t 4)),⟨some 6,some (5,true),.q (.mv (.t 0)),[]⟩,⟨some 7,some (5,true),.q (.bin .leq (.t 6) (.v (.int .u8 57))),[]⟩,oq 8 (.pick (.t 5) (.t 7) (.v (.bool false))),oq 2 (.mv (.t 8))]) .ret)
@[go_sem] def c154_3_wp:=wp_of c154_3.eq_1
def c154:AFn:=⟨9,[.t 2],c154_3⟩
theorem c154_ok:compF Tryz.prog Tryz.f154=some c154:=by kernel_rfl
theorem a154 {args:List AV} {σ:ASt} {R:AV->ASt->Prop} (hl:args.length<=9) (h:c154_3.wp Tryz.prog (RetQ [.t 2] R) (init args) σ):ACalls Tryz.prog 154 args σ R:=acalls_of Tryz.func154 c154_ok hl h
end Go.A
namespace Go.A
open Go.Proofs Go.Lib
theorem word_ok (c:UInt8):Pure Tryz.prog 103 [.int .u8 c.toNat] (.bool (wordB c)):=by
 intro σ
 refine a103 (by simp) ?_
 have hc:=c.toNat_lt
 unfold wordB
 repeat' (first|(simp (disch:=first|assumption|omega) only [go_sem,reduceCtorEq,Nat.reduceEqDiff,↓reduceIte])|with_reducible refine gC_d (fun h=>?_) (fun h=>?_)|with_reducible refine gC_dn (fun h=>?_) (fun h=>?_)|with_reducible refine condC_d (fun h=>?_) (fun h=>?_)|with_reducible refine condC_n (fun h=>?_) (fun h=>?_)|with_reducible refine condC_b (fun h=>?_) (fun h=>?_)|with_reducible refine boxC_by ?_ fun b hb=>?_)
 all_goals refine retC_by (Drop.refl _) (.refl _) ⟨?_,rfl⟩
 all_goals (simp only [resV_one])<;>(congr 1)<;>(rw [Bool.eq_iff_iff];simp only [decide_eq_true_eq];omega)
theorem digit_ok (c:UInt8):Pure Tryz.prog 154 [.int .u8 c.toNat] (.bool (digB c)):=by
 intro σ
 refine a154 (by simp) ?_
 have hc:=c.toNat_lt
 unfold digB
 repeat' (first|(simp (disch:=first|assumption|omega) only [go_sem,reduceCtorEq,Nat.reduceEqDiff,↓reduceIte])|with_reducible refine gC_d (fun h=>?_) (fun h=>?_)|with_reducible refine gC_dn (fun h=>?_) (fun h=>?_)|with_reducible refine condC_d (fun h=>?_) (fun h=>?_)|with_reducible refine condC_n (fun h=>?_) (fun h=>?_)|with_reducible refine condC_b (fun h=>?_) (fun h=>?_)|with_reducible refine boxC_by ?_ fun b hb=>?_)
 all_goals refine retC_by (Drop.refl _) (.refl _) ⟨?_,rfl⟩
 all_goals (simp only [resV_one])<;>(congr 1)<;>(rw [Bool.eq_iff_iff];simp only [decide_eq_true_eq];omega)
theorem alike_ok (c:Int):Pure Tryz.prog 136 [.int .i32 c] (.str (alikeP c)):=by
 intro σ
 refine a136 (by simp) ?_
 unfold alikeP
 by_cases h1:c=8804
 ·simp (disch:=first|assumption|omega) only [go_sem,reduceCtorEq,↓reduceIte,h1];exact retC_by (Drop.refl _) (.refl _) ⟨by simp [resV_one],rfl⟩
 by_cases h2:c=8805
 ·simp (disch:=first|assumption|omega) only [go_sem,reduceCtorEq,Nat.reduceEqDiff,Int.reduceEq,↓reduceIte,h2];exact retC_by (Drop.refl _) (.refl _) ⟨by simp [resV_one],rfl⟩
 by_cases h3:c=8800
 ·simp (disch:=first|assumption|omega) only [go_sem,reduceCtorEq,Nat.reduceEqDiff,Int.reduceEq,↓reduceIte,h3];exact retC_by (Drop.refl _) (.refl _) ⟨by simp [resV_one],rfl⟩
 by_cases h4:c=215
 ·simp (disch:=first|assumption|omega) only [go_sem,reduceCtorEq,Nat.reduceEqDiff,Int.reduceEq,↓reduceIte,h4];exact retC_by (Drop.refl _) (.refl _) ⟨by simp [resV_one],rfl⟩
 by_cases h5:c=247
 ·simp (disch:=first|assumption|omega) only [go_sem,reduceCtorEq,Nat.reduceEqDiff,Int.reduceEq,↓reduceIte,h5];exact retC_by (Drop.refl _) (.refl _) ⟨by simp [resV_one],rfl⟩
 by_cases h6:c=8722
 ·simp (disch:=first|assumption|omega) only [go_sem,reduceCtorEq,Nat.reduceEqDiff,Int.reduceEq,↓reduceIte,h6];exact retC_by (Drop.refl _) (.refl _) ⟨by simp [resV_one],rfl⟩
 simp (disch:=first|assumption|omega) only [go_sem,reduceCtorEq,Nat.reduceEqDiff,↓reduceIte,h1,h2,h3,h4,h5,h6]
 exact retC_by (Drop.refl _) (.refl _) ⟨by simp [resV_one],rfl⟩
theorem isRef_ok (l:List UInt8) (hl:l.length<=9223372036854775000):Pure Tryz.prog 131 [.str l] (.bool (refB l)):=by
 intro σ
 refine a131 (by simp) ?_
 simp (disch:=first|assumption|omega) only [go_sem,reduceCtorEq,↓reduceIte]
 refine (parse_ok l hl).use ?_
 unfold refB
 obtain ⟨⟨⟨row,col,ar,ac⟩,ok⟩,hq⟩:∃ q,parseP l=q:=⟨_,rfl⟩
 rw [hq]
 simp (disch:=first|assumption|omega) only [go_sem,Nat.reduceEqDiff,↓reduceIte,refAV]
 refine allocC_by fun b hb=>?_
 simp (disch:=first|assumption|omega) only [go_sem,Nat.reduceEqDiff,Nat.reduceAdd,Nat.reduceLeDiff,↓reduceIte,Bool.true_and]
 exact retC_by (by repeat' (first|exact Drop.refl _|with_reducible refine Drop.off ?_ (by assumption))) (.refl _) ⟨rfl,rfl⟩
theorem tgreat_ok (l:List UInt8) (hl:l.length<4611686018427387904):Pure Tryz.prog 132 [.str l] (.str (greatP l)):=by
 intro σ
 refine a132 (by simp) ?_
 simp (disch:=first|assumption|omega) only [go_sem,reduceCtorEq,↓reduceIte]
 refine s2b_own fun b cp hb hcp=>?_
 simp (disch:=first|assumption|omega) only [go_sem,↓reduceIte]
 refine wp_loop_on (fun (i:Nat) a σ'=>i<=l.length/\(a 3 = .msl b 0 l.length cp/\a 8 = .msl b 0 l.length cp/\a 9 = .int .i64 l.length/\a 10 = .int .i64 i)/\σ'=σ.set b (some (.obj (bytesAV (greatP (l.take i)++l.drop i)))))
  (fun i=>l.length-i) 0 ⟨Nat.zero_le _,?_,by simp [greatP]⟩ ?_
 ·simp (disch:=first|assumption|omega) only [go_sem,Nat.reduceEqDiff,↓reduceIte]
 rintro i a σ1 ⟨hi,hf,rfl⟩
 obtain ⟨m,hm⟩:∃ m,greatP (l.take i)++l.drop i=m:=⟨_,rfl⟩
 have hml:m.length=l.length:=by rw [<-hm];simp [greatP];omega
 have hgl:(greatP (l.take i)).length=i:=by simp [greatP];omega
 rw [hm]
 by_cases hlt:i<l.length
 ·have hidx : m[i]? = some (l[i]'hlt) := by rw [← hm, List.getElem?_append_right (by omega), hgl]; simp
  obtain ⟨c, hc⟩ : ∃ c, l[i]'hlt = c := ⟨_, rfl⟩
  rw [hc] at hidx
  have hcb:=u8_lt c
  have hi2:(i:Int)<l.length:=by omega
  have hle:i+1<=m.length:=by omega
  have hnext:greatP (l.take (i+1))++l.drop (i+1)=m.set i (greatC c):=by
   rw [<-hm,List.take_succ_eq_append_getElem hlt,hc,List.set_append_right _ _ (by omega),hgl,Nat.sub_self]
   simp only [greatP,List.map_append,List.map_cons,List.map_nil,List.append_assoc,List.singleton_append]
   rw [List.drop_eq_getElem_cons hlt]
   rfl
  by_cases hg:97<=c.toNat/\c.toNat<=122
  ·have g1:(97:Int)<=c.toNat:=by omega
   have g2:(c.toNat:Int)<=122:=by omega
   have hgc:greatC c=UInt8.ofNat (c.toNat-32):=by unfold greatC;rw [if_pos hg]
   have hw:=set_bytes (l:=m) (i:=i) (m:=(c.toNat:Int)-32) (by omega)
   have hw0:(c.toNat:Int)-32=((UInt8.ofNat (c.toNat-32)).toNat:Int):=by rw [u8_nat (by omega)];omega
   rw [hw0,bytes_set] at hw
   simp (disch:=first|assumption|omega) only [go_sem,Nat.reduceEqDiff,↓reduceIte,Nat.mul_one,Bool.true_and,hf,hi2,hidx,g1,g2,hle,hw0,hw]
   refine ⟨i+1,by omega,by omega,?_,by rw [hnext,hgc]⟩
   simp (disch:=first|assumption|omega) only [go_sem]
  ·have hgc:greatC c=c:=by unfold greatC;rw [if_neg hg]
   have hms:m.set i c=m:=by
    apply List.ext_getElem?
    intro j
    rw [List.getElem?_set]
    split
    ·rename_i h;subst h;rw [hidx];split<;>first|rfl|omega
    ·rfl
   by_cases g1:(97:Int)<=c.toNat
   ·have g2:¬ (c.toNat:Int)<=122:=by omega
    simp (disch:=first|assumption|omega) only [go_sem,Nat.reduceEqDiff,↓reduceIte,Nat.mul_one,hf,hi2,hidx,g1,g2]
    refine ⟨i+1,by omega,by omega,?_,by rw [hnext,hgc,hms]⟩
    simp (disch:=first|assumption|omega) only [go_sem]
   ·simp (disch:=first|assumption|omega) only [go_sem,Nat.reduceEqDiff,↓reduceIte,Nat.mul_one,hf,hi2,hidx,g1]
    refine ⟨i+1,by omega,by omega,?_,by rw [hnext,hgc,hms]⟩
    simp (disch:=first|assumption|omega) only [go_sem]
 ·have hi2:¬ (i:Int)<l.length:=by omega
  have hle2:l.length<=m.length:=by omega
  have htk:=bytes_all hml
  simp (disch:=first|assumption|omega) only [go_sem,Nat.reduceEqDiff,↓reduceIte,hf,hi2,hle2,htk]
  refine retC_by (by repeat' (first|exact Drop.refl _|with_reducible refine Drop.off ?_ (by assumption))) (.refl _) ⟨?_,rfl⟩
  rw [<-hm,List.take_of_length_le (by omega),List.drop_eq_nil_of_le (by omega),List.append_nil]
  rfl
theorem errs_ok:Pure Tryz.prog 119 [] (.sl .full (errTexts.map AV.str)):=by
 intro σ
 refine a119 (by simp) ?_
 simp (disch:=first|assumption|omega) only [go_sem,↓reduceIte,Bool.true_and]
 exact retC_by (by repeat' (first|exact Drop.refl _|with_reducible refine Drop.off ?_ (by assumption))) (.refl _) ⟨rfl,rfl⟩
theorem index_dot:∀ l:List UInt8,(cutDot l).2=none/\indexByte l 46 = -1/\(cutDot l).1=l\/∃ (i:Nat) (p:List UInt8),indexByte l 46=i/\i<l.length/\cutDot l=(l.take i,some p)/\p=l.drop (i+1)
 | [] => .inl ⟨rfl,rfl,rfl⟩
 | c::l=>by
   unfold indexByte cutDot
   by_cases hc:c.toNat=46
   ·have:c=46:=by apply UInt8.toNat_inj.1;simpa using hc
    subst this
    exact .inr ⟨0,l,by simp,by simp,by simp,by simp⟩
   ·have hne:¬ (c==46)=true:=by
     intro h
     rw [beq_iff_eq] at h
     subst h
     exact hc rfl
    rw [if_neg hc,if_neg hne]
    rcases index_dot l with ⟨h1,h2,h3⟩|⟨i,p,h1,h2,h3,h4⟩
    ·exact .inl ⟨h1,by rw [h2];rfl,by rw [h3]⟩
    ·refine .inr ⟨i+1,p,?_,by simpa using h2,?_,by simpa using h4⟩
     ·rw [h1,if_neg (by rw [beq_iff_eq];omega)];rfl
     ·rw [h3];rfl
theorem cutdot_ok (l:List UInt8) (hl:l.length<=1000000000):Pure Tryz.prog 64 [.str l,.str [46]] (.tuple [.str (cutDot l).1,.str ((cutDot l).2.getD []),.bool (cutDot l).2.isSome]):=by
 have h1:Pure Tryz.prog 100 [.str l,.str [46]] (.tuple [.str (cutDot l).1,.str ((cutDot l).2.getD []),.bool (cutDot l).2.isSome]):=by
  intro σ
  refine a100 (by simp) ?_
  rcases index_dot l with ⟨h1,h2,h3⟩|⟨i,p,h1,h2,h3,h4⟩
  ·rw [h1,h3]
   simp (disch:=first|assumption|omega) only [go_sem,reduceCtorEq,Nat.reduceEqDiff,↓reduceIte]
   refine (index_ok l 46).use ?_
   rw [h2]
   simp (disch:=first|assumption|omega) only [go_sem,reduceCtorEq,Nat.reduceEqDiff,Int.reduceLE,↓reduceIte,Int.reduceNeg]
   exact retC_by (by repeat' (first|exact Drop.refl _|with_reducible refine Drop.off ?_ (by assumption))) (.refl _) ⟨rfl,rfl⟩
  ·rw [h3]
   subst h4
   have e1:(0:Int)<=i:=by omega
   have e2:((i:Int)+1).toNat=i+1:=by omega
   simp (disch:=first|assumption|omega) only [go_sem,reduceCtorEq,Nat.reduceEqDiff,↓reduceIte]
   refine (index_ok l 46).use ?_
   rw [h1]
   simp (disch:=first|assumption|omega) only [go_sem,reduceCtorEq,Nat.reduceEqDiff,↓reduceIte,e1,e2,List.take_length]
   exact retC_by (by repeat' (first|exact Drop.refl _|with_reducible refine Drop.off ?_ (by assumption))) (.refl _) ⟨rfl,rfl⟩
 intro σ
 refine a64 (by simp) ?_
 simp (disch:=first|assumption|omega) only [go_sem,reduceCtorEq,Nat.reduceEqDiff,↓reduceIte]
 refine h1.use ?_
 simp (disch:=first|assumption|omega) only [go_sem,Nat.reduceEqDiff,↓reduceIte]
 exact retC_by (by repeat' (first|exact Drop.refl _|with_reducible refine Drop.off ?_ (by assumption))) (.refl _) ⟨rfl,rfl⟩
theorem cutDot_len (l:List UInt8):(cutDot l).1.length+((cutDot l).2.getD []).length<=l.length:=by
 rcases index_dot l with ⟨h1,h2,h3⟩|⟨i,p,h1,h2,h3,h4⟩
 ·rw [h1,h3];simp
 ·rw [h3,h4];simp;omega
theorem isNum_ok (l:List UInt8) (hl:l.length<=1000000000):Pure Tryz.prog 130 [.str l] (.bool (numB l)):=by
 intro σ
 have hcd:=cutdot_ok l hl
 have hlen:=cutDot_len l
 obtain ⟨R,hR⟩:∃ R,numB l=R:=⟨_,rfl⟩
 rw [hR]
 refine a130 (by simp) ?_
 unfold numB at hR
 obtain ⟨⟨w,q⟩,hC⟩:∃ C,cutDot l=C:=⟨_,rfl⟩
 rw [hC] at hcd hlen hR
 dsimp only at hcd hlen
 obtain ⟨F,hF⟩:∃ F,F=ACode.wp Tryz.prog c130_27:=⟨_,rfl⟩
 have fin:∀ (p:List UInt8) (a:AFr),w.length+p.length<=l.length->(w++p).all digB=R->(a 3 = .str w/\a 4 = .str p)->F (RetQ [.t 2] fun v σ'=>v = .bool R/\σ'=σ) a σ:=by
  intro p a hlp hwp hf
  rw [hF]
  have hl2:w.length+p.length<=9223372036854775807:=by omega
  simp (disch:=first|assumption|omega) only [go_sem,Nat.reduceEqDiff,↓reduceIte,hf]
  refine s2b_shr ?_
  obtain ⟨m,hm⟩:∃ m,w++p=m:=⟨_,rfl⟩
  rw [hm] at hwp ⊢
  have hml:m.length<=1000000000:=by rw [<-hm];simp;omega
  simp (disch:=first|assumption|omega) only [go_sem,↓reduceIte]
  refine wp_loop_on (fun (i:Nat) a σ'=>i<=m.length/\(m.take i).all digB=true/\(a 31 = .sl .shr (bytesAV m)/\a 32 = .int .i64 m.length/\a 33 = .int .i64 i)/\σ'=σ) (fun i=>m.length-i) 0 ⟨Nat.zero_le _,rfl,?_,rfl⟩ ?_
  ·simp (disch:=first|assumption|omega) only [go_sem,Nat.reduceEqDiff,↓reduceIte]
  rintro i a σ1 ⟨hi,hall,hf,rfl⟩
  by_cases hlt:i<m.length
  ·have hidx : m[i]? = some (m[i]'hlt) := List.getElem?_eq_getElem hlt
   obtain ⟨c, hc⟩ : ∃ c, m[i]'hlt = c := ⟨_, rfl⟩
   rw [hc] at hidx
   have hlt':(i:Int)<m.length:=by omega
   simp (disch:=first|assumption|omega) only [go_sem,Nat.reduceEqDiff,↓reduceIte,hf,hlt',hidx]
   refine (digit_ok c).use ?_
   obtain ⟨d,hd⟩:∃ d,digB c=d:=⟨_,rfl⟩
   rw [hd]
   have hnx:(m.take (i+1)).all digB=d:=by
    rw [List.take_succ_eq_append_getElem hlt,hc,List.all_append,hall]
    simp [hd]
   cases d
   ·simp (disch:=first|assumption|omega) only [go_sem,↓reduceIte]
    have:m.all digB=false:=by
     have h1:=congrArg (fun x=>x && (m.drop (i+1)).all digB) hnx
     simp only [<-List.all_append,List.take_append_drop,Bool.false_and] at h1
     exact h1
    rw [this] at hwp
    subst hwp
    exact retC_by (by repeat' (first|exact Drop.refl _|with_reducible refine Drop.off ?_ (by assumption))) (.refl _) ⟨rfl,rfl⟩
   ·simp (disch:=first|assumption|omega) only [go_sem,Nat.reduceEqDiff,↓reduceIte,hf]
    exact ⟨i+1,by omega,by omega,hnx,rfl⟩
  ·have hlt':¬ (i:Int)<m.length:=by omega
   rw [List.take_of_length_le (by omega),hwp] at hall
   subst hall
   simp (disch:=first|assumption|omega) only [go_sem,↓reduceIte,hf,hlt']
   exact retC_by (by repeat' (first|exact Drop.refl _|with_reducible refine Drop.off ?_ (by assumption))) (.refl _) ⟨rfl,rfl⟩
 simp (disch:=first|assumption|omega) only [go_sem,reduceCtorEq,↓reduceIte]
 refine hcd.use ?_
 by_cases hw:w = []
 ·have:R=false:=by
   rw [<-hR]
   cases q<;>simp [hw]
  subst hw this
  simp (disch:=first|assumption|omega) only [go_sem,Nat.reduceEqDiff,↓reduceIte,←hF]
  exact retC_by (by repeat' (first|exact Drop.refl _|with_reducible refine Drop.off ?_ (by assumption))) (.refl _) ⟨rfl,rfl⟩
 cases q with
 | none=>
   simp (disch:=first|assumption|omega) only [go_sem,Nat.reduceEqDiff,↓reduceIte,hw,Option.isSome_none,Option.getD_none,←hF]
   refine fin [] _ (by simpa using hlen) (by rw [<-hR];simp [hw]) ?_
   simp (disch:=first|assumption|omega) only [go_sem,Nat.reduceEqDiff,↓reduceIte]
 | some p=>
   dsimp only [Option.getD_some] at hlen
   by_cases hp:p = []
   ·have:R=false:=by rw [<-hR];simp [hp]
    subst hp this
    simp (disch:=first|assumption|omega) only [go_sem,Nat.reduceEqDiff,↓reduceIte,hw,Option.getD_some,Option.isSome_some,←hF]
    exact retC_by (by repeat' (first|exact Drop.refl _|with_reducible refine Drop.off ?_ (by assumption))) (.refl _) ⟨rfl,rfl⟩
   by_cases h4:4<p.length
   ·have:R=false:=by rw [<-hR];simp [hp,show ¬ p.length<=4 by omega]
    subst this
    have h4':(4:Int)<p.length:=by omega
    simp (disch:=first|assumption|omega) only [go_sem,Nat.reduceEqDiff,↓reduceIte,hw,hp,h4',Option.getD_some,Option.isSome_some,←hF]
    exact retC_by (by repeat' (first|exact Drop.refl _|with_reducible refine Drop.off ?_ (by assumption))) (.refl _) ⟨rfl,rfl⟩
   ·have h4':¬ (4:Int)<p.length:=by omega
    simp (disch:=first|assumption|omega) only [go_sem,Nat.reduceEqDiff,↓reduceIte,hw,hp,h4',Option.getD_some,Option.isSome_some,←hF]
    refine fin p _ hlen (by rw [<-hR];simp [hw,hp,show p.length<=4 by omega]) ?_
    simp (disch:=first|assumption|omega) only [go_sem,Nat.reduceEqDiff,↓reduceIte]
theorem isName_ok (l:List UInt8) (hl:l.length<=1000000000):Pure Tryz.prog 133 [.str l] (.bool (nameB l)):=by
 intro σ
 refine a133 (by simp) ?_
 obtain ⟨R,hR⟩:∃ R,nameB l=R:=⟨_,rfl⟩
 rw [hR]
 unfold nameB at hR
 simp (disch:=first|assumption|omega) only [go_sem,reduceCtorEq,↓reduceIte]
 refine wp_loop_on (fun (i:Nat) a σ'=>i<=l.length/\(l.take i).all (fun c=>wordB c && decide (c.toNat≠36))=true/\(0<i->((l.head?.map fun c=>digB c || decide (c.toNat=46)).getD false)=false)/\(a 0 = .str l/\a 5 = .int .i64 l.length/\a 6 = .int .i64 i)/\σ'=σ) (fun i=>l.length-i) 0 ⟨Nat.zero_le _,rfl,by omega,?_,rfl⟩ ?_
 ·simp (disch:=first|assumption|omega) only [go_sem,reduceCtorEq,Nat.reduceEqDiff,↓reduceIte]
 rintro i a σ1 ⟨hi,hall,hfst,hf,rfl⟩
 by_cases hlt:i<l.length
 ·have hidx : l[i]? = some (l[i]'hlt) := List.getElem?_eq_getElem hlt
  obtain ⟨c, hc⟩ : ∃ c, l[i]'hlt = c := ⟨_, rfl⟩
  rw [hc] at hidx
  have hlt':(i:Int)<l.length:=by omega
  have hstep:(l.take (i+1)).all (fun c=>wordB c && decide (c.toNat≠36))=(wordB c && decide (c.toNat≠36)):=by
   rw [List.take_succ_eq_append_getElem hlt,hc,List.all_append,hall]
   simp
  have hno:(wordB c && decide (c.toNat≠36))=false->R=false:=by
   intro h
   rw [h] at hstep
   have h1:=congrArg (fun x=>x && (l.drop (i+1)).all (fun c=>wordB c && decide (c.toNat≠36))) hstep
   simp only [<-List.all_append,List.take_append_drop,Bool.false_and] at h1
   rw [<-hR,h1]
   simp
  simp (disch:=first|assumption|omega) only [go_sem,reduceCtorEq,Nat.reduceEqDiff,↓reduceIte,hf,hlt',hidx]
  refine (word_ok c).use ?_
  cases hwd:wordB c with
  | false=>
    obtain rfl:=hno (by rw [hwd];rfl)
    simp (disch:=first|assumption|omega) only [go_sem,Nat.reduceEqDiff,↓reduceIte]
    exact retC_by (by repeat' (first|exact Drop.refl _|with_reducible refine Drop.off ?_ (by assumption))) (.refl _) ⟨rfl,rfl⟩
  | true=>
  by_cases h36:(c.toNat:Int)=36
  ·obtain rfl:=hno (by rw [hwd];simp;omega)
   simp (disch:=first|assumption|omega) only [go_sem,reduceCtorEq,Nat.reduceEqDiff,↓reduceIte,hf,hidx,h36]
   exact retC_by (by repeat' (first|exact Drop.refl _|with_reducible refine Drop.off ?_ (by assumption))) (.refl _) ⟨rfl,rfl⟩
  have hok:(l.take (i+1)).all (fun c=>wordB c && decide (c.toNat≠36))=true:=by rw [hstep,hwd];simp;omega
  by_cases h0:i=0
  ·subst h0
   have hhd:l.head? = some c:=by
    rw [List.head?_eq_getElem?];exact hidx
   simp (disch:=first|assumption|omega) only [go_sem,reduceCtorEq,Nat.reduceEqDiff,↓reduceIte,hf,hidx,h36]
   refine (digit_ok c).use ?_
   cases hdg:digB c with
   | true=>
     have:R=false:=by rw [<-hR,hhd];simp [hdg]
     subst this
     simp (disch:=first|assumption|omega) only [go_sem,Nat.reduceEqDiff,↓reduceIte]
     exact retC_by (by repeat' (first|exact Drop.refl _|with_reducible refine Drop.off ?_ (by assumption))) (.refl _) ⟨rfl,rfl⟩
   | false=>
     by_cases h46:(c.toNat:Int)=46
     ·have:R=false:=by rw [<-hR,hhd];simp;intro _ _ _;omega
      subst this
      simp (disch:=first|assumption|omega) only [go_sem,reduceCtorEq,Nat.reduceEqDiff,↓reduceIte,hf,hidx,h46]
      exact retC_by (by repeat' (first|exact Drop.refl _|with_reducible refine Drop.off ?_ (by assumption))) (.refl _) ⟨rfl,rfl⟩
     ·simp (disch:=first|assumption|omega) only [go_sem,reduceCtorEq,Nat.reduceEqDiff,↓reduceIte,Int.reduceAdd,hf,hidx,h46]
      refine ⟨0+1,by omega,by omega,hok,?_,rfl⟩
      intro _
      rw [hhd]
      simp [hdg]
      omega
  ·have h0':¬ (i:Int)=0:=by omega
   simp (disch:=first|assumption|omega) only [go_sem,reduceCtorEq,Nat.reduceEqDiff,↓reduceIte,hf,hidx,h36,h0']
   exact ⟨i+1,by omega,by omega,hok,fun _=>hfst (by omega),rfl⟩
 ·have hlt':¬ (i:Int)<l.length:=by omega
  rw [List.take_of_length_le (by omega)] at hall
  have:R=decide (l ≠ []):=by
   rw [<-hR,hall]
   by_cases hne:l = []
   ·subst hne;rfl
   ·have hpos:=List.length_pos_iff.2 hne
    rw [hfst (by omega)]
    simp
  subst this
  simp (disch:=first|assumption|omega) only [go_sem,reduceCtorEq,↓reduceIte,hf,hlt']
  exact retC_by (by repeat' (first|exact Drop.refl _|with_reducible refine Drop.off ?_ (by assumption))) (.refl _) ⟨by simp [resV_one],rfl⟩
end Go.A
namespace Go.A
open Go.Proofs
/-! 83: (*strings.Builder).WriteByte -/
def c83_7:ACode := .seq (.ops [ oq 4 (.mv (.v .nili))]) (.seq (.ops [ oq 5 (.mv (.t 0)),oe 6 (.call 113 [(.t 5)])]) (.seq (.ops [ oq 7 (.mv (.t 0)),oq 8 (.mv (.t 0)),oq 9 (.nc (.t 8)),oq 10 (.fa 1 (.t 9)),oq 11 (.ld none (.t 10)),oq 12 (.mv (.t 1)),oq 13 (.bsl 1 [(.t 12)]),oe 14 (.app 5 1 1 [(.int .u8 0)] (.t 11) (.t 13)),oq 15 (.nc (.t 7)),oq 16 (.fa 1 (.t 15)),oz (.store 1 (.t 16) (.t 14))]) (.seq (.ops [ oq 4 (.mv (.v .nili))]) .ret)))
@[go_sem] def c83_7_wp:=wp_of c83_7.eq_1
def c83:AFn:=⟨17,[.t 4],c83_7⟩
theorem c83_ok:compF Tryz.prog Tryz.f83=some c83:=by kernel_rfl
theorem a83 {args:List AV} {σ:ASt} {R:AV->ASt->Prop} (hl:args.length<=17) (h:c83_7.wp Tryz.prog (RetQ [.t 4] R) (init args) σ):ACalls Tryz.prog 83 args σ R:=acalls_of Tryz.func83 c83_ok hl h
/-! 134: (*strings.Builder).WriteRune -/
def c134_9:ACode := .seq (.ops [ oq 4 (.mv (.v (.int .i64 0))),oq 5 (.mv (.v .nili))]) (.seq (.ops [ oq 7 (.mv (.t 0)),oe 8 (.call 113 [(.t 7)])]) (.seq (.ops [ oq 9 (.mv (.t 0)),oq 10 (.nc (.t 9)),oq 11 (.fa 1 (.t 10)),oq 12 (.ld none (.t 11)),oq 13 (.len (.t 12)),oq 6 (.mv (.t 13))]) (.seq (.ops [ oq 14 (.mv (.t 0)),oq 15 (.mv (.t 0)),oq 16 (.nc (.t 15)),oq 17 (.fa 1 (.t 16)),oq 18 (.ld none (.t 17)),oq 19 (.mv (.t 1)),oe 20 (.call 156 [(.t 18),(.t 19)]),oq 21 (.nc (.t 14)),oq 22 (.fa 1 (.t 21)),oz (.store 1 (.t 22) (.t 20))]) (.seq (.ops [ oq 23 (.mv (.t 0)),oq 24 (.nc (.t 23)),oq 25 (.fa 1 (.t 24)),oq 26 (.ld none (.t 25)),oq 27 (.len (.t 26)),oq 28 (.mv (.t 6)),oq 29 (.bin .sub (.t 27) (.t 28)),oq 4 (.mv (.t 29)),oq 5 (.mv (.v .nili))]) .ret))))
@[go_sem] def c134_9_wp:=wp_of c134_9.eq_1
def c134:AFn:=⟨30,[.t 4,.t 5],c134_9⟩
theorem c134_ok:compF Tryz.prog Tryz.f134=some c134:=by kernel_rfl
theorem a134 {args:List AV} {σ:ASt} {R:AV->ASt->Prop} (hl:args.length<=30) (h:c134_9.wp Tryz.prog (RetQ [.t 4,.t 5] R) (init args) σ):ACalls Tryz.prog 134 args σ R:=acalls_of Tryz.func134 c134_ok hl h
/-! 156: unicode/utf8.AppendRune -/
def c156_9:ACode := .seq (.ops [ oq 4 (.mv (.v (.sl .full [])))]) (.seq (.seq (.ops [ oq 5 (.mv (.t 1)),oq 6 (.conv .u32 (.t 5)),oq 7 (.bin .leq (.t 6) (.v (.int .u32 127)))]) (.cond (.t 7) (.seq (.ops [ oq 8 (.mv (.t 0)),oq 9 (.mv (.t 1)),oq 10 (.conv .u8 (.t 9)),oq 11 (.bsl 1 [(.t 10)]),oe 12 (.app 5 1 1 [(.int .u8 0)] (.t 8) (.t 11)),oq 4 (.mv (.t 12))]) .ret) .skip)) (.seq (.ops [ oq 13 (.mv (.t 0)),oq 14 (.mv (.t 1)),oe 15 (.call 174 [(.t 13),(.t 14)]),oq 4 (.mv (.t 15))]) .ret))
@[go_sem] def c156_9_wp:=wp_of c156_9.eq_1
def c156:AFn:=⟨16,[.t 4],c156_9⟩
theorem c156_ok:compF Tryz.prog Tryz.f156=some c156:=by kernel_rfl
theorem a156 {args:List AV} {σ:ASt} {R:AV->ASt->Prop} (hl:args.length<=16) (h:c156_9.wp Tryz.prog (RetQ [.t 4] R) (init args) σ):ACalls Tryz.prog 156 args σ R:=acalls_of Tryz.func156 c156_ok hl h
/-! 174: unicode/utf8.appendRuneNonASCII -/
def c174_20:ACode := .cond (.t 11) (.seq (.ops [ oq 14 (.mv (.t 0)),oq 15 (.mv (.t 1)),oq 16 (.bin .shr (.t 15) (.v (.int .u64 6))),oq 17 (.conv .u8 (.t 16)),oq 18 (.bin .or (.v (.int .u8 192)) (.t 17)),oq 19 (.mv (.t 1)),oq 20 (.conv .u8 (.t 19)),oq 21 (.bin .and (.t 20) (.v (.int .u8 63))),oq 22 (.bin .or (.v (.int .u8 128)) (.t 21)),oq 23 (.bsl 1 [(.t 18),(.t 22)]),oe 24 (.app 5 1 1 [(.int .u8 0)] (.t 14) (.t 23)),oq 4 (.mv (.t 24))]) .ret) (.seq (.seq (.ops [ oq 26 (.mv (.t 5)),oq 27 (.bin .lss (.t 26) (.v (.int .u32 55296))),oq 25 (.mv (.t 27))]) (.cond (.t 25) .skip (.ops [ oq 28 (.mv (.t 5)),oq 29 (.bin .lss (.v (.int .u32 57343)) (.t 28)),oq 30 (.mv (.t 29)),⟨some 31,some (30,true),.q (.mv (.t 5)),[]⟩,⟨some 32,some (30,true),.q (.bin .leq (.t 31) (.v (.int .u32 65535))),[]⟩,oq 33 (.pick (.t 30) (.t 32) (.v (.bool false))),oq 25 (.mv (.t 33))]))) (.cond (.t 25) (.seq (.ops [ oq 34 (.mv (.t 0)),oq 35 (.mv (.t 1)),oq 36 (.bin .shr (.t 35) (.v (.int .u64 12))),oq 37 (.conv .u8 (.t 36)),oq 38 (.bin .or (.v (.int .u8 224)) (.t 37)),oq 39 (.mv (.t 1)),oq 40 (.bin .shr (.t 39) (.v (.int .u64 6))),oq 41 (.conv .u8 (.t 40)),oq 42 (.bin .and (.t 41) (.v (.int .u8 63))),oq 43 (.bin .or (.v (.int .u8 128)) (.t 42)),oq 44 (.mv (.t 1)),oq 45 (.conv .u8 (.t 44)),oq 46 (.bin .and (.t 45) (.v (.int .u8 63))),oq 47 (.bin .or (.v (.int .u8 128)) (.t 46)),oq 48 (.bsl 1 [(.t 38),(.t 43),(.t 47)]),oe 49 (.app 5 1 1 [(.int .u8 0)] (.t 34) (.t 48)),oq 4 (.mv (.t 49))]) .ret) (.seq (.ops [ oq 51 (.mv (.t 5)),oq 52 (.bin .gtr (.t 51) (.v (.int .u32 65535))),oq 53 (.mv (.t 52)),⟨some 54,some (53,true),.q (.mv (.t 5)),[]⟩,⟨some 55,some (53,true),.q (.bin .leq (.t 54) (.v (.int .u32 1114111))),[]⟩,oq 56 (.pick (.t 53) (.t 55) (.v (.bool false))),oq 50 (.mv (.t 56))]) (.cond (.t 50) (.seq (.ops [ oq 57 (.mv (.t 0)),oq 58 (.mv (.t 1)),oq 59 (.bin .shr (.t 58) (.v (.int .u64 18))),oq 60 (.conv .u8 (.t 59)),oq 61 (.bin .or (.v (.int .u8 240)) (.t 60)),oq 62 (.mv (.t 1)),oq 63 (.bin .shr (.t 62) (.v (.int .u64 12))),oq 64 (.conv .u8 (.t 63)),oq 65 (.bin .and (.t 64) (.v (.int .u8 63))),oq 66 (.bin .or (.v (.int .u8 128)) (.t 65)),oq 67 (.mv (.t 1)),oq 68 (.bin .shr (.t 67) (.v (.int .u64 6))),oq 69 (.conv .u8 (.t 68)),oq 70 (.bin .and (.t 69) (.v (.int .u8 63))),oq 71 (.bin .or (.v (.int .u8 128)) (.t 70)),oq 72 (.mv (.t 1)),oq 73 (.conv .u8 (.t 72)),oq 74 (.bin .and (.t 73) (.v (.int .u8 63))),oq 75 (.bin .or (.v (.int .u8 128)) (.t 74)),oq 76 (.bsl 1 [(.t 61),(.t 66),(.t 71),(.t 75)]),oe 77 (.app 5 1 1 [(.int .u8 0)] (.t 57) (.t 76)),oq 4 (.mv (.t 77))]) .ret) (.seq (.ops [ oq 8 (.mv (.t 0)),oq 9 (.bsl 1 [(.v (.int .u8 239)),(.v (.int .u8 191)),(.v (.int .u8 189))]),oe 10 (.app 5 1 1 [(.int .u8 0)] (.t 8) (.t 9)),oq 4 (.mv (.t 10))]) .ret)))))
def c174_24:ACode := .seq (.ops [ oq 4 (.mv (.v (.sl .full [])))]) (.seq (.ops [ oq 6 (.mv (.t 1)),oq 7 (.conv .u32 (.t 6)),oq 5 (.mv (.t 7))]) (.block 0 (.seq (.ops [ oq 12 (.mv (.t 5)),oq 13 (.bin .leq (.t 12) (.v (.int .u32 2047))),oq 11 (.mv (.t 13))]) c174_20)))
@[go_sem] def c174_20_wp:=wp_of c174_20.eq_1
@[go_sem] def c174_24_wp:=wp_of c174_24.eq_1
def c174:AFn:=⟨78,[.t 4],c174_24⟩
theorem c174_ok:compF Tryz.prog Tryz.f174=some c174:=by kernel_rfl
theorem a174 {args:List AV} {σ:ASt} {R:AV->ASt->Prop} (hl:args.length<=78) (h:c174_24.wp Tryz.prog (RetQ [.t 4] R) (init args) σ):ACalls Tryz.prog 174 args σ R:=acalls_of Tryz.func174 c174_ok hl h
end Go.A
