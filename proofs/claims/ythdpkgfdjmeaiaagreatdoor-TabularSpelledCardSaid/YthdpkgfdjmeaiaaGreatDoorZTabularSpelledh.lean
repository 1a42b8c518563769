/- Part 8 of what TabularSpelled leans on: Zk CodePb Pb CodePc Pc CodePd Pd CodePe Pe CodePf Pf. -/
import Derived.Test.YthdpkgfdjmeaiaaGreatDoorProg
import Derived.KernelRfl
import Derived.Test.YthdpkgfdjmeaiaaGreatDoorZTabularSpelledg
set_option linter.defProp false
set_option linter.unusedSimpArgs false
set_option linter.unusedVariables false
set_option maxRecDepth 100000
namespace Go.A
open Go.Proofs Go.Lib
def lexCells (s:List UInt8) (p c:Nat) (ts:List Tok) (k:SK):List AV := [.str s,.int .i64 p,.int .i64 c,.sl k (ts.map tokAV)]
def LX (σ0:ASt) (b:Nat) (s:List UInt8) (p c:Nat) (ts:List Tok) (σ:ASt):Prop:=GO σ0 b (lexCells s p c ts) (ts.map tokAV).length 4 σ
theorem LX.cell {σ0 σ:ASt} {b:Nat} {s:List UInt8} {p c:Nat} {ts:List Tok} (h:LX σ0 b s p c ts σ):∃ k,Grown (σ0.set b (some (.obj [.str s,.int .i64 p,.int .i64 c,.sl k (ts.map tokAV)]))) σ k (ts.map tokAV).length 4/\σ b=some (.obj [.str s,.int .i64 p,.int .i64 c,.sl k (ts.map tokAV)]):=by
 obtain ⟨k,hg⟩:=h
 exact ⟨k,hg,GO.cell (cs:=lexCells s p c ts) hg⟩
structure Bnd (s:List UInt8) (p c:Nat) (ts:List Tok):Prop where
 hs:s.length<=100000
 hp:p<=s.length
 hc:c<=p
 ht:ts.length<=200000
theorem take_len {s:List UInt8} {p n:Nat} (h:p+n<=s.length):((s.drop p).take n).length=n:=by simp;omega
theorem cut_eq {s:List UInt8} {p n:Nat}:(s.take (p+n)).drop p=(s.drop p).take n:=by rw [List.drop_take];congr 1;omega
set_option maxHeartbeats 1000000 in
theorem put_ok {σ0 σ:ASt} {b:Nat} {s:List UInt8} {p c:Nat} {ts:List Tok} (h:LX σ0 b s p c ts σ) (hB:Bnd s p c ts) (kind:Int) (text:List UInt8) (n:Nat) (hn:p+n<=s.length) :
  ACalls Tryz.prog 67 [.ptr b 0,.int .i64 kind,.str text,.int .i64 n] σ fun v σ'=>v = .tuple []/\LX σ0 b s (p+n) (c+signsN ((s.drop p).take n)) (ts ++ [Tok.mk kind text p c]) σ':=by
 obtain ⟨k,hg,hb⟩:=h.cell
 obtain ⟨hs,hp,hc,ht⟩:=hB
 have hm:ts.map tokAV ++ [tokAV (Tok.mk kind text p c)]=(ts ++ [Tok.mk kind text p c]).map tokAV:=by simp
 have hlen:(ts.map tokAV).length=ts.length:=by simp
 have e1:((p:Int)+n).toNat=p+n:=by omega
 have e2:=cut_eq (s:=s) (p:=p) (n:=n)
 have hsl:=signsN_le ((s.drop p).take n)
 rw [take_len hn] at hsl
 refine a67 (by simp) ?_
 simp (disch:=first|assumption|omega) only [go_sem,reduceCtorEq,Nat.reduceEqDiff,Nat.reduceAdd,Nat.reduceLeDiff,↓reduceIte,Bool.true_and,hb]
 refine appC_by (ys := [tokAV (Tok.mk kind text p c)]) hg rfl rfl (by simp only [hlen,List.length_cons,List.length_nil];omega) (by simp only [hlen,List.length_cons,List.length_nil];omega) fun k' σ' hg'=>?_
 rw [hm] at hg' ⊢
 have hb':=hg'.at (ASt.set_same _ _ _)
 have hg2:=hg'.obj (r' := .obj [.str s,.int .i64 p,.int .i64 c,.sl k' ((ts ++ [Tok.mk kind text p c]).map tokAV)])
 simp (disch:=first|assumption|omega) only [go_sem,reduceCtorEq,Nat.reduceEqDiff,Nat.reduceAdd,Nat.reduceLeDiff,↓reduceIte,Bool.true_and,hb',e1,e2]
 refine (count_ok _ (by rw [take_len hn];omega)).use ?_
 simp (disch:=first|assumption|omega) only [go_sem,reduceCtorEq,Nat.reduceEqDiff,Nat.reduceAdd,Nat.reduceLeDiff,↓reduceIte,Bool.true_and,ASt.set_set]
 refine retC_by (Drop.refl _) (.refl _) ⟨rfl,k',?_⟩
 exact hg'.obj (r' := .obj [.str s,.int .i64 (p+n:Nat),.int .i64 (c+signsN ((s.drop p).take n):Nat),.sl k' ((ts ++ [Tok.mk kind text p c]).map tokAV)])
theorem pass_ok {σ0 σ:ASt} {b:Nat} {s:List UInt8} {p c:Nat} {ts:List Tok} (h:LX σ0 b s p c ts σ) (hB:Bnd s p c ts) (n:Nat) (hn:p+n<=s.length) :
  ACalls Tryz.prog 102 [.ptr b 0,.int .i64 (p+n:Nat)] σ fun v σ'=>v = .tuple []/\LX σ0 b s (p+n) (c+signsN ((s.drop p).take n)) ts σ':=by
 obtain ⟨k,hg,hb⟩:=h.cell
 obtain ⟨hs,hp,hc,ht⟩:=hB
 have e1:(((p+n:Nat):Int)).toNat=p+n:=by omega
 have e2:=cut_eq (s:=s) (p:=p) (n:=n)
 have hsl:=signsN_le ((s.drop p).take n)
 rw [take_len hn] at hsl
 have e3:((p+n:Nat):Int)<=s.length:=by omega
 have e4:(p:Int)<=((p+n:Nat):Int):=by omega
 obtain ⟨q,hq⟩:∃ q,p+n=q:=⟨_,rfl⟩
 rw [hq] at e1 e2 e3 e4 ⊢
 refine a102 (by simp) ?_
 simp (disch:=first|assumption|omega) only [go_sem,reduceCtorEq,Nat.reduceEqDiff,↓reduceIte,hb,e1,e2]
 refine (count_ok _ (by rw [take_len hn];omega)).use ?_
 simp (disch:=first|assumption|omega) only [go_sem,reduceCtorEq,Nat.reduceEqDiff,Nat.reduceAdd,Nat.reduceLeDiff,↓reduceIte,Bool.true_and,hb,ASt.set_set]
 refine retC_by (Drop.refl _) (.refl _) ⟨rfl,k,?_⟩
 exact hg.obj (r' := .obj [.str s,.int .i64 q,.int .i64 (c+signsN ((s.drop p).take n):Nat),.sl k (ts.map tokAV)])
theorem dec_bd (l:List UInt8):(decodeL l).1<=1114111/\1<=(decodeL l).2:=⟨decodeL_rune l,decodeL_width l⟩
theorem sign_ok {σ0 σ:ASt} (hU:U8 σ) {b:Nat} {s:List UInt8} {p c:Nat} {ts:List Tok} (h:LX σ0 b s p c ts σ) (hB:Bnd s p c ts) (hp:p<s.length) :
  ACalls Tryz.prog 101 [.ptr b 0] σ fun v σ'=>v = .tuple [.int .i32 (if decodeL (s.drop p)=(65533,1) then 0 else (decodeL (s.drop p)).1),.int .i64 (if decodeL (s.drop p)=(65533,1) then -1 else (decodeL (s.drop p)).2)]/\σ'=σ:=by
 obtain ⟨k,hg,hb⟩:=h.cell
 obtain ⟨hs,_,hc,ht⟩:=hB
 have hne:s.drop p ≠ []:=by
  intro h
  have:=congrArg List.length h
  simp at this
  omega
 have hd:=dec_ok hU hne
 obtain ⟨⟨r,w⟩,hD⟩:∃ D,decodeL (s.drop p)=D:=⟨_,rfl⟩
 rw [hD] at hd ⊢
 dsimp only at hd ⊢
 have e1:¬ (s.length:Int)<=p:=by omega
 refine a101 (by simp) ?_
 simp (disch:=first|assumption|omega) only [go_sem,reduceCtorEq,Nat.reduceEqDiff,↓reduceIte,Int.reduceNeg,hb,e1,List.take_length]
 refine hd.mono ?_
 rintro v σ' ⟨rfl,rfl⟩
 by_cases h1:(r:Int)=65533
 ·by_cases h2:(w:Int)=1
  ·have e:(r,w)=(65533,1):=by rw [Prod.mk.injEq];omega
   rw [if_pos e,if_pos e]
   simp (disch:=first|assumption|omega) only [go_sem,Nat.reduceEqDiff,↓reduceIte,Int.reduceNeg,h1,h2]
   exact retC_by (Drop.refl _) (.refl _) ⟨rfl,rfl⟩
  ·have e:¬ (r,w)=(65533,1):=by rw [Prod.mk.injEq];omega
   rw [if_neg e,if_neg e]
   simp (disch:=first|assumption|omega) only [go_sem,Nat.reduceEqDiff,↓reduceIte,h1,h2]
   exact retC_by (Drop.refl _) (.refl _) ⟨rfl,rfl⟩
 ·have e:¬ (r,w)=(65533,1):=by rw [Prod.mk.injEq];omega
  rw [if_neg e,if_neg e]
  simp (disch:=first|assumption|omega) only [go_sem,Nat.reduceEqDiff,↓reduceIte,h1]
  exact retC_by (Drop.refl _) (.refl _) ⟨rfl,rfl⟩
def After (σ0:ASt) (b:Nat) (s:List UInt8) (p c:Nat) (ts:List Tok):Step->AV->ASt->Prop
 | .bad k,v,σ'=>v = .int .i64 10/\∃ c',LX σ0 b s (p+k) c' ts σ'
 | .blank,v,σ'=>v = .int .i64 0/\LX σ0 b s (p+1) (c+1) ts σ'
 | .tok kind t n,v,σ'=>v = .int .i64 0/\LX σ0 b s (p+n) (c+signsN ((s.drop p).take n)) (ts ++ [⟨kind,t,p,c⟩]) σ'
set_option maxHeartbeats 1000000 in
theorem words_ok {σ0 σ:ASt} {b:Nat} {s:List UInt8} {p c:Nat} {ts:List Tok} (h:LX σ0 b s p c ts σ) (hB:Bnd s p c ts) :
  ACalls Tryz.prog 104 [.ptr b 0] σ fun v σ'=>After σ0 b s p c ts (wordsS (s.drop p)) v σ':=by
 obtain ⟨k,hg,hb⟩:=h.cell
 have hB':=hB
 obtain ⟨hs,hp,hc,ht⟩:=hB
 have hrl:=runL_le wordB (s.drop p)
 obtain ⟨st,hst⟩:∃ st,wordsS (s.drop p)=st:=⟨_,rfl⟩
 rw [hst]
 unfold wordsS at hst
 dsimp only at hst
 obtain ⟨n,hn⟩:∃ n,runL wordB (s.drop p)=n:=⟨_,rfl⟩
 rw [hn] at hst hrl
 rw [List.length_drop] at hrl
 have hwl:((s.drop p).take n).length=n:=take_len (by omega)
 obtain ⟨w,hw⟩:∃ w,(s.drop p).take n=w:=⟨_,rfl⟩
 rw [hw] at hst hwl
 have i1:=isNum_ok w (by omega)
 have i2:=isRef_ok w (by omega)
 have i3:=isName_ok w (by omega)
 have i4:=tgreat_ok w (by omega)
 have P1:=fun kind text=>put_ok h hB' kind text n (by omega)
 refine a104 (by simp) ?_
 obtain ⟨F,hF⟩:∃ F,F=ACode.wp Tryz.prog c104_29:=⟨_,rfl⟩
 simp (disch:=first|assumption|omega) only [go_sem,←hF]
 refine wp_loop_on (fun (i:Nat) a σ'=>i<=n/\i+runL wordB (s.drop (p+i))=n/\(a 0 = .ptr b 0/\a 3 = .int .i64 i)/\σ'=σ) (fun i=>n-i) 0 ⟨Nat.zero_le _,by rw [Nat.add_zero,Nat.zero_add];exact hn,?_,rfl⟩ ?_
 ·simp (disch:=first|assumption|omega) only [go_sem,reduceCtorEq,↓reduceIte]
 rintro i a σ1 ⟨hi,hrun,hf,rfl⟩
 have fin:i=n->∀ a:AFr,(a 0 = .ptr b 0/\a 3 = .int .i64 i)->F (RetQ [.t 2] fun v σ'=>After σ0 b s p c ts st v σ') a σ1:=by
  rintro rfl a hf
  have e1:((p:Int)+i).toNat=p+i:=by omega
  have e2:(s.take (p+i)).drop p=w:=by rw [cut_eq,hw]
  rw [hF]
  simp (disch:=first|assumption|omega) only [go_sem,reduceCtorEq,Nat.reduceEqDiff,↓reduceIte,hf,hb,e1,e2]
  refine i1.use ?_
  cases hnum:numB w with
  | true=>
    rw [hnum,if_pos rfl] at hst
    subst hst
    simp (disch:=first|assumption|omega) only [go_sem,reduceCtorEq,Nat.reduceEqDiff,↓reduceIte,hf]
    refine (P1 1 w).mono ?_
    rintro v σ' ⟨rfl,hL⟩
    simp (disch:=first|assumption|omega) only [go_sem,↓reduceIte]
    exact retC_by (Drop.refl _) (.refl _) ⟨rfl,hL⟩
  | false=>
  rw [hnum,if_neg (by simp)] at hst
  simp (disch:=first|assumption|omega) only [go_sem,Nat.reduceEqDiff,↓reduceIte]
  refine i2.use ?_
  cases href:refB w with
  | true=>
    rw [href,if_pos rfl] at hst
    subst hst
    simp (disch:=first|assumption|omega) only [go_sem,reduceCtorEq,Nat.reduceEqDiff,↓reduceIte,hf]
    refine i4.use ?_
    simp (disch:=first|assumption|omega) only [go_sem,Nat.reduceEqDiff,↓reduceIte,hf]
    refine (P1 4 (greatP w)).mono ?_
    rintro v σ' ⟨rfl,hL⟩
    simp (disch:=first|assumption|omega) only [go_sem,↓reduceIte]
    exact retC_by (Drop.refl _) (.refl _) ⟨rfl,hL⟩
  | false=>
  rw [href,if_neg (by simp)] at hst
  simp (disch:=first|assumption|omega) only [go_sem,Nat.reduceEqDiff,↓reduceIte]
  refine i3.use ?_
  cases hnam:nameB w with
  | true=>
    rw [hnam,if_pos rfl] at hst
    subst hst
    simp (disch:=first|assumption|omega) only [go_sem,reduceCtorEq,Nat.reduceEqDiff,↓reduceIte,hf]
    refine i4.use ?_
    simp (disch:=first|assumption|omega) only [go_sem,Nat.reduceEqDiff,↓reduceIte,hf]
    refine (P1 3 (greatP w)).mono ?_
    rintro v σ' ⟨rfl,hL⟩
    simp (disch:=first|assumption|omega) only [go_sem,↓reduceIte]
    exact retC_by (Drop.refl _) (.refl _) ⟨rfl,hL⟩
  | false=>
    rw [hnam,if_neg (by simp)] at hst
    subst hst
    simp (disch:=first|assumption|omega) only [go_sem,↓reduceIte]
    exact retC_by (Drop.refl _) (.refl _) ⟨rfl,c,h⟩
 by_cases hlt:p+i<s.length
 ·have hidx : s[p + i]? = some (s[p + i]'hlt) := List.getElem?_eq_getElem hlt
  obtain ⟨d, hd⟩ : ∃ d, s[p + i]'hlt = d := ⟨_, rfl⟩
  rw [hd] at hidx
  have e3:((p:Int)+i)<s.length:=by omega
  have e4:((p:Int)+i).toNat=p+i:=by omega
  rw [List.drop_eq_getElem_cons hlt,hd,runL] at hrun
  simp (disch:=first|assumption|omega) only [go_sem,reduceCtorEq,Nat.reduceEqDiff,↓reduceIte,hf,hb,e3,e4,hidx]
  refine (word_ok d).use ?_
  cases hwd:wordB d with
  | true=>
    rw [hwd,if_pos rfl] at hrun
    simp (disch:=first|assumption|omega) only [go_sem,reduceCtorEq,Nat.reduceEqDiff,↓reduceIte,hf]
    exact ⟨i+1,by omega,by omega,by rw [<-Nat.add_assoc];omega,rfl⟩
  | false=>
    rw [hwd,if_neg (by simp)] at hrun
    simp (disch:=first|assumption|omega) only [go_sem,Nat.reduceEqDiff,↓reduceIte]
    refine fin (by omega) _ ?_
    simp (disch:=first|assumption|omega) only [go_sem,reduceCtorEq,Nat.reduceEqDiff,↓reduceIte,hf]
 ·have e:s.drop (p+i) = []:=List.drop_eq_nil_of_le (by omega)
  rw [e,runL] at hrun
  have e3:¬ ((p:Int)+i)<s.length:=by omega
  simp (disch:=first|assumption|omega) only [go_sem,reduceCtorEq,Nat.reduceEqDiff,↓reduceIte,hf,hb,e3]
  refine fin (by omega) _ ?_
  simp (disch:=first|assumption|omega) only [go_sem,reduceCtorEq,Nat.reduceEqDiff,↓reduceIte,hf]
end Go.A
namespace Go.A
open Go.Proofs Go.Lib
theorem errTexts_len:∀ e∈errTexts,1<=e.length/\e.length<=7:=by decide
set_option maxHeartbeats 1000000 in
theorem lfail_ok {σ0 σ:ASt} {b:Nat} {s:List UInt8} {p c:Nat} {ts:List Tok} (h:LX σ0 b s p c ts σ) (hB:Bnd s p c ts) :
  ACalls Tryz.prog 106 [.ptr b 0] σ fun v σ'=>After σ0 b s p c ts (failS (s.drop p) errTexts) v σ':=by
 obtain ⟨k,hg,hb⟩:=h.cell
 have hB':=hB
 obtain ⟨hs,hp,hc,ht⟩:=hB
 obtain ⟨st,hst⟩:∃ st,failS (s.drop p) errTexts=st:=⟨_,rfl⟩
 rw [hst]
 have hE:=errTexts_len
 have herr:=errs_ok
 obtain ⟨E,hE2⟩:∃ E,errTexts=E:=⟨_,rfl⟩
 have hEl:E.length=7:=by rw [<-hE2];rfl
 rw [hE2] at hst hE herr
 clear hE2
 refine a106 (by simp) ?_
 simp (disch:=first|assumption|omega) only [go_sem]
 refine herr.use ?_
 simp (disch:=first|assumption|omega) only [go_sem,↓reduceIte,hEl]
 refine wp_loop_on (fun (i:Nat) a σ'=>i<=7/\failS (s.drop p) (E.drop i)=st/\(a 0 = .ptr b 0/\a 6 = .sl .full (E.map AV.str)/\a 7 = .int .i64 7/\a 8 = .int .i64 i)/\σ'=σ) (fun i=>7-i) 0 ⟨Nat.zero_le _,hst,?_,rfl⟩ ?_
 ·simp (disch:=first|assumption|omega) only [go_sem,reduceCtorEq,Nat.reduceEqDiff,↓reduceIte]
 rintro i a σ1 ⟨hi,hst,hf,rfl⟩
 by_cases hlt:i<7
 ·have hlt':(i:Int)<7:=by omega
  have hidx0 : E[i]? = some (E[i]'(by omega)) := List.getElem?_eq_getElem (by omega)
  obtain ⟨h1,h2⟩:=hE _ (List.getElem_mem (by omega:i<E.length))
  rw [List.drop_eq_getElem_cons (by omega:i<E.length),failS] at hst
  obtain ⟨e, he⟩ : ∃ e, E[i]'(by omega) = e := ⟨_, rfl⟩
  rw [he] at hidx0 hst h1 h2
  have hidx:(E.map AV.str)[i]? = some (.str e):=by rw [List.getElem?_map,hidx0];rfl
  rw [List.length_drop] at hst
  by_cases hfit:p+e.length<=s.length
  ·have e1:(p:Int)+e.length<=s.length:=by omega
   have e2:((p:Int)+e.length).toNat=p+e.length:=by omega
   have e3:=cut_eq (s:=s) (p:=p) (n:=e.length)
   have hgr:=tgreat_ok ((s.drop p).take e.length) (by rw [take_len hfit];omega)
   simp (disch:=first|assumption|omega) only [go_sem,reduceCtorEq,Nat.reduceEqDiff,↓reduceIte,hf,hb,hlt',hidx,e1,e2,e3]
   refine hgr.use ?_
   by_cases heq:greatP ((s.drop p).take e.length)=e
   ·rw [if_pos ⟨by omega,heq⟩] at hst
    subst hst
    simp (disch:=first|assumption|omega) only [go_sem,reduceCtorEq,Nat.reduceEqDiff,↓reduceIte,hf,heq]
    refine (put_ok h hB' 5 e e.length hfit).mono ?_
    rintro v σ' ⟨rfl,hL⟩
    simp (disch:=first|assumption|omega) only [go_sem,↓reduceIte]
    exact retC_by (Drop.refl _) (.refl _) ⟨rfl,hL⟩
   ·rw [if_neg (by rintro ⟨_,h⟩;exact heq h)] at hst
    simp (disch:=first|assumption|omega) only [go_sem,reduceCtorEq,Nat.reduceEqDiff,↓reduceIte,hf,heq]
    refine ⟨i+1,by omega,by omega,hst,rfl⟩
  ·have e1:¬ (p:Int)+e.length<=s.length:=by omega
   rw [if_neg (by rintro ⟨h,_⟩;omega)] at hst
   simp (disch:=first|assumption|omega) only [go_sem,reduceCtorEq,Nat.reduceEqDiff,↓reduceIte,hf,hb,hlt',hidx,e1]
   refine ⟨i+1,by omega,by omega,hst,rfl⟩
 ·have hlt':¬ (i:Int)<7:=by omega
  rw [List.drop_eq_nil_of_le (show E.length<=i by omega),failS] at hst
  subst hst
  simp (disch:=first|assumption|omega) only [go_sem,↓reduceIte,hf,hlt']
  exact retC_by (Drop.refl _) (.refl _) ⟨rfl,c,h⟩
theorem mem_index (c:UInt8):∀ l:List UInt8,(-1<=indexByte l c)/\(0<=indexByte l c↔c∈l)
 | []=>by simp [indexByte]
 | x::l=>by
   obtain ⟨h1,h2⟩:=mem_index c l
   unfold indexByte
   by_cases hx:x=c
   ·subst hx;simp
   ·have hx':¬ (x==c)=true:=by simpa using hx
    rw [if_neg hx']
    by_cases hm:indexByte l c = -1
    ·rw [if_pos (by simpa using hm)]
     refine ⟨by omega,?_⟩
     simp only [List.mem_cons,← h2,hm]
     constructor
     ·intro h;omega
     ·rintro (h|h)
      ·exact absurd h.symm hx
      ·omega
    ·rw [if_neg (by simpa using hm)]
     refine ⟨by omega,?_⟩
     simp only [List.mem_cons,← h2]
     constructor
     ·intro h;right;omega
     ·rintro (h|h)
      ·exact absurd h.symm hx
      ·omega
theorem twos_len:∀ e∈twos,e.length=2:=by decide
set_option maxHeartbeats 1000000 in
theorem op_ok {σ0 σ:ASt} {b:Nat} {s:List UInt8} {p c:Nat} {ts:List Tok} (h:LX σ0 b s p c ts σ) (hB:Bnd s p c ts) (hp1:p<s.length) (r:Int) (n:Nat) (hn:p+n<=s.length) :
  ACalls Tryz.prog 107 [.ptr b 0,.int .i32 r,.int .i64 n] σ fun v σ'=>After σ0 b s p c ts (opS r n (s.drop p)) v σ':=by
 obtain ⟨k,hg,hb⟩:=h.cell
 have hB':=hB
 obtain ⟨hs,hp,hc,ht⟩:=hB
 obtain ⟨st,hst⟩:∃ st,opS r n (s.drop p)=st:=⟨_,rfl⟩
 rw [hst]
 unfold opS at hst
 have hal:=alike_ok r
 obtain ⟨A,hA⟩:∃ A,alikeP r=A:=⟨_,rfl⟩
 rw [hA] at hst hal
 obtain ⟨F,hF⟩:∃ F,F=ACode.wp Tryz.prog c107_39:=⟨_,rfl⟩
 refine a107 (by simp) ?_
 simp (disch:=first|assumption|omega) only [go_sem,Nat.reduceEqDiff,↓reduceIte]
 refine hal.use ?_
 by_cases hA0:A = []
 ·subst hA0
  rw [if_neg (by simp)] at hst
  have hE:=twos_len
  obtain ⟨E,hE2⟩:∃ E,twos=E:=⟨_,rfl⟩
  have hEl:E.length=3:=by rw [<-hE2];rfl
  have hEm:E.map AV.str = [AV.str [60,61],AV.str [62,61],AV.str [60,62]]:=by rw [<-hE2];rfl
  rw [hE2] at hst hE
  simp (disch:=first|assumption|omega) only [go_sem,Nat.reduceAdd,↓reduceIte,Bool.true_and,←hF]
  refine wp_loop_on (fun (i:Nat) a σ'=>i<=3/\(match twoS (s.drop p) (E.drop i) with|some e=>Step.tok 6 e 2|none=>if ((s.drop p).headD 0)∈opChars then .tok 6 ((s.drop p).take 1) 1 else .bad 0)=st/\(a 0 = .ptr b 0/\a 18 = .sl .full (E.map AV.str)/\a 19 = .int .i64 3/\a 20 = .int .i64 i)/\σ'=σ) (fun i=>3-i) 0 ⟨Nat.zero_le _,hst,?_,rfl⟩ ?_
  ·simp (disch:=first|assumption|omega) only [go_sem,reduceCtorEq,Nat.reduceEqDiff,↓reduceIte,hEm]
  rintro i a σ1 ⟨hi,hst,hf,rfl⟩
  by_cases hlt:i<3
  ·have hlt':(i:Int)<3:=by omega
   have hidx0 : E[i]? = some (E[i]'(by omega)) := List.getElem?_eq_getElem (by omega)
   have h2:=hE _ (List.getElem_mem (by omega:i<E.length))
   rw [List.drop_eq_getElem_cons (by omega:i<E.length),twoS] at hst
   obtain ⟨e, he⟩ : ∃ e, E[i]'(by omega) = e := ⟨_, rfl⟩
   rw [he] at hidx0 hst h2
   have hidx:(E.map AV.str)[i]? = some (.str e):=by rw [List.getElem?_map,hidx0];rfl
   have hpr:=prefix_ok (s.drop p) e (by simp;omega) (by omega)
   simp (disch:=first|assumption|omega) only [go_sem,reduceCtorEq,Nat.reduceEqDiff,↓reduceIte,hf,hb,hlt',hidx,List.take_length]
   refine hpr.use ?_
   cases hpe:e.isPrefixOf (s.drop p) with
   | true=>
     rw [hpe,if_pos rfl] at hst
     dsimp only at hst
     subst hst
     have hle:2<=(s.drop p).length:=by
      have:=(List.isPrefixOf_iff_prefix.1 hpe).length_le
      omega
     rw [List.length_drop] at hle
     simp (disch:=first|assumption|omega) only [go_sem,reduceCtorEq,Nat.reduceEqDiff,↓reduceIte,hf]
     refine (put_ok h hB' 6 e 2 (by omega)).mono ?_
     rintro v σ' ⟨rfl,hL⟩
     simp (disch:=first|assumption|omega) only [go_sem,↓reduceIte]
     exact retC_by (Drop.refl _) (.refl _) ⟨rfl,hL⟩
   | false=>
     rw [hpe,if_neg (by simp)] at hst
     simp (disch:=first|assumption|omega) only [go_sem,reduceCtorEq,Nat.reduceEqDiff,↓reduceIte,hf]
     exact ⟨i+1,by omega,by omega,hst,rfl⟩
  ·have hlt':¬ (i:Int)<3:=by omega
   rw [List.drop_eq_nil_of_le (show E.length<=i by omega),twoS] at hst
   dsimp only at hst
   have hidx : s[p]? = some (s[p]'hp1) := List.getElem?_eq_getElem hp1
   obtain ⟨d, hd⟩ : ∃ d, s[p]'hp1 = d := ⟨_, rfl⟩
   rw [hd] at hidx
   have hdr:s.drop p=d::s.drop (p+1):=by rw [List.drop_eq_getElem_cons hp1,hd]
   rw [hdr] at hst
   have hst:(if d∈opChars then Step.tok 6 [d] 1 else Step.bad 0)=st:=hst
   have hcon:=contains_ok opChars d
   obtain ⟨_,hmi⟩:=mem_index d opChars
   have hbb:UInt8.ofNat d.toNat=d:=by simp
   simp (disch:=first|assumption|omega) only [go_sem,↓reduceIte,hf,hlt']
   rw [hF]
   simp (disch:=first|assumption|omega) only [go_sem,reduceCtorEq,Nat.reduceEqDiff,↓reduceIte,Bool.true_and,hf,hb,hidx,hbb]
   refine hcon.use ?_
   by_cases hm:d∈opChars
   ·rw [if_pos hm] at hst
    subst hst
    have e0:=hmi.2 hm
    have e1:((p:Int)+1).toNat=p+1:=by omega
    have e2:(s.take (p+1)).drop p = [d]:=by rw [cut_eq (n:=1),hdr];rfl
    simp (disch:=first|assumption|omega) only [go_sem,reduceCtorEq,Nat.reduceEqDiff,↓reduceIte,hf,hb,e0,e1,e2]
    refine (put_ok h hB' 6 [d] 1 (by omega)).mono ?_
    rintro v σ' ⟨rfl,hL⟩
    simp (disch:=first|assumption|omega) only [go_sem,↓reduceIte]
    exact retC_by (Drop.refl _) (.refl _) ⟨rfl,hL⟩
   ·rw [if_neg hm] at hst
    subst hst
    have e0:¬ 0<=indexByte opChars d:=fun h=>hm (hmi.1 h)
    simp (disch:=first|assumption|omega) only [go_sem,↓reduceIte,e0]
    exact retC_by (Drop.refl _) (.refl _) ⟨rfl,c,h⟩
 ·rw [if_pos hA0] at hst
  subst hst
  simp (disch:=first|assumption|omega) only [go_sem,reduceCtorEq,Nat.reduceEqDiff,↓reduceIte,hA0]
  refine (put_ok h hB' 6 A n hn).mono ?_
  rintro v σ' ⟨rfl,hL⟩
  simp (disch:=first|assumption|omega) only [go_sem,↓reduceIte]
  exact retC_by (Drop.refl _) (.refl _) ⟨rfl,hL⟩
end Go.A
namespace Go.A
open Go.Proofs Go.Lib
theorem dec_len (l:List UInt8) (hv:decodeL l≠(65533,1)):runeLen ((decodeL l).1:Int)=((decodeL l).2:Int):=by
 rw [decodeL_N] at hv ⊢
 have k0:=(l.getD 0 0).toNat_lt
 have k1:=(l.getD 1 0).toNat_lt
 have k2:=(l.getD 2 0).toNat_lt
 have k3:=(l.getD 3 0).toNat_lt
 unfold runeLen
 rcases decodeN_shape l.length (l.getD 0 0).toNat (l.getD 1 0).toNat (l.getD 2 0).toNat (l.getD 3 0).toNat with ⟨c,e⟩|⟨c1,c2,c3,cv,e⟩|⟨c1,c2,c3,c4,cv,cs,e⟩|⟨c1,c2,c3,c4,c5,cv,cw,e⟩|e
 all_goals (rw [e] at hv ⊢;dsimp only at hv ⊢)
 all_goals (try (exact absurd rfl hv))
 all_goals (repeat' split)
 all_goals omega
theorem dec_rune (l:List UInt8):RuneOk ((decodeL l).1:Int):=by
 rw [decodeL_N]
 have k0:=(l.getD 0 0).toNat_lt
 have k1:=(l.getD 1 0).toNat_lt
 have k2:=(l.getD 2 0).toNat_lt
 have k3:=(l.getD 3 0).toNat_lt
 unfold RuneOk
 rcases decodeN_shape l.length (l.getD 0 0).toNat (l.getD 1 0).toNat (l.getD 2 0).toNat (l.getD 3 0).toNat with ⟨c,e⟩|⟨c1,c2,c3,cv,e⟩|⟨c1,c2,c3,c4,cv,cs,e⟩|⟨c1,c2,c3,c4,c5,cv,cw,e⟩|e
 all_goals (rw [e];dsimp only;omega)
theorem dec_ascii {l:List UInt8} (h0:l ≠ []) (h:(decodeL l).1<128):∃ c t,l=c::t/\c.toNat=(decodeL l).1/\(decodeL l).2=1:=by
 cases l with
 | nil=>exact absurd rfl h0
 | cons c t=>
   refine ⟨c,t,rfl,?_⟩
   rw [decodeL_N] at h ⊢
   have k0:=((c::t).getD 0 0).toNat_lt
   have hc:((c::t).getD 0 0)=c:=rfl
   rcases decodeN_shape (c::t).length ((c::t).getD 0 0).toNat ((c::t).getD 1 0).toNat ((c::t).getD 2 0).toNat ((c::t).getD 3 0).toNat with ⟨c,e⟩|⟨c1,c2,c3,cv,e⟩|⟨c1,c2,c3,c4,cv,cs,e⟩|⟨c1,c2,c3,c4,c5,cv,cw,e⟩|e
   ·rw [e];exact ⟨rfl,rfl⟩
   all_goals (rw [e] at h;dsimp only at h;omega)
theorem dec_one (c:UInt8) (t:List UInt8) (h:c.toNat<128):decodeL (c::t)=(c.toNat,1):=by
 rw [decodeL_N]
 unfold decodeN
 rw [if_pos (show ((c::t).getD 0 0).toNat<128 from h)]
 rfl
theorem U8.over {τ σ:ASt} (h:U8 τ) (ho:Over τ σ):U8 σ:=⟨ho.at h.1,ho.at h.2⟩
theorem quotedF_nil:∀ k p acc,quotedF k [] p acc = .bad 0
 | 0,_,_=>rfl
 | _+1,_,_=>by unfold quotedF;rw [if_pos rfl]
theorem enc_le (r:Int):(encodeRune r).length<=4:=enc_len r
set_option maxHeartbeats 2000000 in
theorem quoted_ok {σ0 τ:ASt} (hU:U8 τ) {b:Nat} {s:List UInt8} {p c:Nat} {ts:List Tok} (h:LX σ0 b s p c ts τ) (hB:Bnd s p c ts) (hp1:p<s.length) :
  ACalls Tryz.prog 105 [.ptr b 0] τ fun v σ'=>After σ0 b s p c ts (quotedF (s.drop p).length (s.drop (p+1)) 0 []) v σ':=by
 obtain ⟨k0,hg0,hb⟩:=h.cell
 have hB':=hB
 obtain ⟨hs,hp,hc,ht⟩:=hB
 obtain ⟨st,hst⟩:∃ st,quotedF (s.drop p).length (s.drop (p+1)) 0 []=st:=⟨_,rfl⟩
 rw [hst]
 obtain ⟨body,hbody⟩:∃ body,s.drop (p+1)=body:=⟨_,rfl⟩
 have hbl:body.length=s.length-(p+1):=by rw [<-hbody];simp
 have hdrop:∀ q,s.drop (p+1+q)=body.drop q:=fun q=>by rw [<-hbody,List.drop_drop]
 have hget:∀ q,s[p+1+q]? = body[q]? := fun q=>by rw [<-hbody,List.getElem?_drop]
 rw [hbody] at hst
 obtain ⟨F,hF⟩:∃ F,F=ACode.wp Tryz.prog c105_63:=⟨_,rfl⟩
 refine a105 (by simp) ?_
 simp (disch:=first|assumption|omega) only [go_sem]
 refine allocTC_by fun bB hbB=>?_
 have nb:=ne_of_role hb hbB
 obtain ⟨nb1,nb2⟩:=nb
 have e1:((p:Int)+1).toNat=p+1:=by omega
 simp (disch:=first|assumption|omega) only [go_sem,reduceCtorEq,Nat.reduceEqDiff,↓reduceIte,hb,e1,hbody,List.take_length,←hF]
 refine rngC_by fun it hit=>?_
 obtain ⟨ni1,ni2,hit0⟩:=set_none hit
 obtain ⟨nt1,nt2⟩:=ne_of_role hb hit0
 have hbase:∀ r:Role,(τ.set it (some r)) bB=none:=fun r=>by rw [ASt.set_ne ni2];exact hbB
 have fin:∀ (q:Nat) (acc:List UInt8) (a:AFr) (σ:ASt),q<=body.length->acc.length<=4*q+4->BD (τ.set it (some (.iter body q))) bB acc σ →
   ((st = .bad 0/\a 4 = .bool true)\/(st = .tok 2 acc (q+1)/\q+1<=body.length+1/\a 4 = .bool false/\a 5 = .int .i64 (q+1:Nat)))->(a 0 = .ptr b 0/\a 3 = .ptr bB 0) →
   F (RetQ [.t 2] fun v σ'=>After σ0 b s p c ts st v σ') a σ:=by
  intro q acc a σ hq hacc hW hcase hf
  have hov:Over τ σ:=(Over.set it _ .refl hit0).trans (hW.over (hbase _))
  rw [hF]
  rcases hcase with ⟨rfl,h4⟩|⟨rfl,hq1,h4,h5⟩
  ·simp (disch:=first|assumption|omega) only [go_sem,↓reduceIte,h4]
   exact retC_by hov.drop (.refl _) ⟨rfl,c,h⟩
  ·obtain ⟨σ0',hL,_,hback⟩:=GO.over h hov
   have hstr:=bstring_ok hW (by omega)
   simp (disch:=first|assumption|omega) only [go_sem,reduceCtorEq,Nat.reduceEqDiff,↓reduceIte,hf,h4]
   refine hstr.mono ?_
   rintro v σ' ⟨rfl,rfl⟩
   simp (disch:=first|assumption|omega) only [go_sem,Nat.reduceEqDiff,↓reduceIte,h5]
   refine (put_ok hL hB' 2 acc (q+1) (by omega)).mono ?_
   rintro v σ' ⟨rfl,hL2⟩
   obtain ⟨σ'',hd,hL3⟩:=hback _ _ _ hL2
   simp (disch:=first|assumption|omega) only [go_sem,↓reduceIte]
   exact retC_by hd (.refl _) ⟨rfl,hL3⟩
 have hst0:BD (τ.set it (some (.iter body 0))) bB [] ((τ.set bB (some (.typ 100 [.pointer none,.slice none 0 0]))).set it (some (.iter body 0))) := .inl ⟨rfl,set_swap ni2⟩
 simp (disch:=first|assumption|omega) only [go_sem]
 refine wp_loop_on (fun (i:Nat×List UInt8×Bool) a σ'=>i.1<=body.length/\i.2.1.length<=4*i.1+4/\BD (τ.set it (some (.iter body i.1))) bB i.2.1 σ' ∧
   (i.2.2=false->a 5 = .int .i64 (i.1+1:Nat)/\∃ k,(body.drop i.1).length<=k/\quotedF k (body.drop i.1) i.1 i.2.1=st) ∧
   (i.2.2=true->body[i.1]? = some 34/\a 5 = .int .i64 (i.1+2:Nat)/\∃ k,(body.drop (i.1+1)).length<=k/\quotedF k (body.drop (i.1+1)) (i.1+1) i.2.1=st) ∧
   (a 0 = .ptr b 0/\a 3 = .ptr bB 0/\a 4 = .bool true/\a 21 = .ptr it 0))
  (fun i=>body.length-i.1) (0,[],false) ⟨Nat.zero_le _,by simp,hst0,fun _=>⟨?_,_,?_,hst⟩,fun h=>(by cases h),?_⟩ ?_
 ·simp (disch:=first|assumption|omega) only [go_sem,Nat.reduceEqDiff,↓reduceIte]
 ·simp;omega
 ·simp (disch:=first|assumption|omega) only [go_sem,reduceCtorEq,Nat.reduceEqDiff,↓reduceIte]
 rintro ⟨q,acc,skip⟩ a σ ⟨hq,hacc,hW,hns,hsk,hf⟩
 dsimp only at hq hacc hW hns hsk
 obtain ⟨-,hitr⟩:=hW.iter (r' := .iter body q) ni1
 have hov:Over τ σ:=(Over.set it _ .refl hit0).trans (hW.over (hbase _))
 have hbs:=hov.at hb
 by_cases hlt:q<body.length
 ·have hne:body.drop q ≠ []:=by
   intro h
   have:=congrArg List.length h
   simp at this
   omega
  obtain ⟨⟨r,w⟩,hD⟩:∃ D,decodeL (body.drop q)=D:=⟨_,rfl⟩
  have hD2:Utf8.decode ⟨⟨body⟩⟩ q=(r,w):=by rw [<-hD];exact (decodeL_drop ⟨⟨body⟩⟩ q).symm
  have hDrop:decodeL (s.drop (p+1+q))=(r,w):=by rw [hdrop];exact hD
  have hwle:=decodeL_le (body.drop q) hne
  have hbd:=dec_bd (body.drop q)
  have hrk:=dec_rune (body.drop q)
  rw [hD] at hwle hbd hrk
  dsimp only at hwle hbd hrk
  rw [List.length_drop] at hwle
  obtain ⟨hW2, -⟩:=hW.iter (r' := .iter body (q+w)) ni1
  have hov2:Over τ (σ.set it (some (.iter body (q+w)))):=(Over.set it _ .refl hit0).trans (hW2.over (hbase _))
  have hb2:=hov2.at hb
  simp (disch:=first|assumption|omega) only [go_sem,hf,hitr]
  refine nxt_more hlt ?_
  rw [hD2]
  cases skip with
  | true=>
    obtain ⟨h34,h5,kk,hk1,hk2⟩:=hsk rfl
    have hd34:body.drop q=34::body.drop (q+1):=by
     rw [List.drop_eq_getElem_cons hlt]
     rw [List.getElem?_eq_getElem hlt] at h34
     injection h34 with h34
     rw [h34]
    have hw1:(r,w)=(34,1):=by
     rw [<-hD,hd34]
     exact dec_one 34 _ (by decide)
    injection hw1 with hr1 hw1
    subst hr1 hw1
    have e2:(q:Int)+1<(q+2:Nat):=by omega
    simp (disch:=first|assumption|omega) only [go_sem,reduceCtorEq,Nat.reduceEqDiff,↓reduceIte,hf,h5]
    exact ⟨(q+1,acc,false),by dsimp only;omega,by dsimp only;omega,by dsimp only;omega,hW2,fun _=>⟨rfl,kk,hk1,hk2⟩,fun h=>(by cases h)⟩
  | false=>
    obtain ⟨h5,kk,hk1,hk2⟩:=hns rfl
    have e2:¬ (q:Int)+1<(q+1:Nat):=by omega
    have e3:(p:Int)+1+q=(p+1+q:Nat):=by omega
    cases kk with
    | zero=>simp at hk1;omega
    | succ kk=>
    rw [quotedF,if_neg hne,hD] at hk2
    dsimp only at hk2
    rw [List.length_drop] at hk1
    have hlen:decodeL (body.drop q)≠(65533,1)->runeLen (r:Int)=w:=fun hv=>by
     have:=dec_len (body.drop q) hv
     rw [hD] at this
     exact this
    have hasc:=dec_ascii hne
    rw [hD] at hasc hlen
    dsimp only at hasc
    have hel:=enc_le (r:Int)
    obtain ⟨G,hG⟩:∃ F,F=ACode.wp Tryz.prog c105_43:=⟨_,rfl⟩
    have step:(r,w)≠(65533,1)->∀ (Q:APost) (a:AFr),(a 0 = .ptr b 0/\a 3 = .ptr bB 0/\a 4 = .bool true/\a 6 = .int .i64 q/\a 7 = .int .i32 r/\a 8 = .int .i64 (p+1+q:Nat)/\a 21 = .ptr it 0) →
      (∀ a' σ',(a' 0 = .ptr b 0/\a' 3 = .ptr bB 0/\a' 4 = .bool false/\a' 5 = .int .i64 (q+1+1:Nat))->BD (τ.set it (some (.iter body (q+1)))) bB acc σ'->st = .tok 2 acc (q+1+1)->Q (.exit 0) a' σ') →
      (∀ a' σ' q' acc' skip',q<q'->q'<=body.length->acc'.length<=4*q'+4->BD (τ.set it (some (.iter body q'))) bB acc' σ' →
       (skip'=false->a' 5 = .int .i64 (q'+1:Nat)/\∃ k,(body.drop q').length<=k/\quotedF k (body.drop q') q' acc'=st) →
       (skip'=true->body[q']? = some 34/\a' 5 = .int .i64 (q'+2:Nat)/\∃ k,(body.drop (q'+1)).length<=k/\quotedF k (body.drop (q'+1)) (q'+1) acc'=st) →
       (a' 0 = .ptr b 0/\a' 3 = .ptr bB 0/\a' 4 = .bool true/\a' 21 = .ptr it 0)->Q (.exit 1) a' σ') →
      G Q a (σ.set it (some (.iter body (q+w)))):=by
     intro hv Q a hf hQ0 hQ1
     rw [if_neg hv] at hk2
     have hlen:=hlen hv
     rw [hG]
     by_cases h34:(r:Int)=34
     ·have hr34:r=34:=by omega
      rw [if_neg (by simpa using hr34)] at hk2
      obtain ⟨d,t,hdt,hdc,hw1⟩:=hasc (by omega)
      subst hw1
      have hq1:(body.drop q)[1]? = body[q+1]? := by rw [List.getElem?_drop]
      rw [hq1] at hk2
      have hg1:=hget (q+1)
      obtain ⟨P,hP⟩:∃ P,p+1+(q+1)=P:=⟨_,rfl⟩
      have e4:((p:Int)+1+q+1).toNat=P:=by omega
      rw [hP] at hg1
      by_cases h2:body[q+1]? = some 34
      ·rw [if_pos h2] at hk2
       have hlt2:=(List.getElem?_eq_some_iff.1 h2).1
       rw [h2] at hg1
       have e5:(p:Int)+1+q+1<s.length:=by omega
       have e6:((UInt8.toNat 34:Nat):Int)=34:=rfl
       simp (disch:=first|assumption|omega) only [go_sem,reduceCtorEq,Nat.reduceEqDiff,↓reduceIte,hf,hb2,h34,e4,e5,e6,hg1]
       refine (writeByte_ok hW2 34 (by omega)).mono ?_
       rintro v σ' ⟨rfl,hW3⟩
       simp (disch:=first|assumption|omega) only [go_sem,Nat.reduceEqDiff,↓reduceIte,hf]
       refine hQ1 _ _ (q+1) (acc ++ [34]) true (by omega) (by omega) (by simp;omega) hW3 (fun h=>by cases h) (fun _=>⟨h2,?_,kk,?_,?_⟩) ?_
       ·simp (disch:=first|assumption|omega) only [go_sem,↓reduceIte]
        rfl
       ·simp;omega
       ·rw [List.drop_drop] at hk2
        exact hk2
       ·simp (disch:=first|assumption|omega) only [go_sem,reduceCtorEq,Nat.reduceEqDiff,↓reduceIte,hf]
      ·rw [if_neg h2] at hk2
       by_cases hlt2:q+1<body.length
       ·have e5:(p:Int)+1+q+1<s.length:=by omega
        have hx : body[q + 1]? = some (body[q + 1]'hlt2) := List.getElem?_eq_getElem hlt2
        obtain ⟨x, hxe⟩ : ∃ x, body[q + 1]'hlt2 = x := ⟨_, rfl⟩
        rw [hxe] at hx
        rw [hx] at hg1 h2
        have hx34:¬ (x.toNat:Int)=34:=by
         intro h
         apply h2
         congr 1
         apply UInt8.toNat_inj.1
         have:x.toNat=34:=by omega
         simpa using this
        simp (disch:=first|assumption|omega) only [go_sem,reduceCtorEq,Nat.reduceEqDiff,↓reduceIte,hf,hb2,h34,e4,e5,hg1,hx34]
        refine hQ0 _ _ ?_ hW2 hk2.symm
        simp (disch:=first|assumption|omega) only [go_sem,reduceCtorEq,Nat.reduceEqDiff,↓reduceIte,hf]
        rfl
       ·have e5:¬ (p:Int)+1+q+1<s.length:=by omega
        simp (disch:=first|assumption|omega) only [go_sem,reduceCtorEq,Nat.reduceEqDiff,↓reduceIte,hf,hb2,h34,e5]
        refine hQ0 _ _ ?_ hW2 hk2.symm
        simp (disch:=first|assumption|omega) only [go_sem,reduceCtorEq,Nat.reduceEqDiff,↓reduceIte,hf]
        rfl
     ·have hr34:r≠34:=by omega
      rw [if_pos hr34] at hk2
      clear hasc
      simp (disch:=first|assumption|omega) only [go_sem,Nat.reduceEqDiff,↓reduceIte,hf,h34]
      refine (writeRune_ok hW2 hrk (by omega)).mono ?_
      rintro v σ' hW3
      simp (disch:=first|assumption|omega) only [go_sem,Nat.reduceEqDiff,↓reduceIte,hf]
      refine (runeLen_ok r).use ?_
      rw [hlen]
      simp (disch:=first|assumption|omega) only [go_sem,Nat.reduceEqDiff,↓reduceIte]
      refine hQ1 _ _ (q+w) (acc++encodeRune r) false (by omega) (by omega) (by simp;omega) hW3 (fun _=>⟨?_,kk,?_,?_⟩) (fun h=>by cases h) ?_
      ·simp (disch:=first|assumption|omega) only [go_sem,↓reduceIte]
       congr 1
       omega
      ·simp;omega
      ·rw [List.drop_drop] at hk2
       exact hk2
      ·simp (disch:=first|assumption|omega) only [go_sem,reduceCtorEq,Nat.reduceEqDiff,↓reduceIte,hf]
    have hQ0:∀ (a':AFr) σ',(a' 0 = .ptr b 0/\a' 3 = .ptr bB 0/\a' 4 = .bool false/\a' 5 = .int .i64 (q+1+1:Nat))->BD (τ.set it (some (.iter body (q+1)))) bB acc σ'->st = .tok 2 acc (q+1+1) →
      F (RetQ [.t 2] fun v σ'=>After σ0 b s p c ts st v σ') a' σ':=fun a' σ' hf' hW3 hst3=>
     fin (q+1) acc a' σ' (by omega) (by omega) hW3 (.inr ⟨hst3,by omega,hf'.2.2.1,hf'.2.2.2⟩) ⟨hf'.1,hf'.2.1⟩
    by_cases hbad:(r,w)=(65533,1)
    ·rw [if_pos hbad] at hk2
     injection hbad with hr1 hw1
     subst hr1 hw1
     obtain ⟨σ0',hL,_,hback⟩:=GO.over h hov2
     have hdec:=dec_ok (hU.over hov2) (l:=s.drop (p+1+q)) (by rw [hdrop];exact hne)
     rw [hDrop] at hdec
     have hpass:=pass_ok hL hB' (1+q) (by omega)
     rw [show p+(1+q)=p+1+q by omega] at hpass
     have e7:((p:Int)+1+q).toNat=p+1+q:=by omega
     clear hasc step
     simp (disch:=first|assumption|omega) only [go_sem,reduceCtorEq,Nat.reduceEqDiff,↓reduceIte,hf,h5,hb2,e7,List.take_length,←hG]
     refine hdec.mono ?_
     rintro v σ' ⟨rfl,rfl⟩
     simp (disch:=first|assumption|omega) only [go_sem,reduceCtorEq,Nat.reduceEqDiff,↓reduceIte,hf]
     refine hpass.mono ?_
     rintro v σ' ⟨rfl,hL2⟩
     obtain ⟨σ'',hd,hL3⟩:=hback _ _ _ hL2
     simp (disch:=first|assumption|omega) only [go_sem,↓reduceIte]
     subst hk2
     refine retC_by hd (.refl _) ⟨rfl,c+signsN ((s.drop p).take (1+q)),?_⟩
     rw [show p+(1+q)=p+1+q by omega]
     exact hL3
    have stp:=step hbad
    clear step hasc
    by_cases h65:(r:Int)=65533
    ·have hw1:¬ (w:Int)=1:=by
      intro h
      apply hbad
      rw [Prod.mk.injEq]
      omega
     have hdec:=dec_ok (hU.over hov2) (l:=s.drop (p+1+q)) (by rw [hdrop];exact hne)
     rw [hDrop] at hdec
     have e7:((p:Int)+1+q).toNat=p+1+q:=by omega
     simp (disch:=first|assumption|omega) only [go_sem,reduceCtorEq,Nat.reduceEqDiff,↓reduceIte,hf,h5,hb2,e7,h65,List.take_length,←hG]
     refine hdec.mono ?_
     rintro v σ' ⟨rfl,rfl⟩
     simp (disch:=first|assumption|omega) only [go_sem,Nat.reduceEqDiff,↓reduceIte,hw1]
     refine stp _ _ ?_ ?_ ?_
     ·simp (disch:=first|assumption|omega) only [go_sem,reduceCtorEq,Nat.reduceEqDiff,↓reduceIte,hf]
      rw [<-h65]
     ·intro a' σ' hf' hW3 hst3
      simp (disch:=first|assumption|omega) only [go_sem,reduceCtorEq,↓reduceIte]
      exact hQ0 a' σ' hf' hW3 hst3
     ·intro a' σ' q' acc' skip' h1 h2 h3 h4 h5 h6 h7
      simp (disch:=first|assumption|omega) only [go_sem,↓reduceIte]
      exact ⟨(q',acc',skip'),by dsimp only;omega,h2,h3,h4,h5,h6,h7⟩
    ·simp (disch:=first|assumption|omega) only [go_sem,reduceCtorEq,Nat.reduceEqDiff,↓reduceIte,hf,h5,hb2,h65,←hG]
     refine stp _ _ ?_ ?_ ?_
     ·simp (disch:=first|assumption|omega) only [go_sem,reduceCtorEq,Nat.reduceEqDiff,↓reduceIte,hf]
     ·intro a' σ' hf' hW3 hst3
      simp (disch:=first|assumption|omega) only [go_sem,reduceCtorEq,↓reduceIte]
      exact hQ0 a' σ' hf' hW3 hst3
     ·intro a' σ' q' acc' skip' h1 h2 h3 h4 h5 h6 h7
      simp (disch:=first|assumption|omega) only [go_sem,↓reduceIte]
      exact ⟨(q',acc',skip'),by dsimp only;omega,h2,h3,h4,h5,h6,h7⟩
 ·have hq':q=body.length:=by omega
  cases skip with
  | true=>
    obtain ⟨h34,_⟩:=hsk rfl
    rw [List.getElem?_eq_none (by omega)] at h34
    cases h34
  | false=>
  obtain ⟨h5,kk,hk1,hk2⟩:=hns rfl
  rw [List.drop_eq_nil_of_le (by omega),quotedF_nil] at hk2
  simp (disch:=first|assumption|omega) only [go_sem,hf,hitr]
  refine nxt_over (by omega) ?_
  simp (disch:=first|assumption|omega) only [go_sem,↓reduceIte]
  refine fin q acc _ σ (by omega) hacc hW (.inl ⟨hk2.symm,?_⟩) ?_
  ·simp (disch:=first|assumption|omega) only [go_sem,Nat.reduceEqDiff,↓reduceIte,hf]
  ·simp (disch:=first|assumption|omega) only [go_sem,reduceCtorEq,Nat.reduceEqDiff,↓reduceIte,hf]
end Go.A
namespace Go.A
open Go.Proofs Go.Lib
theorem signs_one {c:UInt8} (h:c.toNat<128):signsN [c]=1:=by
 unfold signsN
 have:=runeCount_ascii ⟨⟨[c]⟩⟩ (fun j hj=>by
  have:j=0:=by simp [ByteArray.size] at hj;omega
  subst this
  exact h)
 simpa [ByteArray.size] using this
set_option maxHeartbeats 1000000 in
theorem tnext_ok {σ0 σ:ASt} (hU:U8 σ) {b:Nat} {s:List UInt8} {p c:Nat} {ts:List Tok} (h:LX σ0 b s p c ts σ) (hB:Bnd s p c ts) (hp:p<s.length) :
  ACalls Tryz.prog 66 [.ptr b 0] σ fun v σ'=>After σ0 b s p c ts (stepP (s.drop p)) v σ':=by
 obtain ⟨st,hst⟩:∃ st,stepP (s.drop p)=st:=⟨_,rfl⟩
 rw [hst]
 have hne:s.drop p ≠ []:=by
  intro h
  have:=congrArg List.length h
  simp at this
  omega
 have hs1:=hB.hs
 have hsg:=sign_ok hU h hB hp
 have hasc:=dec_ascii hne
 have hle:=decodeL_le _ hne
 have hbd:=dec_bd (s.drop p)
 have hwo:=words_ok h hB
 have hqu:=quoted_ok hU h hB hp
 have hfa:=lfail_ok h hB
 have hop:=op_ok h hB hp
 have hps:=pass_ok h hB 1 (by omega)
 obtain ⟨k,hg,hb⟩:=h.cell
 rw [List.length_drop] at hle
 unfold stepP at hst
 dsimp only at hst
 obtain ⟨⟨r,w⟩,hD⟩:∃ D,decodeL (s.drop p)=D:=⟨_,rfl⟩
 rw [hD] at hst hsg hasc hle hbd
 dsimp only at hst hsg hasc hle hbd
 refine a66 (by simp) ?_
 simp (disch:=first|assumption|omega) only [go_sem,reduceCtorEq,↓reduceIte]
 refine hsg.mono ?_
 rintro v σ' ⟨rfl,rfl⟩
 by_cases hbad:(r,w)=(65533,1)
 ·rw [if_pos hbad] at hst
  rw [if_pos hbad,if_pos hbad]
  subst hst
  simp (disch:=first|assumption|omega) only [go_sem,Nat.reduceEqDiff,Int.reduceLT,↓reduceIte,Int.reduceNeg]
  exact retC_by (Drop.refl _) (.refl _) ⟨rfl,c,h⟩
 rw [if_neg hbad] at hst
 rw [if_neg hbad,if_neg hbad]
 have e0:¬ (w:Int)<0:=by omega
 by_cases hbl:r=32\/r=9\/r=10
 ·rw [if_pos hbl] at hst
  subst hst
  obtain ⟨d,t,hdt,hdc,hw1⟩:=hasc (by omega)
  have hs1:signsN ((s.drop p).take 1)=1:=by rw [hdt,List.take_succ_cons,List.take_zero];exact signs_one (by omega)
  rw [hs1] at hps
  subst hw1
  have e1:((1:Nat):Int)=1:=rfl
  rcases hbl with rfl|rfl|rfl
  all_goals
   simp (disch:=first|assumption|omega) only [go_sem,reduceCtorEq,Nat.reduceEqDiff,Int.reduceLT,Int.reduceEq,↓reduceIte,hb]
   refine hps.mono ?_
   rintro v σ2 ⟨rfl,hL⟩
   simp (disch:=first|assumption|omega) only [go_sem,↓reduceIte]
   exact retC_by (Drop.refl _) (.refl _) ⟨rfl,hL⟩
 rw [if_neg hbl] at hst
 have n1:¬ (r:Int)=32:=by omega
 have n2:¬ (r:Int)=9:=by omega
 have n3:¬ (r:Int)=10:=by omega
 by_cases h128:r<128
 ·obtain ⟨d,t,hdt,hdc,hw1⟩:=hasc h128
  clear hasc
  have hdr:UInt8.ofNat r=d:=by rw [<-hdc];simp
  have hwd:=word_ok d
  rw [hdc] at hwd
  rw [hdr] at hst
  have i128:(r:Int)<128:=by omega
  simp (disch:=first|assumption|omega) only [go_sem,Nat.reduceEqDiff,↓reduceIte,e0,n1,n2,n3,i128]
  refine hwd.use ?_
  cases hw:wordB d with
  | true=>
    rw [if_pos ⟨h128,hw⟩] at hst
    subst hst
    simp (disch:=first|assumption|omega) only [go_sem,reduceCtorEq,Nat.reduceEqDiff,↓reduceIte]
    refine hwo.mono ?_
    intro v σ' hA
    simp (disch:=first|assumption|omega) only [go_sem,↓reduceIte]
    exact retC_by (Drop.refl _) (.refl _) hA
  | false=>
  rw [if_neg (by rintro ⟨_,h⟩;rw [hw] at h;cases h)] at hst
  by_cases h34:r=34
  ·rw [if_pos h34,List.drop_drop] at hst
   subst hst
   have i34:(r:Int)=34:=by omega
   simp (disch:=first|assumption|omega) only [go_sem,reduceCtorEq,Nat.reduceEqDiff,↓reduceIte,i34]
   refine hqu.mono ?_
   intro v σ' hA
   simp (disch:=first|assumption|omega) only [go_sem,↓reduceIte]
   exact retC_by (Drop.refl _) (.refl _) hA
  rw [if_neg h34] at hst
  have i34:¬ (r:Int)=34:=by omega
  by_cases h35:r=35
  ·rw [if_pos h35] at hst
   subst hst
   have i35:(r:Int)=35:=by omega
   simp (disch:=first|assumption|omega) only [go_sem,reduceCtorEq,Nat.reduceEqDiff,Int.reduceEq,↓reduceIte,i35]
   refine hfa.mono ?_
   intro v σ' hA
   simp (disch:=first|assumption|omega) only [go_sem,↓reduceIte]
   exact retC_by (Drop.refl _) (.refl _) hA
  rw [if_neg h35] at hst
  have i35:¬ (r:Int)=35:=by omega
  subst hst
  simp (disch:=first|assumption|omega) only [go_sem,reduceCtorEq,Nat.reduceEqDiff,↓reduceIte,i34,i35]
  refine (hop r w (by omega)).mono ?_
  intro v σ' hA
  simp (disch:=first|assumption|omega) only [go_sem,↓reduceIte]
  exact retC_by (Drop.refl _) (.refl _) hA
 ·rw [if_neg (by rintro ⟨h,_⟩;exact h128 h),if_neg (by omega),if_neg (by omega)] at hst
  subst hst
  have i128:¬ (r:Int)<128:=by omega
  have i34:¬ (r:Int)=34:=by omega
  have i35:¬ (r:Int)=35:=by omega
  simp (disch:=first|assumption|omega) only [go_sem,reduceCtorEq,Nat.reduceEqDiff,↓reduceIte,e0,n1,n2,n3,i128,i34,i35]
  refine (hop r w (by omega)).mono ?_
  intro v σ' hA
  simp (disch:=first|assumption|omega) only [go_sem,↓reduceIte]
  exact retC_by (Drop.refl _) (.refl _) hA
theorem quotedF_fits:∀ (k:Nat) (r:List UInt8) (p:Nat) (acc:List UInt8),(∀ j,quotedF k r p acc = .bad j->j<1+p+r.length)/\quotedF k r p acc ≠ .blank/\∀ kd t n,quotedF k r p acc = .tok kd t n->p+2<=n/\n<=p+1+r.length
 | 0,r,p,acc=>by
   refine ⟨fun j h=>?_,by simp [quotedF],fun kd t n h=>by simp [quotedF] at h⟩
   simp only [quotedF,Step.bad.injEq] at h
   omega
 | k+1,r,p,acc=>by
   by_cases hr:r = []
   ·subst hr
    rw [quotedF_nil]
    refine ⟨fun j h=>?_,by simp,fun kd t n h=>by simp at h⟩
    simp only [Step.bad.injEq] at h
    omega
   have hpos:=List.length_pos_iff.2 hr
   have hle:=decodeL_le r hr
   have hw:=decodeL_width r
   unfold quotedF
   rw [if_neg hr]
   split
   ·refine ⟨fun j h=>?_,by simp,fun kd t n h=>by simp at h⟩
    simp only [Step.bad.injEq] at h
    omega
   split
   ·obtain ⟨h1,h2,h3⟩:=quotedF_fits k (r.drop (decodeL r).2) (p+(decodeL r).2) (acc++encodeRune ((decodeL r).1:Int))
    rw [List.length_drop] at h1 h3
    exact ⟨fun j h=>by have:=h1 j h;omega,h2,fun kd t n h=>by have:=h3 kd t n h;omega⟩
   split
   ·rename_i h1 h2 h3
    have hl2:=(List.getElem?_eq_some_iff.1 h3).1
    obtain ⟨h1,h2,h3⟩:=quotedF_fits k (r.drop 2) (p+2) (acc ++ [34])
    rw [List.length_drop] at h1 h3
    exact ⟨fun j h=>by have:=h1 j h;omega,h2,fun kd t n h=>by have:=h3 kd t n h;omega⟩
   ·refine ⟨fun j h=>by simp at h,by simp,fun kd t n h=>?_⟩
    simp only [Step.tok.injEq] at h
    omega
theorem failS_fits (r:List UInt8) (hr:r ≠ []):∀ (es:List (List UInt8)),(∀ e∈es,1<=e.length)->(∀ j,failS r es = .bad j->j<r.length)/\failS r es ≠ .blank/\∀ kd t n,failS r es = .tok kd t n->1<=n/\n<=r.length
 | [],_=>by
   have:=List.length_pos_iff.2 hr
   refine ⟨fun j h=>?_,by simp [failS],fun kd t n h=>by simp [failS] at h⟩
   simp only [failS,Step.bad.injEq] at h
   omega
 | e::es,he=>by
   unfold failS
   split
   ·rename_i h1
    have:=he e (by simp)
    refine ⟨fun j h=>by simp at h,by simp,fun kd t n h=>?_⟩
    simp only [Step.tok.injEq] at h
    omega
   ·exact failS_fits r hr es fun e h=>he e (by simp [h])
theorem twoS_fits (r:List UInt8):∀ (es:List (List UInt8)) e,twoS r es=some e->e∈es/\e.isPrefixOf r=true
 | [],e,h=>by simp [twoS] at h
 | x::es,e,h=>by
   unfold twoS at h
   split at h
   ·injection h with h;subst h;exact ⟨by simp,by assumption⟩
   ·obtain ⟨h1,h2⟩:=twoS_fits r es e h
    exact ⟨by simp [h1],h2⟩
theorem stepP_fits (r:List UInt8) (hr:r ≠ []):(∀ j,stepP r = .bad j->j<r.length)/\∀ kd t n,stepP r = .tok kd t n->1<=n/\n<=r.length:=by
 have hpos:=List.length_pos_iff.2 hr
 have hle:=decodeL_le r hr
 have hw:=decodeL_width r
 have hasc:=dec_ascii hr
 have bad0:(∀ j,Step.bad 0 = .bad j->j<r.length)/\∀ kd t n,Step.bad 0 = .tok kd t n->1<=n/\n<=r.length:=by
  refine ⟨fun j h=>?_,fun kd t n h=>by simp at h⟩
  simp only [Step.bad.injEq] at h
  omega
 have tok1:∀ kd t n,1<=n->n<=r.length->(∀ j,Step.tok kd t n = .bad j->j<r.length)/\∀ kd' t' n',Step.tok kd t n = .tok kd' t' n'->1<=n'/\n'<=r.length:=by
  intro kd t n h1 h2
  refine ⟨fun j h=>by simp at h,fun kd t n h=>?_⟩
  simp only [Step.tok.injEq] at h
  omega
 unfold stepP
 dsimp only
 split
 ·exact bad0
 split
 ·exact ⟨fun j h=>by simp at h,fun kd t n h=>by simp at h⟩
 split
 ·rename_i h1 h2 h3
  obtain ⟨d,t,hdt,hdc,_⟩:=hasc h3.1
  have hrl:=runL_le wordB r
  have h1:1<=runL wordB r:=by
   rw [hdt,runL]
   have:UInt8.ofNat (decodeL r).1=d:=by rw [<-hdc];simp
   rw [this] at h3
   rw [if_pos h3.2]
   omega
  unfold wordsS
  dsimp only
  repeat' split
  all_goals first|exact tok1 _ _ _ h1 hrl|exact bad0
 split
 ·obtain ⟨h1,h2,h3⟩:=quotedF_fits r.length (r.drop 1) 0 []
  rw [List.length_drop] at h1 h3
  exact ⟨fun j h=>by have:=h1 j h;omega,fun kd t n h=>by have:=h3 kd t n h;omega⟩
 split
 ·obtain ⟨h1,h2,h3⟩:=failS_fits r hr errTexts (by decide)
  exact ⟨h1,h3⟩
 ·unfold opS
  split
  ·exact tok1 _ _ _ hw hle
  ·split
   ·rename_i e he
    obtain ⟨h1,h2⟩:=twoS_fits r _ _ he
    have:=twos_len e h1
    have:=(List.isPrefixOf_iff_prefix.1 h2).length_le
    exact tok1 _ _ _ (by omega) (by omega)
   ·split
    ·exact tok1 _ _ _ (by omega) (by omega)
    ·exact bad0
theorem After.u8 {σ0 σ':ASt} (hU:U8 σ0) {b:Nat} (hb:σ0 b=none) {s:List UInt8} {p c:Nat} {ts:List Tok} (h:LX σ0 b s p c ts σ'):U8 σ':=by
 have hne:∀ x r,σ0 x=some r->x≠b:=by rintro x r hx rfl;rw [hb] at hx;cases hx
 exact ⟨GO.at h (hne _ _ hU.1) hU.1,GO.at h (hne _ _ hU.2) hU.2⟩
theorem lex_ok {σ:ASt} (hU:U8 σ) (s:List UInt8) (hs0:s.length<=1000000000) :
  ACalls Tryz.prog 31 [.str s] σ fun v σ'=>v = .tuple [.sl .shr ((lexP s).1.map tokAV),.int .i64 (lexP s).2.1,.int .i64 (lexP s).2.2]/\σ'=σ:=by
 obtain ⟨R,hR⟩:∃ R,lexP s=R:=⟨_,rfl⟩
 rw [hR]
 unfold lexP at hR
 refine a31 (by simp) ?_
 obtain ⟨F,hF⟩:∃ F,F=ACode.wp Tryz.prog c31_24:=⟨_,rfl⟩
 by_cases hbig:2000<s.length
 ·rw [if_pos hbig] at hR
  subst hR
  have e1:(2000:Int)<s.length:=by omega
  simp (disch:=first|assumption|omega) only [go_sem,reduceCtorEq,Nat.reduceEqDiff,↓reduceIte,e1]
  exact retC_by (Drop.refl _) (.tuple (.cons (.sl _ _) (.cons (.refl _) (.cons (.refl _) .nil)))) ⟨rfl,rfl⟩
 rw [if_neg hbig] at hR
 have hs:s.length<=100000:=by omega
 have e1:¬ (2000:Int)<s.length:=by omega
 simp (disch:=first|assumption|omega) only [go_sem,reduceCtorEq,Nat.reduceAdd,Nat.reduceLeDiff,↓reduceIte,e1]
 refine boxC_by rfl fun b hb=>?_
 simp (disch:=first|assumption|omega) only [go_sem,↓reduceIte,←hF]
 have h0:LX σ b s 0 0 [] (σ.set b (some (.obj [.str s,.int .i64 0,.int .i64 0,.sl .full []]))):=⟨.full,.inl ⟨rfl,rfl,rfl⟩⟩
 refine wp_loop_on (fun (i:Nat×Nat×List Tok) a σ'=>i.1<=s.length/\i.2.1<=i.1/\i.2.2.length<=i.1/\LX σ b s i.1 i.2.1 i.2.2 σ'/\(∃ k,(s.drop i.1).length<k/\lexF k (s.drop i.1) i.1 i.2.1 i.2.2=R)/\(a 0 = .str s/\a 5 = .ptr b 0))
  (fun i=>s.length-i.1) (0,0,[]) ⟨Nat.zero_le _,Nat.le_refl _,Nat.le_refl _,h0,⟨s.length+1,by simp,hR⟩,?_⟩ ?_
 ·simp (disch:=first|assumption|omega) only [go_sem,reduceCtorEq,↓reduceIte]
 rintro ⟨p,c,ts⟩ a σ1 ⟨hp,hc,ht,hL,⟨k,hk,hlex⟩,hf⟩
 dsimp only at hp hc ht hL hk hlex hf
 have hB:Bnd s p c ts:=⟨hs,hp,hc,by omega⟩
 have hU1:=After.u8 hU hb hL
 obtain ⟨kk,hg,hcell⟩:=hL.cell
 cases k with
 | zero=>omega
 | succ k=>
 rw [List.length_drop] at hk
 by_cases hlt:p<s.length
 ·have hne:s.drop p ≠ []:=by
   intro h
   have:=congrArg List.length h
   simp at this
   omega
  have hlt':(p:Int)<s.length:=by omega
  have hfit:=stepP_fits _ hne
  have hnx:=tnext_ok hU1 hL hB hlt
  rw [lexF,if_neg hne] at hlex
  obtain ⟨st,hst⟩:∃ st,stepP (s.drop p)=st:=⟨_,rfl⟩
  rw [hst] at hlex hfit hnx
  rw [List.length_drop] at hfit
  simp (disch:=first|assumption|omega) only [go_sem,reduceCtorEq,Nat.reduceEqDiff,↓reduceIte,hf,hcell,hlt']
  refine hnx.mono ?_
  intro v σ' hA
  cases st with
  | bad j=>
    obtain ⟨rfl,c',hL2⟩:=hA
    obtain ⟨k2,hg2,hcell2⟩:=hL2.cell
    dsimp only at hlex
    subst hlex
    simp (disch:=first|assumption|omega) only [go_sem,Nat.reduceEqDiff,Int.reduceEq,↓reduceIte,hf,hcell2]
    exact retC_by (Drop.trans hg2.drop (Drop.set hb)) (.tuple (.cons (.sl _ _) (.cons (.refl _) (.cons (.refl _) .nil)))) ⟨rfl,rfl⟩
  | blank=>
    obtain ⟨rfl,hL2⟩:=hA
    dsimp only at hlex
    rw [List.drop_drop] at hlex
    simp (disch:=first|assumption|omega) only [go_sem,reduceCtorEq,Nat.reduceEqDiff,↓reduceIte,hf]
    exact ⟨(p+1,c+1,ts),by dsimp only;omega,by dsimp only;omega,by dsimp only;omega,by dsimp only;omega,hL2,⟨k,by simp;omega,hlex⟩⟩
  | tok kd t n=>
    obtain ⟨rfl,hL2⟩:=hA
    dsimp only at hlex
    rw [List.drop_drop] at hlex
    obtain ⟨g1,g2⟩:=hfit.2 kd t n rfl
    have hsn:=signsN_le ((s.drop p).take n)
    rw [take_len (by omega)] at hsn
    simp (disch:=first|assumption|omega) only [go_sem,reduceCtorEq,Nat.reduceEqDiff,↓reduceIte,hf]
    exact ⟨(p+n,c+signsN ((s.drop p).take n),ts ++ [⟨kd,t,p,c⟩]),by dsimp only;omega,by dsimp only;omega,by dsimp only;omega,by simp;omega,hL2,⟨k,by simp;omega,hlex⟩⟩
 ·have hlt':¬ (p:Int)<s.length:=by omega
  have hpe:s.drop p = []:=List.drop_eq_nil_of_le (by omega)
  rw [lexF,hpe,if_pos rfl] at hlex
  subst hlex
  simp (disch:=first|assumption|omega) only [go_sem,reduceCtorEq,Nat.reduceEqDiff,↓reduceIte,hf,hcell,hlt']
  rw [hF]
  simp (disch:=first|assumption|omega) only [go_sem,Nat.reduceEqDiff,↓reduceIte,hf]
  refine (put_ok hL hB 0 [] 0 (by omega)).mono ?_
  rintro v σ' ⟨rfl,hL2⟩
  obtain ⟨k2,hg2,hcell2⟩:=hL2.cell
  have hz:signsN ((s.drop p).take 0)=0:=by rw [List.take_zero];rfl
  simp (disch:=first|assumption|omega) only [go_sem,Nat.reduceEqDiff,↓reduceIte,hf,hcell2]
  exact retC_by (Drop.trans hg2.drop (Drop.set hb)) (.tuple (.cons (.sl _ _) (.cons (.refl _) (.cons (.refl _) .nil)))) ⟨rfl,rfl⟩
end Go.A
namespace Go.A
open Go.Proofs
/-! 33: (*tabular/parse.parser).cur -/
def c33_9:ACode := .seq (.ops [ oe 2 (.alloc [(.int .i64 0),(.str []),(.int .i64 0),(.int .i64 0)])]) (.seq (.seq (.ops [ oq 3 (.mv (.t 0)),oq 4 (.nc (.t 3)),oq 5 (.fa 3 (.t 4)),oq 6 (.ld none (.t 5)),oq 7 (.bin .neq (.t 6) (.v (.int .i64 0)))]) (.cond (.t 7) (.seq (.ops [ oq 8 (.build [(.int .i64 0),(.str []),(.int .i64 0),(.int .i64 0)] []),oz (.store 4 (.t 2) (.t 8))]) .ret) .skip)) (.seq (.ops [ oq 9 (.mv (.t 0)),oq 10 (.nc (.t 9)),oq 11 (.fa 0 (.t 10)),oq 12 (.ld none (.t 11)),oq 13 (.mv (.t 0)),oq 14 (.nc (.t 13)),oq 15 (.fa 1 (.t 14)),oq 16 (.ld none (.t 15)),oq 17 (.ia 4 (.t 12) (.t 16)),oq 18 (.ld (some 4) (.t 17)),oz (.store 4 (.t 2) (.t 18))]) .ret))
@[go_sem] def c33_9_wp:=wp_of c33_9.eq_1
def c33:AFn:=⟨19,[.c 2 (some 4)],c33_9⟩
theorem c33_ok:compF Tryz.prog Tryz.f33=some c33:=by kernel_rfl
theorem a33 {args:List AV} {σ:ASt} {R:AV->ASt->Prop} (hl:args.length<=19) (h:c33_9.wp Tryz.prog (RetQ [.c 2 (some 4)] R) (init args) σ):ACalls Tryz.prog 33 args σ R:=acalls_of Tryz.func33 c33_ok hl h
/-! 34: (*tabular/parse.parser).fail -/
def c34_8:ACode := .seq (.ops [ oe 4 (.alloc [(.int .i64 0),(.int .i64 0),(.str []),(.int .i64 0),(.int .i64 0),(.bool false),(.bool false),(.int .i64 0),(.int .i64 0),(.bool false),(.bool false),(.sl .full [])])]) (.seq (.seq (.ops [ oq 5 (.mv (.t 0)),oq 6 (.nc (.t 5)),oq 7 (.fa 3 (.t 6)),oq 8 (.ld none (.t 7)),oq 9 (.bin .eql (.t 8) (.v (.int .i64 0)))]) (.cond (.t 9) (.ops [ oq 10 (.mv (.t 0)),oq 11 (.mv (.t 0)),oq 12 (.mv (.t 1)),oq 13 (.mv (.t 0)),oq 14 (.nc (.t 13)),oq 15 (.fa 0 (.t 14)),oq 16 (.ld none (.t 15)),oq 17 (.mv (.t 0)),oq 18 (.nc (.t 17)),oq 19 (.fa 1 (.t 18)),oq 20 (.ld none (.t 19)),oq 21 (.ia 4 (.t 16) (.t 20)),oq 22 (.fa 2 (.t 21)),oq 23 (.ld none (.t 22)),oq 24 (.nc (.t 10)),oq 25 (.fa 3 (.t 24)),oz (.store 1 (.t 25) (.t 12)),oq 26 (.nc (.t 11)),oq 27 (.fa 4 (.t 26)),oz (.store 1 (.t 27) (.t 23))]) .skip)) (.seq (.ops [ oq 28 (.build [(.int .i64 0),(.int .i64 0),(.str []),(.int .i64 0),(.int .i64 0),(.bool false),(.bool false),(.int .i64 0),(.int .i64 0),(.bool false),(.bool false),(.sl .full [])] []),oz (.store 12 (.t 4) (.t 28))]) .ret))
@[go_sem] def c34_8_wp:=wp_of c34_8.eq_1
def c34:AFn:=⟨29,[.c 4 (some 12)],c34_8⟩
theorem c34_ok:compF Tryz.prog Tryz.f34=some c34:=by kernel_rfl
theorem a34 {args:List AV} {σ:ASt} {R:AV->ASt->Prop} (hl:args.length<=29) (h:c34_8.wp Tryz.prog (RetQ [.c 4 (some 12)] R) (init args) σ):ACalls Tryz.prog 34 args σ R:=acalls_of Tryz.func34 c34_ok hl h
/-! 69: slices.Contains[[]string,string] -/
def c69_3:ACode := .seq (.ops [ oq 4 (.mv (.v (.bool false)))]) (.seq (.ops [ oq 5 (.mv (.t 0)),oq 6 (.mv (.t 1)),oe 7 (.call 70 [(.t 5),(.t 6)]),oq 8 (.bin .geq (.t 7) (.v (.int .i64 0))),oq 4 (.mv (.t 8))]) .ret)
@[go_sem] def c69_3_wp:=wp_of c69_3.eq_1
def c69:AFn:=⟨9,[.t 4],c69_3⟩
theorem c69_ok:compF Tryz.prog Tryz.f69=some c69:=by kernel_rfl
theorem a69 {args:List AV} {σ:ASt} {R:AV->ASt->Prop} (hl:args.length<=9) (h:c69_3.wp Tryz.prog (RetQ [.t 4] R) (init args) σ):ACalls Tryz.prog 69 args σ R:=acalls_of Tryz.func69 c69_ok hl h
/-! 70: slices.Index[[]string,string] -/
def c70_15:ACode := .seq (.ops [ oq 9 (.bin .lss (.t 8) (.t 7))]) (.seq (.cond (.t 9) .skip (.exit 0)) (.seq (.block 1 (.seq (.ops [ oq 10 (.mv (.t 8)),oq 5 (.mv (.t 10))]) (.seq (.ops [ oq 11 (.mv (.t 1)),oq 12 (.mv (.t 0)),oq 13 (.mv (.t 5)),oq 14 (.ia 1 (.t 12) (.t 13)),oq 15 (.ld none (.t 14)),oq 16 (.bin .eql (.t 11) (.t 15))]) (.cond (.t 16) (.seq (.ops [ oq 17 (.mv (.t 5)),oq 4 (.mv (.t 17))]) .ret) .skip)))) (.ops [ oq 18 (.bin .add (.t 8) (.v (.int .i64 1))),oq 8 (.mv (.t 18))])))
def c70_22:ACode := .seq (.ops [ oq 4 (.mv (.v (.int .i64 0)))]) (.seq (.seq (.ops [ oq 6 (.mv (.t 0)),oq 7 (.len (.t 6)),oq 8 (.mv (.v (.int .i64 0)))]) (.block 0 (.loop c70_15))) (.seq (.ops [ oq 4 (.mv (.v (.int .i64 (-1))))]) .ret))
@[go_sem] def c70_15_wp:=wp_of c70_15.eq_1
@[go_sem] def c70_22_wp:=wp_of c70_22.eq_1
def c70:AFn:=⟨19,[.t 4],c70_22⟩
theorem c70_ok:compF Tryz.prog Tryz.f70=some c70:=by kernel_rfl
theorem a70 {args:List AV} {σ:ASt} {R:AV->ASt->Prop} (hl:args.length<=19) (h:c70_22.wp Tryz.prog (RetQ [.t 4] R) (init args) σ):ACalls Tryz.prog 70 args σ R:=acalls_of Tryz.func70 c70_ok hl h
/-! 109: (*tabular/parse.parser).at -/
def c109_5:ACode := .seq (.ops [ oq 4 (.mv (.v (.bool false)))]) (.seq (.ops [ oq 6 (.mv (.t 0)),oe 7 (.call 33 [(.t 6)]),oe 5 (.alloc [(.int .i64 0),(.str []),(.int .i64 0),(.int .i64 0)]),oz (.store 4 (.t 5) (.t 7))]) (.seq (.ops [ oq 8 (.fa 0 (.t 5)),oq 9 (.ld none (.t 8)),oq 10 (.bin .eql (.t 9) (.v (.int .i64 6))),oq 11 (.mv (.t 10)),⟨some 12,some (11,true),.q (.fa 1 (.t 5)),[]⟩,⟨some 13,some (11,true),.q (.ld none (.t 12)),[]⟩,⟨some 14,some (11,true),.q (.mv (.t 1)),[]⟩,⟨some 15,some (11,true),.q (.bin .eql (.t 13) (.t 14)),[]⟩,oq 16 (.pick (.t 11) (.t 15) (.v (.bool false))),oq 4 (.mv (.t 16))]) .ret))
@[go_sem] def c109_5_wp:=wp_of c109_5.eq_1
def c109:AFn:=⟨17,[.t 4],c109_5⟩
theorem c109_ok:compF Tryz.prog Tryz.f109=some c109:=by kernel_rfl
theorem a109 {args:List AV} {σ:ASt} {R:AV->ASt->Prop} (hl:args.length<=17) (h:c109_5.wp Tryz.prog (RetQ [.t 4] R) (init args) σ):ACalls Tryz.prog 109 args σ R:=acalls_of Tryz.func109 c109_ok hl h
/-! 111: (*tabular/parse.parser).enter -/
def c111_5:ACode := .seq (.ops [ oq 2 (.mv (.t 0)),oq 3 (.nc (.t 2)),oq 4 (.fa 2 (.t 3)),oq 5 (.ld none (.t 4)),oq 6 (.bin .add (.t 5) (.v (.int .i64 1))),oq 7 (.nc (.t 2)),oq 8 (.fa 2 (.t 7)),oz (.store 1 (.t 8) (.t 6))]) (.seq (.ops [ oq 9 (.mv (.t 0)),oq 10 (.nc (.t 9)),oq 11 (.fa 2 (.t 10)),oq 12 (.ld none (.t 11)),oq 13 (.bin .gtr (.t 12) (.v (.int .i64 40)))]) (.cond (.t 13) (.ops [ oq 14 (.mv (.t 0)),oe 15 (.call 34 [(.t 14),(.v (.int .i64 12))])]) .skip))
@[go_sem] def c111_5_wp:=wp_of c111_5.eq_1
def c111:AFn:=⟨16,[],c111_5⟩
theorem c111_ok:compF Tryz.prog Tryz.f111=some c111:=by kernel_rfl
theorem a111 {args:List AV} {σ:ASt} {R:AV->ASt->Prop} (hl:args.length<=16) (h:c111_5.wp Tryz.prog (RetQ [] R) (init args) σ):ACalls Tryz.prog 111 args σ R:=acalls_of Tryz.func111 c111_ok hl h
/-! 112: (*tabular/parse.parser).leave -/
def c112_0:ACode := .ops [ oq 2 (.mv (.t 0)),oq 3 (.nc (.t 2)),oq 4 (.fa 2 (.t 3)),oq 5 (.ld none (.t 4)),oq 6 (.bin .sub (.t 5) (.v (.int .i64 1))),oq 7 (.nc (.t 2)),oq 8 (.fa 2 (.t 7)),oz (.store 1 (.t 8) (.t 6))]
@[go_sem] def c112_0_wp:=wp_of c112_0.eq_1
def c112:AFn:=⟨9,[],c112_0⟩
theorem c112_ok:compF Tryz.prog Tryz.f112=some c112:=by kernel_rfl
theorem d112 {args:List AV} {σ:ASt} {R:AV->ASt->Prop} (hl:args.length<=9) (h:c112_0.wp Tryz.prog (fun _ _ σ'=>R (.tuple []) σ') (init args) σ):ADefer Tryz.prog 112 args σ R:=adefer_of (R:=R) Tryz.func112 c112_ok (by kernel_rfl) rfl rfl hl h
/-! 140: (*tabular/parse.parser).accept -/
def c140_11:ACode := .seq (.ops [ oq 4 (.mv (.v (.bool false)))]) (.seq (.seq (.ops [ oq 5 (.mv (.t 0)),oq 6 (.mv (.t 1)),oe 7 (.call 109 [(.t 5),(.t 6)]),oq 8 (.un .not (.t 7))]) (.cond (.t 8) (.seq (.ops [ oq 4 (.mv (.v (.bool false)))]) .ret) .skip)) (.seq (.ops [ oq 9 (.mv (.t 0)),oq 10 (.nc (.t 9)),oq 11 (.fa 1 (.t 10)),oq 12 (.ld none (.t 11)),oq 13 (.bin .add (.t 12) (.v (.int .i64 1))),oq 14 (.nc (.t 9)),oq 15 (.fa 1 (.t 14)),oz (.store 1 (.t 15) (.t 13))]) (.seq (.ops [ oq 4 (.mv (.v (.bool true)))]) .ret)))
@[go_sem] def c140_11_wp:=wp_of c140_11.eq_1
def c140:AFn:=⟨16,[.t 4],c140_11⟩
theorem c140_ok:compF Tryz.prog Tryz.f140=some c140:=by kernel_rfl
theorem a140 {args:List AV} {σ:ASt} {R:AV->ASt->Prop} (hl:args.length<=16) (h:c140_11.wp Tryz.prog (RetQ [.t 4] R) (init args) σ):ACalls Tryz.prog 140 args σ R:=acalls_of Tryz.func140 c140_ok hl h
/-! 160: (*tabular/parse.parser).must -/
def c160_3:ACode := .seq (.ops [ oq 4 (.mv (.t 0)),oq 5 (.mv (.t 1)),oe 6 (.call 140 [(.t 4),(.t 5)]),oq 7 (.un .not (.t 6))]) (.cond (.t 7) (.ops [ oq 8 (.mv (.t 0)),oe 9 (.call 34 [(.t 8),(.v (.int .i64 10))])]) .skip)
@[go_sem] def c160_3_wp:=wp_of c160_3.eq_1
def c160:AFn:=⟨10,[],c160_3⟩
theorem c160_ok:compF Tryz.prog Tryz.f160=some c160:=by kernel_rfl
theorem a160 {args:List AV} {σ:ASt} {R:AV->ASt->Prop} (hl:args.length<=10) (h:c160_3.wp Tryz.prog (RetQ [] R) (init args) σ):ACalls Tryz.prog 160 args σ R:=acalls_of Tryz.func160 c160_ok hl h
/-! 175: tabular/parse.ref -/
def c175_5:ACode := .seq (.ops [ oe 1 (.box (.t 0)),oe 2 (.alloc [(.int .i64 0),(.int .i64 0),(.bool false),(.bool false)])]) (.seq (.ops [ oq 6 (.fa 1 (.t 1)),oq 7 (.ld none (.t 6)),oe 8 (.call 155 [(.t 7)]),oq 5 (.mv (.t 8)),oq 9 (.ext 0 (.t 5)),oq 10 (.ext 1 (.t 5)),oe 3 (.alloc [(.int .i64 0),(.int .i64 0),(.bool false),(.bool false)]),oz (.store 4 (.t 3) (.t 9)),oq 4 (.mv (.t 10))]) (.seq (.ops [ oq 11 (.ld (some 4) (.t 3)),oz (.store 4 (.t 2) (.t 11))]) .ret))
@[go_sem] def c175_5_wp:=wp_of c175_5.eq_1
def c175:AFn:=⟨12,[.c 2 (some 4)],c175_5⟩
theorem c175_ok:compF Tryz.prog Tryz.f175=some c175:=by kernel_rfl
theorem a175 {args:List AV} {σ:ASt} {R:AV->ASt->Prop} (hl:args.length<=12) (h:c175_5.wp Tryz.prog (RetQ [.c 2 (some 4)] R) (init args) σ):ACalls Tryz.prog 175 args σ R:=acalls_of Tryz.func175 c175_ok hl h
end Go.A
namespace Go.A
open Go.Proofs Go.Lib
def pr (T:List Tok) (s:PSt):Option Role:=some (.obj [.sl .shr (T.map tokAV),.int .i64 s.i,.int .i64 s.deep,.int .i64 s.err,.int .i64 s.bad])
theorem set_self0 {σ:ASt} {b:Nat} {r:Option Role} (h:σ b=r):σ.set b r=σ:=by
 funext x
 simp only [ASt.set]
 split
 ·rename_i hx;rw [hx,h]
 ·rfl
theorem tok_get {T:List Tok} {i:Nat} (h:i<T.length):(T.map tokAV)[i]? = some (tokAV (T.getD i endT)):=by
 rw [List.getElem?_map,List.getD_eq_getElem?_getD,List.getElem?_eq_getElem h]
 rfl
theorem pcur_ok {T:List Tok} {s:PSt} (hi:s.i<T.length) {σ:ASt} {b:Nat} (hb:σ b=pr T s):ACalls Tryz.prog 33 [.ptr b 0] σ fun v σ'=>v=tokAV (curT T s)/\σ'=σ:=by
 unfold curT
 unfold pr at hb
 have ht:=tok_get hi
 have hlen:(T.map tokAV).length=T.length:=by simp
 have hi':(s.i:Int)<T.length:=by omega
 generalize T.getD s.i endT=t at *
 generalize T.map tokAV=TL at *
 obtain ⟨kd,tx,at',col⟩:=t
 unfold tokAV at ht
 dsimp only at ht
 refine a33 (by simp) ?_
 simp (disch:=first|assumption|omega) only [go_sem]
 refine allocC_by fun d hd=>?_
 have hbd:b≠d:=by rintro rfl;rw [hb] at hd;cases hd
 by_cases he:s.err=0
 ·rw [if_neg (by simp [he])]
  simp (disch:=first|assumption|omega) only [go_sem,reduceCtorEq,Nat.reduceEqDiff,Nat.reduceAdd,Nat.reduceLeDiff,↓reduceIte,Bool.true_and,hb,he,ht,ASt.set_set]
  exact retC_by (Drop.set hd) (.refl _) ⟨rfl,rfl⟩
 ·rw [if_pos he]
  simp (disch:=first|assumption|omega) only [go_sem,reduceCtorEq,Nat.reduceEqDiff,Nat.reduceAdd,Nat.reduceLeDiff,↓reduceIte,Bool.true_and,hb,he,ASt.set_set]
  exact retC_by (Drop.set hd) (.refl _) ⟨rfl,rfl⟩
theorem pfail_ok {T:List Tok} {s:PSt} (hi:s.i<T.length) (e:Int) {σ:ASt} {b:Nat} (hb:σ b=pr T s):ACalls Tryz.prog 34 [.ptr b 0,.int .i64 e] σ fun v σ'=>v=zN.av/\σ'=σ.set b (pr T (failP T s e)):=by
 have ht:=tok_get hi
 have hlen:(T.map tokAV).length=T.length:=by simp
 have hi':(s.i:Int)<T.length:=by omega
 have hfl:∀ x:PSt,x.err=0->failP T x e=⟨x.i,x.deep,e,((T.getD x.i endT).at':Nat)⟩:=fun x hx=>by unfold failP;rw [if_pos hx]
 have hfn:s.err≠0->failP T s e=s:=fun hx=>by unfold failP;rw [if_neg hx]
 have hfl:=hfl s
 generalize T.getD s.i endT=t at *
 have hz:zN.av = .agg [.int .i64 0,.int .i64 0,.str [],.int .i64 0,.int .i64 0,.bool false,.bool false,.int .i64 0,.int .i64 0,.bool false,.bool false,.sl .shr []]:=rfl
 rw [hz]
 have hdz:∀ σ σ':ASt,Fz σ σ' (resV [.agg [.int .i64 0,.int .i64 0,.str [],.int .i64 0,.int .i64 0,.bool false,.bool false,.int .i64 0,.int .i64 0,.bool false,.bool false,.sl .full []]]) (.agg [.int .i64 0,.int .i64 0,.str [],.int .i64 0,.int .i64 0,.bool false,.bool false,.int .i64 0,.int .i64 0,.bool false,.bool false,.sl .shr []]):=fun σ σ'=>Fz.agg (.cons (.refl _) (.cons (.refl _) (.cons (.refl _) (.cons (.refl _) (.cons (.refl _) (.cons (.refl _) (.cons (.refl _) (.cons (.refl _) (.cons (.refl _) (.cons (.refl _) (.cons (.refl _) (.cons (.sl _ _) .nil))))))))))))
 refine a34 (by simp) ?_
 by_cases he:s.err=0
 ·rw [hfl he]
  obtain ⟨si,sd,se,sb⟩:=s
  dsimp only at he ht hi' hb hlen
  subst he
  obtain ⟨kd,tx,at',col⟩:=t
  unfold pr at hb ⊢
  dsimp only at hb ⊢
  generalize T.map tokAV=TL at *
  unfold tokAV at ht
  dsimp only at ht
  simp (disch:=first|assumption|omega) only [go_sem]
  refine allocC_by fun d hd=>?_
  have hbd:b≠d:=by rintro rfl;rw [hb] at hd;cases hd
  have hsw:∀ (X Y Z:Option Role),((σ.set d X).set b Y).set d Z=(σ.set b Y).set d Z:=fun X Y Z=>by rw [set_swap (Ne.symm hbd),ASt.set_set]
  have hdr:∀ X Y:Option Role,((σ.set d X).set b Y) d=X:=fun X Y=>by rw [ASt.set_ne (Ne.symm hbd),ASt.set_same]
  have hdd:∀ X Y:Option Role,Drop ((σ.set b X).set d Y) (σ.set b X):=fun X Y=>Drop.set (by rw [ASt.set_ne (Ne.symm hbd)];exact hd)
  simp (disch:=first|assumption|omega) only [go_sem,reduceCtorEq,Nat.reduceEqDiff,Nat.reduceAdd,Nat.reduceLeDiff,↓reduceIte,Bool.true_and,hb,ht,ASt.set_set,hdr,hsw]
  exact retC_by (hdd _ _) (hdz _ _) ⟨rfl,rfl⟩
 ·rw [hfn he,set_self0 hb]
  unfold pr at hb
  generalize T.map tokAV=TL at *
  simp (disch:=first|assumption|omega) only [go_sem]
  refine allocC_by fun d hd=>?_
  have hbd:b≠d:=by rintro rfl;rw [hb] at hd;cases hd
  simp (disch:=first|assumption|omega) only [go_sem,reduceCtorEq,Nat.reduceEqDiff,Nat.reduceAdd,Nat.reduceLeDiff,↓reduceIte,Bool.true_and,hb,he,ASt.set_set]
  exact retC_by (Drop.set hd) (hdz _ _) ⟨rfl,rfl⟩
theorem pat_ok {T:List Tok} {s:PSt} (hi:s.i<T.length) (x:List UInt8) {σ:ASt} {b:Nat} (hb:σ b=pr T s):ACalls Tryz.prog 109 [.ptr b 0,.str x] σ fun v σ'=>v = .bool (isOp T s x)/\σ'=σ:=by
 have hc:=pcur_ok hi hb
 unfold isOp
 generalize curT T s=t at *
 obtain ⟨kd,tx,at',col⟩:=t
 unfold tokAV at hc
 dsimp only at hc ⊢
 refine a109 (by simp) ?_
 simp (disch:=first|assumption|omega) only [go_sem,reduceCtorEq,↓reduceIte]
 refine hc.mono ?_
 rintro v σ' ⟨rfl,rfl⟩
 simp (disch:=first|assumption|omega) only [go_sem]
 refine allocC_by fun d hd=>?_
 by_cases hk:kd=6
 ·simp (disch:=first|assumption|omega) only [go_sem,Nat.reduceEqDiff,Nat.reduceAdd,Nat.reduceLeDiff,↓reduceIte,Bool.true_and,hk,ASt.set_set]
  exact retC_by (Drop.set hd) (.refl _) ⟨by simp [resV_one],rfl⟩
 ·simp (disch:=first|assumption|omega) only [go_sem,Nat.reduceEqDiff,Nat.reduceAdd,Nat.reduceLeDiff,↓reduceIte,Bool.true_and,Bool.false_and,hk,ASt.set_set]
  exact retC_by (Drop.set hd) (.refl _) ⟨by simp [resV_one],rfl⟩
theorem paccept_ok {T:List Tok} {s:PSt} (hT:Ends T) (hf:Fit T s) (hn:T.length<=1000000) (x:List UInt8) {σ:ASt} {b:Nat} (hb:σ b=pr T s) :
  ACalls Tryz.prog 140 [.ptr b 0,.str x] σ fun v σ'=>v = .bool (isOp T s x)/\σ'=if isOp T s x=true then σ.set b (pr T s.next) else σ:=by
 have hc:=pat_ok hf.i x hb
 have hil:=hf.i
 refine a140 (by simp) ?_
 simp (disch:=first|assumption|omega) only [go_sem,reduceCtorEq,Nat.reduceEqDiff,↓reduceIte]
 refine hc.mono ?_
 rintro v σ' ⟨rfl,rfl⟩
 cases isOp T s x with
 | true=>
   unfold pr at hb
   simp (disch:=first|assumption|omega) only [go_sem,reduceCtorEq,Nat.reduceEqDiff,Nat.reduceAdd,Nat.reduceLeDiff,↓reduceIte,Bool.true_and,hb]
   exact retC_by (Drop.refl _) (.refl _) ⟨rfl,rfl⟩
 | false=>
   simp (disch:=first|assumption|omega) only [go_sem,↓reduceIte]
   exact retC_by (Drop.refl _) (.refl _) ⟨rfl,rfl⟩
theorem pmust_ok {T:List Tok} {s:PSt} (hT:Ends T) (hf:Fit T s) (hn:T.length<=1000000) (x:List UInt8) {σ:ASt} {b:Nat} (hb:σ b=pr T s) :
  ACalls Tryz.prog 160 [.ptr b 0,.str x] σ fun v σ'=>v = .tuple []/\σ'=σ.set b (pr T (mustP T s x)):=by
 have hc:=paccept_ok hT hf hn x hb
 have hF:=pfail_ok hf.i 10 hb
 unfold mustP
 refine a160 (by simp) ?_
 simp (disch:=first|assumption|omega) only [go_sem,Nat.reduceEqDiff,↓reduceIte]
 refine hc.mono ?_
 rintro v σ' ⟨rfl,rfl⟩
 cases isOp T s x with
 | true=>
   rw [if_pos rfl,if_pos rfl]
   simp (disch:=first|assumption|omega) only [go_sem,↓reduceIte]
   exact retC_by (Drop.refl _) (.refl _) ⟨rfl,rfl⟩
 | false=>
   rw [if_neg (by simp),if_neg (by simp)]
   simp (disch:=first|assumption|omega) only [go_sem,reduceCtorEq,↓reduceIte]
   refine hF.mono ?_
   rintro v σ' ⟨rfl,rfl⟩
   simp (disch:=first|assumption|omega) only [go_sem]
   exact retC_by (Drop.refl _) (.refl _) ⟨rfl,rfl⟩
theorem penter_ok {T:List Tok} {s:PSt} (hi:s.i<T.length) (hd:0<=s.deep/\s.deep<=100) {σ:ASt} {b:Nat} (hb:σ b=pr T s) :
  ACalls Tryz.prog 111 [.ptr b 0] σ fun v σ'=>v = .tuple []/\σ'=σ.set b (pr T (enterP T s)):=by
 have hF:=fun τ h=>pfail_ok (T:=T) (s := { s with deep:=s.deep+1 }) hi 12 (σ:=τ) (b:=b) h
 have hb':=hb
 unfold pr at hb
 refine a111 (by simp) ?_
 unfold enterP
 by_cases h40:40<s.deep+1
 ·rw [if_pos h40]
  simp (disch:=first|assumption|omega) only [go_sem,reduceCtorEq,Nat.reduceEqDiff,Nat.reduceAdd,Nat.reduceLeDiff,↓reduceIte,Bool.true_and,hb,h40]
  refine (hF _ (ASt.set_same _ _ _)).mono ?_
  rintro v σ' ⟨rfl,rfl⟩
  rw [ASt.set_set]
  simp (disch:=first|assumption|omega) only [go_sem]
  exact retC_by (Drop.refl _) (.refl _) ⟨rfl,rfl⟩
 ·rw [if_neg h40]
  simp (disch:=first|assumption|omega) only [go_sem,reduceCtorEq,Nat.reduceEqDiff,Nat.reduceAdd,Nat.reduceLeDiff,↓reduceIte,Bool.true_and,hb,h40]
  exact retC_by (Drop.refl _) (.refl _) ⟨rfl,rfl⟩
theorem pleave_ok {T:List Tok} {s:PSt} (hd:0<=s.deep/\s.deep<=100) {σ:ASt} {b:Nat} (hb:σ b=pr T s) :
  ADefer Tryz.prog 112 [.ptr b 0] σ fun v σ'=>v = .tuple []/\σ'=σ.set b (pr T (leaveP s)):=by
 unfold pr at hb
 refine d112 (by simp) ?_
 simp (disch:=first|assumption|omega) only [go_sem,Nat.reduceEqDiff,Nat.reduceAdd,Nat.reduceLeDiff,↓reduceIte,Bool.true_and,hb]
 exact rfl
theorem pref_ok (t:Tok) (ht:t.text.length<=1000000):Pure Tryz.prog 175 [tokAV t] (refAV (refT t)):=by
 intro σ
 have hP:=parse_ok t.text (by omega)
 unfold refT
 generalize parseP t.text=R at *
 obtain ⟨⟨row,col,ar,ac⟩,ok⟩:=R
 obtain ⟨kd,tx,at',col⟩:=t
 unfold tokAV refAV at *
 dsimp only at *
 refine a175 (by simp) ?_
 simp (disch:=first|assumption|omega) only [go_sem]
 refine boxC_by rfl fun c hc=>?_
 simp (disch:=first|assumption|omega) only [go_sem]
 refine allocC_by fun d hd=>?_
 have hcd:c≠d:=by rintro rfl;rw [ASt.set_same] at hd;cases hd
 have hd0:=(Drop.set hc).nil hd
 simp (disch:=first|assumption|omega) only [go_sem,Nat.reduceEqDiff,↓reduceIte]
 refine hP.use ?_
 simp (disch:=first|assumption|omega) only [go_sem,Nat.reduceEqDiff,↓reduceIte]
 refine allocC_by fun e he=>?_
 have hde:d≠e:=by rintro rfl;rw [ASt.set_same] at he;cases he
 have he1:=he
 rw [ASt.set_ne (Ne.symm hde)] at he1
 have hsw:∀ (ρ:ASt) (X Y Z:Option Role),((ρ.set d X).set e Y).set d Z=(ρ.set d Z).set e Y:=fun ρ X Y Z=>set_mid hde
 have hdr:∀ (ρ:ASt) (X Y:Option Role),((ρ.set d X).set e Y) d=X:=fun ρ X Y=>by rw [ASt.set_ne hde,ASt.set_same]
 have hD:∀ X Y Z:Option Role,Drop (((σ.set c X).set d Y).set e Z) σ:=fun X Y Z=>by
  have h1:c≠e:=by rintro rfl;rw [ASt.set_same] at he1;cases he1
  have h2:σ e=none:=by rw [ASt.set_ne (Ne.symm h1)] at he1;exact he1
  exact ((Drop.set hc).off hd0).off h2
 simp (disch:=first|assumption|omega) only [go_sem,Nat.reduceEqDiff,Nat.reduceAdd,Nat.reduceLeDiff,↓reduceIte,Bool.true_and,hsw,hdr,ASt.set_set]
 exact retC_by (hD _ _ _) (.refl _) ⟨rfl,rfl⟩
theorem strindex_ok (l:List (List UInt8)) (x:List UInt8) (hl:l.length<=1000000):Pure Tryz.prog 70 [.sl .shr (l.map AV.str),.str x] (.int .i64 (idxP l x)):=by
 intro σ
 obtain ⟨q,hq⟩:∃ q,idxP l x=q:=⟨_,rfl⟩
 rw [hq]
 unfold idxP at hq
 have hlen:(l.map AV.str).length=l.length:=by simp
 refine a70 (by simp) ?_
 simp (disch:=first|assumption|omega) only [go_sem,reduceCtorEq,↓reduceIte]
 refine wp_loop_on (fun (i:Nat) a1 s2=>(i<=l.length/\idxS x (l.drop i) i=q)/\(a1 0 = .sl .shr (l.map AV.str)/\a1 1 = .str x/\a1 7 = .int .i64 l.length/\a1 8 = .int .i64 i)/\s2=σ) (fun i=>l.length-i) 0 ⟨⟨Nat.zero_le _,by rw [List.drop_zero];exact hq⟩,?_,rfl⟩ ?_
 ·simp (disch:=first|assumption|omega) only [go_sem,reduceCtorEq,Nat.reduceEqDiff,↓reduceIte]
 rintro i a1 s2 ⟨⟨hi,hqi⟩,hf,rfl⟩
 by_cases hlt:i<l.length
 ·have hlt':(i:Int)<l.length:=by omega
  have hx : l[i]? = some (l[i]'hlt) := List.getElem?_eq_getElem hlt
  rw [List.drop_eq_getElem_cons hlt,idxS] at hqi
  obtain ⟨y, hxe⟩ : ∃ y, l[i]'hlt = y := ⟨_, rfl⟩
  rw [hxe] at hx hqi
  have hmx:(l.map AV.str)[i]? = some (.str y):=by rw [List.getElem?_map,hx];rfl
  generalize l.map AV.str=XL at *
  by_cases he:x=y
  ·rw [if_pos he] at hqi
   subst he
   simp (disch:=first|assumption|omega) only [go_sem,reduceCtorEq,Nat.reduceEqDiff,↓reduceIte,hf,hlt',hmx,eq_self]
   exact retC_by (Drop.refl _) (.refl _) ⟨by rw [<-hqi];rfl,rfl⟩
  ·rw [if_neg he] at hqi
   simp (disch:=first|assumption|omega) only [go_sem,reduceCtorEq,Nat.reduceEqDiff,↓reduceIte,hf,hlt',hmx,he]
   exact ⟨i+1,by omega,⟨by omega,hqi⟩,rfl⟩
 ·have hlt':¬ (i:Int)<l.length:=by omega
  rw [List.drop_eq_nil_of_le (by omega),idxS] at hqi
  subst hqi
  simp (disch:=first|assumption|omega) only [go_sem,↓reduceIte,Int.reduceNeg,hf,hlt']
  exact retC_by (Drop.refl _) (.refl _) ⟨rfl,rfl⟩
theorem strcontains_ok (l:List (List UInt8)) (x:List UInt8) (hl:l.length<=1000000):Pure Tryz.prog 69 [.sl .shr (l.map AV.str),.str x] (.bool (decide (x∈l))):=by
 intro σ
 have hI:=strindex_ok l x hl
 rw [<-idxS_mem x l 0]
 unfold idxP at hI
 generalize idxS x l 0=q at *
 generalize l.map AV.str=XL at *
 refine a69 (by simp) ?_
 simp (disch:=first|assumption|omega) only [go_sem,reduceCtorEq,Nat.reduceEqDiff,↓reduceIte]
 refine hI.use ?_
 simp (disch:=first|assumption|omega) only [go_sem,↓reduceIte]
 exact retC_by (Drop.refl _) (.refl _) ⟨rfl,rfl⟩
end Go.A
namespace Go.A
open Go.Proofs
/-! 32: (*tabular/parse.parser).between -/
def c32_16:ACode := .seq (.seq (.ops [ oq 17 (.mv (.t 0)),oe 18 (.call 33 [(.t 17)]),oq 19 (.fld 0 none (.t 18)),oq 20 (.bin .eql (.t 19) (.v (.int .i64 6))),oq 21 (.mv (.t 20)),⟨some 22,some (21,true),.q (.ld none (.v (.ptr 0 0))),[]⟩,⟨some 23,some (21,true),.q (.mv (.t 1)),[]⟩,⟨some 24,some (21,true),.q (.ia 1 (.t 22) (.t 23)),[]⟩,⟨some 25,some (21,true),.q (.ld none (.t 24)),[]⟩,⟨some 26,some (21,true),.q (.mv (.t 0)),[]⟩,⟨some 27,some (21,true),.e (.call 33 [(.t 26)]),[⟨(some (21,true)),.ld none (.v (.ptr 0 0)),22⟩,⟨(some (21,true)),.ld none (.t 24),25⟩]⟩,⟨some 28,some (21,true),.q (.fld 1 none (.t 27)),[]⟩,⟨some 29,some (21,true),.e (.call 69 [(.t 25),(.t 28)]),[]⟩,oq 30 (.pick (.t 21) (.t 29) (.v (.bool false)))]) (.cond (.t 30) .skip (.exit 0))) (.block 1 (.seq (.ops [ oe 31 (.call 71 []),oq 32 (.mv (.t 0)),oe 33 (.call 33 [(.t 32)]),oq 34 (.fld 1 none (.t 33)),oe 35 (.call 70 [(.t 31),(.t 34)]),oq 36 (.bin .add (.v (.int .i64 10)) (.t 35)),oq 6 (.mv (.t 36))]) (.seq (.ops [ oq 37 (.mv (.t 0)),oq 38 (.nc (.t 37)),oq 39 (.fa 1 (.t 38)),oq 40 (.ld none (.t 39)),oq 41 (.bin .add (.t 40) (.v (.int .i64 1))),oq 42 (.nc (.t 37)),oq 43 (.fa 1 (.t 42)),oz (.store 1 (.t 43) (.t 41))]) (.ops [ oq 44 (.mv (.t 6)),oq 45 (.ld (some 12) (.t 5)),oq 46 (.mv (.t 0)),oq 47 (.mv (.t 1)),oq 48 (.bin .add (.t 47) (.v (.int .i64 1))),⟨some 49,none,.e (.call 32 [(.t 46),(.t 48)]),[⟨none,.ld (some 12) (.t 5),45⟩]⟩,oq 50 (.bsl 12 [(.t 45),(.t 49)]),oq 51 (.build [(.int .i64 0),(.int .i64 0),(.str []),(.int .i64 0),(.int .i64 0),(.bool false),(.bool false),(.int .i64 0),(.int .i64 0),(.bool false),(.bool false),(.sl .full [])] [(0,1,(.t 44)),(11,1,(.t 50))]),oz (.store 12 (.t 5) (.t 51))]))))
def c32_24:ACode := .seq (.ops [ oe 4 (.alloc [(.int .i64 0),(.int .i64 0),(.str []),(.int .i64 0),(.int .i64 0),(.bool false),(.bool false),(.int .i64 0),(.int .i64 0),(.bool false),(.bool false),(.sl .full [])])]) (.seq (.seq (.ops [ oq 7 (.mv (.t 1)),oq 8 (.ld none (.v (.ptr 0 0))),oq 9 (.len (.t 8)),oq 10 (.bin .eql (.t 7) (.t 9))]) (.cond (.t 10) (.seq (.ops [ oq 11 (.mv (.t 0)),oe 12 (.call 68 [(.t 11)]),oz (.store 12 (.t 4) (.t 12))]) .ret) .skip)) (.seq (.ops [ oq 13 (.mv (.t 0)),oq 14 (.mv (.t 1)),oq 15 (.bin .add (.t 14) (.v (.int .i64 1))),oe 16 (.call 32 [(.t 13),(.t 15)]),oe 5 (.alloc [(.int .i64 0),(.int .i64 0),(.str []),(.int .i64 0),(.int .i64 0),(.bool false),(.bool false),(.int .i64 0),(.int .i64 0),(.bool false),(.bool false),(.sl .full [])]),oz (.store 12 (.t 5) (.t 16))]) (.seq (.block 0 (.loop c32_16)) (.seq (.ops [ oq 52 (.ld (some 12) (.t 5)),oz (.store 12 (.t 4) (.t 52))]) .ret))))
@[go_sem] def c32_16_wp:=wp_of c32_16.eq_1
@[go_sem] def c32_24_wp:=wp_of c32_24.eq_1
def c32:AFn:=⟨53,[.c 4 (some 12)],c32_24⟩
theorem c32_ok:compF Tryz.prog Tryz.f32=some c32:=by kernel_rfl
theorem a32 {args:List AV} {σ:ASt} {R:AV->ASt->Prop} (hl:args.length<=53) (h:c32_24.wp Tryz.prog (RetQ [.c 4 (some 12)] R) (init args) σ):ACalls Tryz.prog 32 args σ R:=acalls_of Tryz.func32 c32_ok hl h
end Go.A
namespace Go.A
open Go.Proofs Go.Lib
structure St2 (σ:ASt) (b d:Nat) (T:Option Role->Option Role->ASt):Prop where
 ab:∀ X Y,(σ.set b X).set d Y=T X Y
 ba:∀ X Y,(σ.set d Y).set b X=T X Y
 one:∀ Y,σ.set d Y=T (σ b) Y
 a1:∀ X Y,T X Y b=X
 a2:∀ X Y,T X Y d=Y
 s1:∀ X Y X',(T X Y).set b X'=T X' Y
 s2:∀ X Y Y',(T X Y).set d Y'=T X Y'
 drop:∀ X Y,Drop (T X Y) (σ.set b X)
 fix:∀ X Y x l,σ x=some (.fix l)->T X Y x=some (.fix l)
 other:∀ X Y x,x≠b->x≠d->T X Y x=σ x
theorem St2.of {σ:ASt} {b d:Nat} (hd:σ d=none) (hb:∀ l,σ b≠some (.fix l)) (hb0:σ b≠none):b≠d/\∃ T,St2 σ b d T:=by
 have n:b≠d:=by rintro rfl;exact hb0 hd
 refine ⟨n,fun X Y=>(σ.set b X).set d Y,fun X Y=>rfl,fun X Y=>set_swap (Ne.symm n),fun Y=>?_,fun X Y=>?_,fun X Y=>ASt.set_same _ _ _,fun X Y X'=>?_,fun X Y Y'=>by rw [ASt.set_set],fun X Y=>?_,fun X Y x l h=>?_,fun X Y x h1 h2=>?_⟩
 ·show σ.set d Y=(σ.set b (σ b)).set d Y
  rw [set_self0 rfl]
 ·show ((σ.set b X).set d Y) b=X
  rw [ASt.set_ne n,ASt.set_same]
 ·show ((σ.set b X).set d Y).set b X'=(σ.set b X').set d Y
  rw [set_swap (Ne.symm n),ASt.set_set]
 ·exact Drop.set (by rw [ASt.set_ne (Ne.symm n)];exact hd)
 ·show ((σ.set b X).set d Y) x=some (.fix l)
  rw [ASt.set_ne,ASt.set_ne]
  ·exact h
  ·rintro rfl;exact hb l h
  ·rintro rfl;rw [hd] at h;cases h
 ·show ((σ.set b X).set d Y) x=σ x
  rw [ASt.set_ne h2,ASt.set_ne h1]
structure St3 (σ:ASt) (b d e:Nat) (T2:Option Role->Option Role->ASt) (T:Option Role->Option Role->Option Role->ASt):Prop where
 ab:∀ X Y Z,(T2 X Y).set e Z=T X Y Z
 a1:∀ X Y Z,T X Y Z b=X
 a2:∀ X Y Z,T X Y Z d=Y
 a3:∀ X Y Z,T X Y Z e=Z
 s1:∀ X Y Z X',(T X Y Z).set b X'=T X' Y Z
 s2:∀ X Y Z Y',(T X Y Z).set d Y'=T X Y' Z
 s3:∀ X Y Z Z',(T X Y Z).set e Z'=T X Y Z'
 drop:∀ X Y Z,Drop (T X Y Z) (σ.set b X)
 drop2:∀ X Y Z,Drop (T X Y Z) (T2 X Y)
 fix:∀ X Y Z x l,σ x=some (.fix l)->T X Y Z x=some (.fix l)
 other:∀ X Y Z x,x≠b->x≠d->x≠e->T X Y Z x=σ x
theorem St3.of {σ:ASt} {b d e:Nat} {T2:Option Role->Option Role->ASt} (h:St2 σ b d T2) {X0 Y0:Role} (he:T2 (some X0) (some Y0) e=none):b≠e/\d≠e/\∃ T,St3 σ b d e T2 T:=by
 have nb:b≠e:=by rintro rfl;rw [h.a1] at he;cases he
 have nd:d≠e:=by rintro rfl;rw [h.a2] at he;cases he
 have h0:∀ X Y,T2 X Y e=none:=fun X Y=>by rw [h.other _ _ _ (Ne.symm nb) (Ne.symm nd)];rwa [h.other _ _ _ (Ne.symm nb) (Ne.symm nd)] at he
 refine ⟨nb,nd,fun X Y Z=>(T2 X Y).set e Z,fun X Y Z=>rfl,fun X Y Z=>?_,fun X Y Z=>?_,fun X Y Z=>ASt.set_same _ _ _,fun X Y Z X'=>?_,fun X Y Z X'=>?_,fun X Y Z Z'=>by rw [ASt.set_set],fun X Y Z=>?_,fun X Y Z=>Drop.set (h0 _ _),fun X Y Z x l hx=>?_,fun X Y Z x h1 h2 h3=>?_⟩
 ·show ((T2 X Y).set e Z) b=X
  rw [ASt.set_ne nb,h.a1]
 ·show ((T2 X Y).set e Z) d=Y
  rw [ASt.set_ne nd,h.a2]
 ·show ((T2 X Y).set e Z).set b X'=(T2 X' Y).set e Z
  rw [set_swap (Ne.symm nb),h.s1]
 ·show ((T2 X Y).set e Z).set d X'=(T2 X X').set e Z
  rw [set_swap (Ne.symm nd),h.s2]
 ·exact (Drop.set (h0 _ _)).trans (h.drop _ _)
 ·show ((T2 X Y).set e Z) x=some (.fix l)
  have hx2:=h.fix X Y x l hx
  rw [ASt.set_ne]
  ·exact hx2
  ·rintro rfl;rw [h0] at hx2;cases hx2
 ·show ((T2 X Y).set e Z) x=σ x
  rw [ASt.set_ne h3,h.other _ _ _ h1 h2]
structure St4 (σ:ASt) (b d e g:Nat) (T3:Option Role->Option Role->Option Role->ASt) (T:Option Role->Option Role->Option Role->Option Role->ASt):Prop where
 ab:∀ X Y Z W,(T3 X Y Z).set g W=T X Y Z W
 a1:∀ X Y Z W,T X Y Z W b=X
 a2:∀ X Y Z W,T X Y Z W d=Y
 a3:∀ X Y Z W,T X Y Z W e=Z
 a4:∀ X Y Z W,T X Y Z W g=W
 s1:∀ X Y Z W X',(T X Y Z W).set b X'=T X' Y Z W
 s2:∀ X Y Z W Y',(T X Y Z W).set d Y'=T X Y' Z W
 s4:∀ X Y Z W W',(T X Y Z W).set g W'=T X Y Z W'
 drop:∀ X Y Z W,Drop (T X Y Z W) (σ.set b X)
theorem St4.of {σ:ASt} {b d e g:Nat} {T2:Option Role->Option Role->ASt} {T3:Option Role->Option Role->Option Role->ASt} (h:St3 σ b d e T2 T3) {X0 Y0 Z0:Role} (hg:T3 (some X0) (some Y0) (some Z0) g=none):∃ T,St4 σ b d e g T3 T:=by
 have nb:b≠g:=by rintro rfl;rw [h.a1] at hg;cases hg
 have nd:d≠g:=by rintro rfl;rw [h.a2] at hg;cases hg
 have ne:e≠g:=by rintro rfl;rw [h.a3] at hg;cases hg
 have h0:∀ X Y Z,T3 X Y Z g=none:=fun X Y Z=>by rw [h.other _ _ _ _ (Ne.symm nb) (Ne.symm nd) (Ne.symm ne)];rwa [h.other _ _ _ _ (Ne.symm nb) (Ne.symm nd) (Ne.symm ne)] at hg
 refine ⟨fun X Y Z W=>(T3 X Y Z).set g W,fun X Y Z W=>rfl,fun X Y Z W=>?_,fun X Y Z W=>?_,fun X Y Z W=>?_,fun X Y Z W=>ASt.set_same _ _ _,fun X Y Z W X'=>?_,fun X Y Z W X'=>?_,fun X Y Z W W'=>by rw [ASt.set_set],fun X Y Z W=>(Drop.set (h0 _ _ _)).trans (h.drop _ _ _)⟩
 ·show ((T3 X Y Z).set g W) b=X
  rw [ASt.set_ne nb,h.a1]
 ·show ((T3 X Y Z).set g W) d=Y
  rw [ASt.set_ne nd,h.a2]
 ·show ((T3 X Y Z).set g W) e=Z
  rw [ASt.set_ne ne,h.a3]
 ·show ((T3 X Y Z).set g W).set b X'=(T3 X' Y Z).set g W
  rw [set_swap (Ne.symm nb),h.s1]
 ·show ((T3 X Y Z).set g W).set d X'=(T3 X X' Z).set g W
  rw [set_swap (Ne.symm nd),h.s2]
def lvAV:AV := .sl .shr (levelsL.map fun l => .sl .shr (l.map AV.str))
def LV (σ:ASt):Prop:=σ 0=some (.fix [lvAV])
theorem pr_fix {T:List Tok} {s:PSt} {σ:ASt} {b:Nat} (hb:σ b=pr T s):(∀ l,σ b≠some (.fix l))/\σ b≠none:=by
 rw [hb];unfold pr
 exact ⟨fun l=>by simp,by simp⟩
theorem level_get {lvl:Nat} (h:lvl<5):(levelsL.map fun l=>AV.sl .shr (l.map AV.str))[lvl]? = some (.sl .shr ((levelsL.getD lvl []).map AV.str)):=by
 have:∀ lvl,lvl<5->(levelsL.map fun l=>AV.sl .shr (l.map AV.str))[lvl]? = some (.sl .shr ((levelsL.getD lvl []).map AV.str)):=by
  intro lvl h
  match lvl,h with
  | 0,_=>rfl
  | 1,_=>rfl
  | 2,_=>rfl
  | 3,_=>rfl
  | 4,_=>rfl
 exact this lvl h
theorem level_len (lvl:Nat):(levelsL.getD lvl []).length<=6:=by
 match lvl with
 | 0|1|2|3|4=>decide
 | n+5=>simp [levelsL]
structure TokOk (T:List Tok):Prop where
 ends:Ends T
 len:T.length<=1000000
 text:∀ i,(T.getD i endT).text.length<=100000
theorem TokOk.cur {T:List Tok} (h:TokOk T) (s:PSt):(curT T s).text.length<=100000:=by
 unfold curT
 split
 ·decide
 ·exact h.text _
structure WalkF (T:List Tok) (f:Nat):Prop where
 betw:∀ (b lvl:Nat) s r,lvl<=5->betwP T f lvl s=some r->Fit T s->∀ σ,LV σ->σ b=pr T s->ACalls Tryz.prog 32 [.ptr b 0,.int .i64 lvl] σ fun v σ'=>v=r.1.av/\σ'=σ.set b (pr T r.2)
 signed:∀ (b:Nat) s r,signedP T f s=some r->Fit T s->∀ σ,LV σ->σ b=pr T s->ACalls Tryz.prog 68 [.ptr b 0] σ fun v σ'=>v=r.1.av/\σ'=σ.set b (pr T r.2)
 hundred:∀ (b:Nat) s r,hundredP T f s=some r->Fit T s->∀ σ,LV σ->σ b=pr T s->ACalls Tryz.prog 110 [.ptr b 0] σ fun v σ'=>v=r.1.av/\σ'=σ.set b (pr T r.2)
 prim:∀ (b:Nat) s r,primP T f s=some r->Fit T s->∀ σ,LV σ->σ b=pr T s->ACalls Tryz.prog 139 [.ptr b 0] σ fun v σ'=>v=r.1.av/\σ'=σ.set b (pr T r.2)
 name:∀ (b:Nat) s r,nameP T f s=some r->Fit T s->(curT T s).kind=3->∀ σ,LV σ->σ b=pr T s->ACalls Tryz.prog 159 [.ptr b 0,tokAV (curT T s)] σ fun v σ'=>v=r.1.av/\σ'=σ.set b (pr T r.2)
 args:∀ (b:Nat) s r,argsP T f s=some r->Fit T s->∀ σ,LV σ->σ b=pr T s->ACalls Tryz.prog 176 [.ptr b 0] σ fun v σ'=>v = .sl .shr (r.1.map Nd.av)/\σ'=σ.set b (pr T r.2)
theorem bin_cells (op:Int) (ks:List Nd) (L:List AV) (h:Go.A.deeps L=ks.map Nd.av):Go.A.deeps [.int .i64 op,.int .i64 0,.str [],.int .i64 0,.int .i64 0,.bool false,.bool false,.int .i64 0,.int .i64 0,.bool false,.bool false,.sl .full L]=Nd.cs op 0 [] .zero .zero (ks.map Nd.av):=by
 rw [<-h];rfl
set_option maxHeartbeats 4000000 in
theorem betw_walk {T:List Tok} (hT:TokOk T) (f:Nat) (ih:∀ f',f'<f+1->WalkF T f') (b lvl:Nat) (s:PSt) (r:Nd×PSt) (hl5:lvl<=5) (h:betwP T (f+1) lvl s=some r) (hf:Fit T s) (σ:ASt) (hV:LV σ) (hb:σ b=pr T s) :
  ACalls Tryz.prog 32 [.ptr b 0,.int .i64 lvl] σ fun v σ'=>v=r.1.av/\σ'=σ.set b (pr T r.2):=by
 rw [betwP] at h
 have hlL:(levelsL.map fun l=>AV.sl .shr (l.map AV.str)).length=5:=rfl
 have hwent:=wentF hT.ends
 refine a32 (by simp) ?_
 simp (disch:=first|assumption|omega) only [go_sem]
 refine allocC_by fun d hd=>?_
 obtain ⟨hbd,T2,S2⟩:=St2.of hd (pr_fix hb).1 (pr_fix hb).2
 rw [S2.one,hb]
 have V2:∀ X Y,LV (T2 X Y):=fun X Y=>S2.fix _ _ _ _ hV
 have v2:∀ X Y,T2 X Y 0=some (.fix [.sl .shr (levelsL.map fun l => .sl .shr (l.map AV.str))]):=fun X Y=>V2 X Y
 have hgl:=fun h=>level_get (lvl:=lvl) h
 generalize hLs:(levelsL.map fun l=>AV.sl .shr (l.map AV.str))=LS at *
 by_cases h5:lvl=5
 ·rw [if_pos h5] at h
  have h5':(lvl:Int)=5:=by omega
  have hc:=(ih f (by omega)).signed b s r h hf _ (V2 (pr T s) (some (.obj zero12))) (S2.a1 _ _)
  obtain ⟨n,s'⟩:=r
  dsimp only at hc ⊢
  obtain ⟨o,m,t,x,y,ks⟩:=n
  rw [Nd.av_cs] at hc ⊢
  unfold zero12 at hc
  simp (disch:=first|assumption|omega) only [go_sem,reduceCtorEq,Nat.reduceEqDiff,↓reduceIte,v2,hlL,h5']
  refine hc.mono ?_
  rintro v σ1 ⟨rfl,rfl⟩
  have hs1:=S2.s1
  have hs2:=S2.s2
  have ha2:=S2.a2
  simp (disch:=first|assumption|omega) only [go_sem,Nat.reduceEqDiff,Nat.reduceAdd,Nat.reduceLeDiff,↓reduceIte,hs1,hs2,ha2]
  exact retC_by (S2.drop _ _) (.refl _) ⟨rfl,rfl⟩
 ·rw [if_neg h5] at h
  have h5':¬ (lvl:Int)=5:=by omega
  have hl5':lvl<5:=by omega
  cases h1:betwP T f (lvl+1) s with
  | none=>rw [h1] at h;cases h
  | some r1=>
    rw [h1] at h
    dsimp only at h
    have hw1:=(hwent f).betw _ _ _ h1 hf
    have hc:=(ih f (by omega)).betw b (lvl+1) s r1 (by omega) h1 hf _ (V2 (pr T s) (some (.obj zero12))) (S2.a1 _ _)
    have e1:(((lvl+1:Nat)):Int)=(lvl:Int)+1:=by omega
    rw [e1] at hc
    have hb1:b=b:=rfl
    have hs1:=S2.s1
    have hs2:=S2.s2
    have ha2:=S2.a2
    unfold zero12 at hc
    obtain ⟨n1,s1⟩:=r1
    dsimp only at hc h hw1
    have hex:∃ o m t x y KL,n1.av = .agg (Nd.cs o m t x y KL):=by obtain ⟨o,m,t,x,y,ks⟩:=n1;exact ⟨_,_,_,_,_,_,Nd.av_cs ..⟩
    obtain ⟨o,m,t,x,y,KL,hn1⟩:=hex
    rw [hn1] at hc
    simp (disch:=first|assumption|omega) only [go_sem,reduceCtorEq,Nat.reduceEqDiff,↓reduceIte,v2,hlL,h5']
    refine hc.mono ?_
    rintro v σ1 ⟨rfl,rfl⟩
    simp (disch:=first|assumption|omega) only [go_sem,hs1]
    refine allocC_by fun e he=>?_
    obtain ⟨hbe,hde,T3,S3⟩:=St3.of S2 (X0 := .obj _) he
    have ab:=S3.ab
    have k3:=S3.s3
    have k2:=S3.s2
    have k1:=S3.s1
    have q3:=S3.a3
    have q2:=S3.a2
    have q1:=S3.a1
    have v3:∀ X Y Z,T3 X Y Z 0=some (.fix [.sl .shr LS]):=fun X Y Z=>by
     rw [<-ab]
     have:=v2 X Y
     rw [ASt.set_ne]
     ·exact this
     ·rintro rfl;rw [v2] at he;cases he
    have V3:∀ X Y Z,LV (T3 X Y Z):=fun X Y Z=>by
     have:=v3 X Y Z
     rw [<-hLs] at this
     exact this
    have hSg:=esigns_ok
    simp (disch:=first|assumption|omega) only [go_sem,Nat.reduceEqDiff,Nat.reduceAdd,Nat.reduceLeDiff,↓reduceIte,ab,k3,q3]
    refine wp_loop_by (fun (q:Nat×Nd×PSt) a1 st=>(q.1<=f/\loopP T q.1 lvl q.2.1 q.2.2=some r/\Fit T q.2.2)/\(a1 0 = .ptr b 0/\a1 1 = .int .i64 lvl/\a1 4 = .ptr d 0/\a1 5 = .ptr e 0)/\st=T3 (pr T q.2.2) (some (.obj zero12)) (some (.obj q.2.1.av.cells))) (fun q=>q.1) (f,n1,s1) (Dr.now ⟨⟨Nat.le_refl _,h,hw1.fit⟩,?_,by dsimp only;rw [hn1];rfl⟩) ?_
    ·simp (disch:=first|assumption|omega) only [go_sem,reduceCtorEq,Nat.reduceEqDiff,↓reduceIte]
    clear h hn1 hw1 hc h1
    rintro ⟨f',n,s'⟩ a1 st ⟨⟨g1,g2,g3⟩,hf2,rfl⟩
    dsimp only at g1 g2 g3 hf2 ⊢
    obtain ⟨f'',rfl⟩:∃ f'',f'=f''+1:=by
     cases f' with
     | zero=>rw [loopP] at g2;cases g2
     | succ f''=>exact ⟨f'',rfl⟩
    rw [loopP] at g2
    have hcu:=pcur_ok (T:=T) g3.i (q1 (pr T s') (some (.obj zero12)) (some (.obj n.av.cells)))
    have hsgn:sgn T s' lvl=(decide ((curT T s').kind=6) && decide ((curT T s').text∈levelsL.getD lvl [])):=rfl
    have hkk:=sgn_kind (T:=T) (s:=s') (l:=lvl)
    have hcl:=strcontains_ok (levelsL.getD lvl []) (curT T s').text (by have:=level_len lvl;omega)
    have hix:=strindex_ok signL (curT T s').text (by decide)
    have hrg:=idxS_rng (curT T s').text signL 0
    have hll:signL.length=12:=rfl
    have hnn:n.av = .agg n.av.cells:=by cases n;rfl
    have hil:=g3.i
    have htl:=hT.len
    obtain ⟨NC,hNC⟩:∃ NC,n.av.cells=NC:=⟨_,rfl⟩
    have hlen:NC.length=12:=by rw [<-hNC];exact Nd.av_len n
    have hlv:leaves NC=true:=by rw [<-hNC];exact Nd.av_leaves n
    have htk:NC.take 12=NC:=List.take_of_length_le (by omega)
    have hdk:NC.drop 12 = []:=List.drop_of_length_le (by omega)
    rw [hNC] at hcu hnn ⊢
    generalize hct:curT T s'=tk at *
    unfold tokAV at hcu
    generalize hZ:zero12=Z12 at *
    have v3':=v3 (pr T s') (some (.obj Z12)) (some (.obj NC))
    generalize hLL:levelsL.getD lvl []=LL at *
    have hgl:=hgl hl5'
    by_cases hk6:tk.kind=6
    ·simp (disch:=first|assumption|omega) only [go_sem,↓reduceIte,hf2]
     refine hcu.mono ?_
     rintro v σ1 ⟨rfl,rfl⟩
     simp (disch:=first|assumption|omega) only [go_sem,reduceCtorEq,Nat.reduceEqDiff,↓reduceIte,hf2,hk6,v3,hgl]
     refine hcu.mono ?_
     rintro v σ1 ⟨rfl,rfl⟩
     simp (disch:=first|assumption|omega) only [go_sem,Nat.reduceEqDiff,↓reduceIte,forall_const,v3]
     refine hcl.use ?_
     by_cases hmem:tk.text∈LL
     ·rw [decide_eq_true hk6,decide_eq_true hmem] at hsgn
      rw [decide_eq_true hmem]
      rw [hsgn,if_pos (by rfl)] at g2
      cases h2:betwP T f'' (lvl+1) s'.next with
      | none=>rw [h2] at g2;cases g2
      | some r2=>
        rw [h2] at g2
        dsimp only at g2
        have hfn:=(g3.next hT.ends (hct▸hkk hsgn)).1
        have hw2:=(hwent f'').betw _ _ _ h2 hfn
        have hcb:=(ih f'' (by omega)).betw b (lvl+1) s'.next r2 (by omega) h2 hfn _ (V3 (pr T s'.next) (some (.obj Z12)) (some (.obj NC))) (q1 _ _ _)
        rw [e1] at hcb
        unfold idxP at hix
        have hidx:idxP signL tk.text=idxS tk.text signL 0:=rfl
        rw [hidx] at g2
        generalize idxS tk.text signL 0=q at *
        obtain ⟨m2,s2⟩:=r2
        dsimp only at hcb g2 hw2
        have hmm:m2.av = .agg m2.av.cells:=by cases m2;rfl
        have hcell:Go.A.deeps [.int .i64 (10+q),.int .i64 0,.str [],.int .i64 0,.int .i64 0,.bool false,.bool false,.int .i64 0,.int .i64 0,.bool false,.bool false,.sl .full [n.av,m2.av]]=(Nd.mk (10+q) 0 [] .zero .zero [n,m2]).av.cells:=by
         have:=bin_cells (10+q) [n,m2] [n.av,m2.av] (by simp only [deeps_cons,deeps_nil,Nd.deep];rfl)
         rw [this,Nd.av_cs]
         rfl
        obtain ⟨MC,hMC⟩:∃ MC,m2.av.cells=MC:=⟨_,rfl⟩
        have hlen2:MC.length=12:=by rw [<-hMC];exact Nd.av_len m2
        have hlv2:leaves MC=true:=by rw [<-hMC];exact Nd.av_leaves m2
        have htk2:MC.take 12=MC:=List.take_of_length_le (by omega)
        rw [hMC] at hmm
        rw [hnn,hmm] at hcell
        rw [hmm] at hcb
        have hpr:pr T s'=some (.obj [.sl .shr (T.map tokAV),.int .i64 s'.i,.int .i64 s'.deep,.int .i64 s'.err,.int .i64 s'.bad]):=rfl
        have hpn:some (Role.obj [.sl .shr (T.map tokAV),.int .i64 ((s'.i:Int)+1),.int .i64 s'.deep,.int .i64 s'.err,.int .i64 s'.bad])=pr T s'.next:=rfl
        simp (disch:=first|assumption|omega) only [go_sem,Nat.reduceEqDiff,↓reduceIte]
        refine hSg.use ?_
        simp (disch:=first|assumption|omega) only [go_sem,reduceCtorEq,↓reduceIte,hf2]
        refine hcu.mono ?_
        rintro v σ1 ⟨rfl,rfl⟩
        simp (disch:=first|assumption|omega) only [go_sem,Nat.reduceEqDiff,↓reduceIte]
        refine hix.use ?_
        rw [hpr] at hcu ⊢
        simp (disch:=first|assumption|omega) only [go_sem,reduceCtorEq,Nat.reduceEqDiff,Nat.reduceAdd,Nat.reduceLeDiff,↓reduceIte,Bool.true_and,hf2,q1,k1]
        rw [hpn]
        simp (disch:=first|assumption|omega) only [go_sem,reduceCtorEq,Nat.reduceEqDiff,Nat.reduceLeDiff,↓reduceIte,hf2,q3,hlen,htk]
        refine hcb.mono ?_
        rintro v σ1 ⟨rfl,rfl⟩
        simp (disch:=first|assumption|omega) only [go_sem,Nat.reduceEqDiff,Nat.reduceAdd,Nat.reduceLeDiff,↓reduceIte,Bool.true_and,hf2,k1,q3,k3,hlen,hlen2,htk,hdk]
        have hsd:SDrop (T3 (pr T s2) (some (.obj Z12)) (some (.obj [.int .i64 (10+q),.int .i64 0,.str [],.int .i64 0,.int .i64 0,.bool false,.bool false,.int .i64 0,.int .i64 0,.bool false,.bool false,.sl .full [.agg NC,.agg MC]]))) (T3 (pr T s2) (some (.obj Z12)) (some (.obj (Nd.mk (10+q) 0 [] .zero .zero [n,m2]).av.cells))):=by
         rw [<-ab,← ab]
         exact (SDrop.refl _).cong hcell
        refine ⟨(f'',.mk (10+q) 0 [] .zero .zero [n,m2],s2),by dsimp only;omega,Dr.sdrop hsd ⟨⟨by dsimp only;omega,g2,hw2.fit⟩,?_,rfl⟩⟩
        simp (disch:=first|assumption|omega) only [go_sem,reduceCtorEq,Nat.reduceEqDiff,↓reduceIte,hf2]
     ·rw [decide_eq_false hmem,Bool.and_false] at hsgn
      rw [decide_eq_false hmem]
      rw [hsgn,if_neg (by simp)] at g2
      injection g2 with g2
      subst g2
      have hzl:Z12.length=12:=by rw [<-hZ];rfl
      have hzd:Z12.drop 12 = []:=by rw [<-hZ];rfl
      simp (disch:=first|assumption|omega) only [go_sem,Nat.reduceEqDiff,Nat.reduceLeDiff,↓reduceIte,hf2,q3,q2,k2,hlen,hlv,htk,hzl,hzd]
      exact retC_by (S3.drop _ _ _) (.refl _) ⟨hnn.symm,rfl⟩
    ·rw [decide_eq_false hk6,Bool.false_and] at hsgn
     rw [hsgn,if_neg (by simp)] at g2
     injection g2 with g2
     subst g2
     simp (disch:=first|assumption|omega) only [go_sem,↓reduceIte,hf2]
     refine hcu.mono ?_
     rintro v σ1 ⟨rfl,rfl⟩
     have hzl:Z12.length=12:=by rw [<-hZ];rfl
     have hzd:Z12.drop 12 = []:=by rw [<-hZ];rfl
     simp (disch:=first|assumption|omega) only [go_sem,Nat.reduceEqDiff,Nat.reduceLeDiff,↓reduceIte,hf2,hk6,q3,q2,k2,hlen,hlv,htk,hzl,hzd]
     exact retC_by (S3.drop _ _ _) (.refl _) ⟨hnn.symm,rfl⟩
end Go.A
namespace Go.A
open Go.Proofs
/-! 68: (*tabular/parse.parser).signed -/
def c68_22:ACode := .seq (.ops [ oq 12 (.mv (.t 0)),oe 13 (.call 111 [(.t 12)])]) (.dfr 112 (.t 0) 14 (.seq (.seq (.ops [ oq 15 (.mv (.t 0)),oq 16 (.nc (.t 15)),oq 17 (.fa 3 (.t 16)),oq 18 (.ld none (.t 17)),oq 19 (.bin .eql (.t 18) (.v (.int .i64 0)))]) (.cond (.t 19) (.ops [ oq 20 (.mv (.t 0)),oq 21 (.nc (.t 20)),oq 22 (.fa 1 (.t 21)),oq 23 (.ld none (.t 22)),oq 24 (.bin .add (.t 23) (.v (.int .i64 1))),oq 25 (.nc (.t 20)),oq 26 (.fa 1 (.t 25)),oz (.store 1 (.t 26) (.t 24))]) .skip)) (.seq (.ops [ oq 27 (.mv (.t 3)),oq 28 (.mv (.t 0)),oe 29 (.call 68 [(.t 28)]),oq 30 (.bsl 12 [(.t 29)]),oq 31 (.build [(.int .i64 0),(.int .i64 0),(.str []),(.int .i64 0),(.int .i64 0),(.bool false),(.bool false),(.int .i64 0),(.int .i64 0),(.bool false),(.bool false),(.sl .full [])] [(0,1,(.t 27)),(11,1,(.t 30))]),oz (.store 12 (.t 2) (.t 31))]) .ret)))
def c68_25:ACode := .seq (.ops [ oe 2 (.alloc [(.int .i64 0),(.int .i64 0),(.str []),(.int .i64 0),(.int .i64 0),(.bool false),(.bool false),(.int .i64 0),(.int .i64 0),(.bool false),(.bool false),(.sl .full [])])]) (.seq (.ops [ oq 3 (.mv (.v (.int .i64 0)))]) (.seq (.block 0 (.seq (.ops [ oq 7 (.mv (.t 0)),oe 8 (.call 109 [(.t 7),(.v (.str [45]))]),oq 6 (.mv (.t 8))]) (.cond (.t 6) (.ops [ oq 3 (.mv (.v (.int .i64 7)))]) (.seq (.ops [ oq 10 (.mv (.t 0)),oe 11 (.call 109 [(.t 10),(.v (.str [43]))]),oq 9 (.mv (.t 11))]) (.cond (.t 9) (.ops [ oq 3 (.mv (.v (.int .i64 8)))]) (.seq (.ops [ oq 4 (.mv (.t 0)),oe 5 (.call 110 [(.t 4)]),oz (.store 12 (.t 2) (.t 5))]) .ret)))))) c68_22))
@[go_sem] def c68_22_wp:=wp_of c68_22.eq_1
@[go_sem] def c68_25_wp:=wp_of c68_25.eq_1
def c68:AFn:=⟨32,[.c 2 (some 12)],c68_25⟩
theorem c68_ok:compF Tryz.prog Tryz.f68=some c68:=by kernel_rfl
theorem a68 {args:List AV} {σ:ASt} {R:AV->ASt->Prop} (hl:args.length<=32) (h:c68_25.wp Tryz.prog (RetQ [.c 2 (some 12)] R) (init args) σ):ACalls Tryz.prog 68 args σ R:=acalls_of Tryz.func68 c68_ok hl h
/-! 110: (*tabular/parse.parser).hundred -/
def c110_7:ACode := .seq (.seq (.ops [ oq 6 (.mv (.t 0)),oe 7 (.call 140 [(.t 6),(.v (.str [37]))])]) (.cond (.t 7) .skip (.exit 0))) (.block 1 (.ops [ oq 8 (.ld (some 12) (.t 3)),oq 9 (.bsl 12 [(.t 8)]),oq 10 (.build [(.int .i64 0),(.int .i64 0),(.str []),(.int .i64 0),(.int .i64 0),(.bool false),(.bool false),(.int .i64 0),(.int .i64 0),(.bool false),(.bool false),(.sl .full [])] [(0,1,(.v (.int .i64 9))),(11,1,(.t 9))]),oz (.store 12 (.t 3) (.t 10))]))
def c110_14:ACode := .seq (.ops [ oe 2 (.alloc [(.int .i64 0),(.int .i64 0),(.str []),(.int .i64 0),(.int .i64 0),(.bool false),(.bool false),(.int .i64 0),(.int .i64 0),(.bool false),(.bool false),(.sl .full [])])]) (.seq (.ops [ oq 4 (.mv (.t 0)),oe 5 (.call 139 [(.t 4)]),oe 3 (.alloc [(.int .i64 0),(.int .i64 0),(.str []),(.int .i64 0),(.int .i64 0),(.bool false),(.bool false),(.int .i64 0),(.int .i64 0),(.bool false),(.bool false),(.sl .full [])]),oz (.store 12 (.t 3) (.t 5))]) (.seq (.block 0 (.loop c110_7)) (.seq (.ops [ oq 11 (.ld (some 12) (.t 3)),oz (.store 12 (.t 2) (.t 11))]) .ret)))
@[go_sem] def c110_7_wp:=wp_of c110_7.eq_1
@[go_sem] def c110_14_wp:=wp_of c110_14.eq_1
def c110:AFn:=⟨12,[.c 2 (some 12)],c110_14⟩
theorem c110_ok:compF Tryz.prog Tryz.f110=some c110:=by kernel_rfl
theorem a110 {args:List AV} {σ:ASt} {R:AV->ASt->Prop} (hl:args.length<=12) (h:c110_14.wp Tryz.prog (RetQ [.c 2 (some 12)] R) (init args) σ):ACalls Tryz.prog 110 args σ R:=acalls_of Tryz.func110 c110_ok hl h
end Go.A
namespace Go.A
open Go.Proofs Go.Lib
theorem fzN {σ σ':ASt} (o m:Int) (s:List UInt8) (a b:Ref) (k:SK) (xs:List AV):Fz σ σ' (resV [.agg [.int .i64 o,.int .i64 m,.str s,.int .i64 a.row,.int .i64 a.col,.bool a.absRow,.bool a.absCol,.int .i64 b.row,.int .i64 b.col,.bool b.absRow,.bool b.absCol,.sl k xs]]) (.agg (Nd.cs o m s a b xs)):=
 Fz.agg (.cons (.refl _) (.cons (.refl _) (.cons (.refl _) (.cons (.refl _) (.cons (.refl _) (.cons (.refl _) (.cons (.refl _) (.cons (.refl _) (.cons (.refl _) (.cons (.refl _) (.cons (.refl _) (.cons (.sl _ _) .nil))))))))))))
set_option maxHeartbeats 4000000 in
theorem signed_walk {T:List Tok} (hT:TokOk T) (f:Nat) (ih:∀ f',f'<f+1->WalkF T f') (b:Nat) (s:PSt) (r:Nd×PSt) (h:signedP T (f+1) s=some r) (hf:Fit T s) (σ:ASt) (hV:LV σ) (hb:σ b=pr T s) :
  ACalls Tryz.prog 68 [.ptr b 0] σ fun v σ'=>v=r.1.av/\σ'=σ.set b (pr T r.2):=by
 rw [signedP] at h
 have hwent:=wentF hT.ends
 have hlen:=hT.len
 have hil:=hf.i
 refine a68 (by simp) ?_
 simp (disch:=first|assumption|omega) only [go_sem]
 refine allocC_by fun d hd=>?_
 obtain ⟨hbd,T2,S2⟩:=St2.of hd (pr_fix hb).1 (pr_fix hb).2
 rw [S2.one,hb]
 have V2:∀ X Y,LV (T2 X Y):=fun X Y=>S2.fix _ _ _ _ hV
 have k1:=S2.s1
 have k2:=S2.s2
 have q1:=S2.a1
 have q2:=S2.a2
 have ha1:=fun X=>pat_ok hf.i [45] (q1 (pr T s) X)
 have ha2:=fun X=>pat_ok hf.i [43] (q1 (pr T s) X)
 have behind:∀ (op:Int) (r1:Nd×PSt),(curT T s).kind≠0->(op=7\/op=8)->signedP T f (stepP1 (enterP T s))=some r1->r=(.mk op 0 [] .zero .zero [r1.1],leaveP r1.2)->∀ a1:AFr,(a1 0 = .ptr b 0/\a1 2 = .ptr d 0/\a1 3 = .int .i64 op) →
   ACode.wp Tryz.prog c68_22 (RetQ [.c 2 (some 12)] fun v σ'=>v=r.1.av/\σ'=σ.set b (pr T r.2)) a1 (T2 (pr T s) (some (.obj zero12))):=by
  intro op r1 hk hop h1 hr a1 hfr
  have he0:=cur_err hk
  obtain ⟨e1,e2,e3⟩:=enter_err hT.ends hf he0
  obtain ⟨g1,g2,g3⟩:=enter_fit hT.ends hf hk
  have hw:=(hwent f).signed _ _ h1 g1
  have hen:=penter_ok (T:=T) (s:=s) hf.i ⟨hf.d0,by have:=hf.d1;omega⟩ (q1 (pr T s) (some (.obj zero12)))
  have hsi:=(ih f (by omega)).signed b _ r1 h1 g1 _ (V2 (pr T (stepP1 (enterP T s))) (some (.obj zero12))) (q1 _ _)
  have hlv:=fun X=>pleave_ok (T:=T) (s:=r1.2) ⟨hw.fit.d0,by have:=hw.fit.d1;omega⟩ (q1 (pr T r1.2) X)
  have hst:stepP1 (enterP T s)=if (enterP T s).err=0 then (enterP T s).next else enterP T s:=rfl
  generalize hS:stepP1 (enterP T s)=sS at *
  generalize hE:enterP T s=sE at *
  obtain ⟨n1,s1⟩:=r1
  dsimp only at hsi hlv hr
  subst hr
  dsimp only
  obtain ⟨o,m,t,x,y,ks⟩:=n1
  rw [Nd.av_cs] at hsi
  have hav:(Nd.mk op 0 [] .zero .zero [Nd.mk o m t x y ks]).av = .agg (Nd.cs op 0 [] .zero .zero [.agg (Nd.cs o m t x y (ks.map Nd.av))]):=by rw [Nd.av_cs,List.map_cons,Nd.av_cs];rfl
  rw [hav]
  generalize ks.map Nd.av=KL at *
  unfold zero12 at *
  simp (disch:=first|assumption|omega) only [go_sem,↓reduceIte,hfr]
  refine hen.mono ?_
  rintro v σ1 ⟨rfl,rfl⟩
  rw [k1]
  have hprE:pr T sE=some (.obj [.sl .shr (T.map tokAV),.int .i64 sE.i,.int .i64 sE.deep,.int .i64 sE.err,.int .i64 sE.bad]):=rfl
  have hpn:some (Role.obj [.sl .shr (T.map tokAV),.int .i64 ((sE.i:Int)+1),.int .i64 sE.deep,.int .i64 sE.err,.int .i64 sE.bad])=pr T sE.next:=rfl
  have q1':=fun Y=>q1 (pr T sE) Y
  rw [hprE] at q1'
  by_cases he:sE.err=0
  ·rw [if_pos he] at hst
   subst hst
   have hEi:(sE.i:Int)<=1000000:=by omega
   rw [he] at hpn q1'
   rw [hprE,he]
   simp (disch:=first|assumption|omega) only [go_sem,reduceCtorEq,Nat.reduceEqDiff,Nat.reduceAdd,Nat.reduceLeDiff,↓reduceIte,Bool.true_and,hfr,q1',k1]
   rw [hpn]
   refine hsi.mono ?_
   rintro v σ1 ⟨rfl,rfl⟩
   rw [k1]
   simp (disch:=first|assumption|omega) only [go_sem,Nat.reduceEqDiff,Nat.reduceAdd,Nat.reduceLeDiff,↓reduceIte,Bool.true_and,hfr,q2,k2]
   refine (hlv _).mono ?_
   rintro v σ1 ⟨rfl,rfl⟩
   rw [k1]
   simp (disch:=first|assumption|omega) only [go_sem,Nat.reduceAdd,Nat.reduceLeDiff,↓reduceIte,q2]
   exact retC_by (S2.drop _ _) (fzN op 0 [] .zero .zero _ _) ⟨rfl,rfl⟩
  ·rw [if_neg he] at hst
   subst hst
   have q1s:∀ Y,T2 (pr T sS) Y b=some (.obj [.sl .shr (T.map tokAV),.int .i64 sS.i,.int .i64 sS.deep,.int .i64 sS.err,.int .i64 sS.bad]):=fun Y=>q1 _ _
   simp (disch:=first|assumption|omega) only [go_sem,reduceCtorEq,Nat.reduceEqDiff,↓reduceIte,hfr,q1s,he]
   refine hsi.mono ?_
   rintro v σ1 ⟨rfl,rfl⟩
   rw [k1]
   simp (disch:=first|assumption|omega) only [go_sem,Nat.reduceEqDiff,Nat.reduceAdd,Nat.reduceLeDiff,↓reduceIte,Bool.true_and,hfr,q2,k2]
   refine (hlv _).mono ?_
   rintro v σ1 ⟨rfl,rfl⟩
   rw [k1]
   simp (disch:=first|assumption|omega) only [go_sem,Nat.reduceAdd,Nat.reduceLeDiff,↓reduceIte,q2]
   exact retC_by (S2.drop _ _) (fzN op 0 [] .zero .zero _ _) ⟨rfl,rfl⟩
 obtain ⟨F,hF⟩:∃ F,F=ACode.wp Tryz.prog c68_22:=⟨_,rfl⟩
 rw [<-hF] at behind
 by_cases hm:isOp T s [45]=true
 ·rw [if_pos hm] at h
  rw [hm] at ha1
  cases h1:signedP T f (stepP1 (enterP T s)) with
  | none=>rw [h1] at h;cases h
  | some r1=>
    rw [h1] at h
    injection h with h
    simp (disch:=first|assumption|omega) only [go_sem,reduceCtorEq,↓reduceIte,←hF]
    refine (ha1 _).mono ?_
    rintro v σ1 ⟨rfl,rfl⟩
    simp (disch:=first|assumption|omega) only [go_sem,↓reduceIte]
    refine behind 7 r1 (isOp_kind hm) (.inl rfl) h1 h.symm _ ?_
    simp (disch:=first|assumption|omega) only [go_sem,reduceCtorEq,Nat.reduceEqDiff,↓reduceIte]
 rw [if_neg hm] at h
 have hm':isOp T s [45]=false:=by simpa using hm
 rw [hm'] at ha1
 by_cases hp:isOp T s [43]=true
 ·rw [if_pos hp] at h
  rw [hp] at ha2
  cases h1:signedP T f (stepP1 (enterP T s)) with
  | none=>rw [h1] at h;cases h
  | some r1=>
    rw [h1] at h
    injection h with h
    simp (disch:=first|assumption|omega) only [go_sem,reduceCtorEq,↓reduceIte,←hF]
    refine (ha1 _).mono ?_
    rintro v σ1 ⟨rfl,rfl⟩
    simp (disch:=first|assumption|omega) only [go_sem,reduceCtorEq,↓reduceIte]
    refine (ha2 _).mono ?_
    rintro v σ1 ⟨rfl,rfl⟩
    simp (disch:=first|assumption|omega) only [go_sem,↓reduceIte]
    refine behind 8 r1 (isOp_kind hp) (.inr rfl) h1 h.symm _ ?_
    simp (disch:=first|assumption|omega) only [go_sem,reduceCtorEq,Nat.reduceEqDiff,↓reduceIte]
 rw [if_neg hp] at h
 have hp':isOp T s [43]=false:=by simpa using hp
 rw [hp'] at ha2
 have hh:=(ih f (by omega)).hundred b s r h hf _ (V2 (pr T s) (some (.obj zero12))) (q1 _ _)
 obtain ⟨n,s'⟩:=r
 dsimp only at hh ⊢
 obtain ⟨o,m,t,x,y,ks⟩:=n
 rw [Nd.av_cs] at hh ⊢
 unfold zero12 at hh
 simp (disch:=first|assumption|omega) only [go_sem,reduceCtorEq,↓reduceIte,←hF]
 refine (ha1 _).mono ?_
 rintro v σ1 ⟨rfl,rfl⟩
 simp (disch:=first|assumption|omega) only [go_sem,reduceCtorEq,↓reduceIte]
 refine (ha2 _).mono ?_
 rintro v σ1 ⟨rfl,rfl⟩
 simp (disch:=first|assumption|omega) only [go_sem,reduceCtorEq,↓reduceIte]
 refine hh.mono ?_
 rintro v σ1 ⟨rfl,rfl⟩
 rw [k1]
 simp (disch:=first|assumption|omega) only [go_sem,Nat.reduceEqDiff,Nat.reduceAdd,Nat.reduceLeDiff,↓reduceIte,q2,k2]
 exact retC_by (S2.drop _ _) (.refl _) ⟨rfl,rfl⟩
set_option maxHeartbeats 4000000 in
theorem hundred_walk {T:List Tok} (hT:TokOk T) (f:Nat) (ih:∀ f',f'<f+1->WalkF T f') (b:Nat) (s:PSt) (r:Nd×PSt) (h:hundredP T (f+1) s=some r) (hf:Fit T s) (σ:ASt) (hV:LV σ) (hb:σ b=pr T s) :
  ACalls Tryz.prog 110 [.ptr b 0] σ fun v σ'=>v=r.1.av/\σ'=σ.set b (pr T r.2):=by
 rw [hundredP] at h
 have hwent:=wentF hT.ends
 refine a110 (by simp) ?_
 simp (disch:=first|assumption|omega) only [go_sem]
 refine allocC_by fun d hd=>?_
 obtain ⟨hbd,T2,S2⟩:=St2.of hd (pr_fix hb).1 (pr_fix hb).2
 rw [S2.one,hb]
 have V2:∀ X Y,LV (T2 X Y):=fun X Y=>S2.fix _ _ _ _ hV
 have k1:=S2.s1
 cases h1:primP T f s with
 | none=>rw [h1] at h;cases h
 | some r1=>
   rw [h1] at h
   dsimp only at h
   have hw1:=(hwent f).prim _ _ h1 hf
   have hc:=(ih f (by omega)).prim b s r1 h1 hf _ (V2 (pr T s) (some (.obj zero12))) (S2.a1 _ _)
   unfold zero12 at hc
   obtain ⟨n1,s1⟩:=r1
   dsimp only at hc h hw1
   have hex:∃ o m t x y KL,n1.av = .agg (Nd.cs o m t x y KL):=by obtain ⟨o,m,t,x,y,ks⟩:=n1;exact ⟨_,_,_,_,_,_,Nd.av_cs ..⟩
   obtain ⟨o,m,t,x,y,KL,hn1⟩:=hex
   rw [hn1] at hc
   simp (disch:=first|assumption|omega) only [go_sem,reduceCtorEq,↓reduceIte]
   refine hc.mono ?_
   rintro v σ1 ⟨rfl,rfl⟩
   rw [k1]
   simp (disch:=first|assumption|omega) only [go_sem]
   refine allocC_by fun e he=>?_
   obtain ⟨hbe,hde,T3,S3⟩:=St3.of S2 (X0 := .obj _) he
   have ab:=S3.ab
   have k3:=S3.s3
   have k2:=S3.s2
   have k1:=S3.s1
   have q3:=S3.a3
   have q2:=S3.a2
   have q1:=S3.a1
   simp (disch:=first|assumption|omega) only [go_sem,Nat.reduceEqDiff,Nat.reduceAdd,Nat.reduceLeDiff,↓reduceIte,ab,k3,q3]
   refine wp_loop_by (fun (q:Nat×Nd×PSt) a1 st=>(q.1<=f/\hloopP T q.1 q.2.1 q.2.2=some r/\Fit T q.2.2)/\(a1 0 = .ptr b 0/\a1 2 = .ptr d 0/\a1 3 = .ptr e 0)/\st=T3 (pr T q.2.2) (some (.obj zero12)) (some (.obj q.2.1.av.cells))) (fun q=>q.1) (f,n1,s1) (Dr.now ⟨⟨Nat.le_refl _,h,hw1.fit⟩,?_,by dsimp only;rw [hn1];rfl⟩) ?_
   ·simp (disch:=first|assumption|omega) only [go_sem,reduceCtorEq,Nat.reduceEqDiff,↓reduceIte]
   clear h hn1 hw1 hc h1
   rintro ⟨f',n,s'⟩ a1 st ⟨⟨g1,g2,g3⟩,hf2,rfl⟩
   dsimp only at g1 g2 g3 hf2 ⊢
   obtain ⟨f'',rfl⟩:∃ f'',f'=f''+1:=by
    cases f' with
    | zero=>rw [hloopP] at g2;cases g2
    | succ f''=>exact ⟨f'',rfl⟩
   rw [hloopP] at g2
   have hac:=paccept_ok hT.ends g3 hT.len [37] (q1 (pr T s') (some (.obj zero12)) (some (.obj n.av.cells)))
   have hnn:n.av = .agg n.av.cells:=by cases n;rfl
   have hcell:Go.A.deeps [.int .i64 9,.int .i64 0,.str [],.int .i64 0,.int .i64 0,.bool false,.bool false,.int .i64 0,.int .i64 0,.bool false,.bool false,.sl .full [n.av]]=(Nd.mk 9 0 [] .zero .zero [n]).av.cells:=by
    have:=bin_cells 9 [n] [n.av] (by simp only [deeps_cons,deeps_nil,Nd.deep];rfl)
    rw [this,Nd.av_cs]
    rfl
   obtain ⟨NC,hNC⟩:∃ NC,n.av.cells=NC:=⟨_,rfl⟩
   have hlen:NC.length=12:=by rw [<-hNC];exact Nd.av_len n
   have hlv:leaves NC=true:=by rw [<-hNC];exact Nd.av_leaves n
   have htk:NC.take 12=NC:=List.take_of_length_le (by omega)
   have hdk:NC.drop 12 = []:=List.drop_of_length_le (by omega)
   rw [hNC] at hac hnn ⊢
   rw [hnn] at hcell
   have hzl:zero12.length=12:=rfl
   have hzd:zero12.drop 12 = []:=rfl
   generalize zero12=Z12 at *
   by_cases hop:isOp T s' [37]=true
   ·rw [if_pos hop] at g2
    rw [hop,if_pos rfl,k1] at hac
    have hfn:=(g3.next hT.ends (isOp_kind hop)).1
    simp (disch:=first|assumption|omega) only [go_sem,↓reduceIte,hf2]
    refine hac.mono ?_
    rintro v σ1 ⟨rfl,rfl⟩
    simp (disch:=first|assumption|omega) only [go_sem,Nat.reduceEqDiff,Nat.reduceAdd,Nat.reduceLeDiff,↓reduceIte,Bool.true_and,hf2,q3,k3,hlen,htk,hdk]
    have hsd:SDrop (T3 (pr T s'.next) (some (.obj Z12)) (some (.obj [.int .i64 9,.int .i64 0,.str [],.int .i64 0,.int .i64 0,.bool false,.bool false,.int .i64 0,.int .i64 0,.bool false,.bool false,.sl .full [.agg NC]]))) (T3 (pr T s'.next) (some (.obj Z12)) (some (.obj (Nd.mk 9 0 [] .zero .zero [n]).av.cells))):=by
     rw [<-ab,← ab]
     exact (SDrop.refl _).cong hcell
    refine ⟨(f'',.mk 9 0 [] .zero .zero [n],s'.next),by dsimp only;omega,Dr.sdrop hsd ⟨⟨by dsimp only;omega,g2,hfn⟩,?_,rfl⟩⟩
    simp (disch:=first|assumption|omega) only [go_sem,reduceCtorEq,Nat.reduceEqDiff,↓reduceIte,hf2]
   ·have hop':isOp T s' [37]=false:=by simpa using hop
    rw [if_neg hop] at g2
    injection g2 with g2
    subst g2
    rw [hop',if_neg (by simp)] at hac
    simp (disch:=first|assumption|omega) only [go_sem,↓reduceIte,hf2]
    refine hac.mono ?_
    rintro v σ1 ⟨rfl,rfl⟩
    simp (disch:=first|assumption|omega) only [go_sem,Nat.reduceEqDiff,Nat.reduceLeDiff,↓reduceIte,hf2,q3,q2,k2,hlen,hlv,htk,hzl,hzd]
    exact retC_by (S3.drop _ _ _) (.refl _) ⟨hnn.symm,rfl⟩
end Go.A
namespace Go.A
open Go.Proofs
/-! 158: (*tabular/parse.parser).area -/
def c158_23:ACode := .seq (.ops [ oe 2 (.alloc [(.int .i64 0),(.int .i64 0),(.str []),(.int .i64 0),(.int .i64 0),(.bool false),(.bool false),(.int .i64 0),(.int .i64 0),(.bool false),(.bool false),(.sl .full [])])]) (.seq (.ops [ oq 5 (.mv (.t 0)),oe 6 (.call 33 [(.t 5)]),oe 7 (.call 175 [(.t 6)]),oq 8 (.build [(.int .i64 0),(.int .i64 0),(.str []),(.int .i64 0),(.int .i64 0),(.bool false),(.bool false),(.int .i64 0),(.int .i64 0),(.bool false),(.bool false),(.sl .full [])] [(0,1,(.v (.int .i64 5))),(3,4,(.t 7))]),oe 3 (.alloc [(.int .i64 0),(.int .i64 0),(.str []),(.int .i64 0),(.int .i64 0),(.bool false),(.bool false),(.int .i64 0),(.int .i64 0),(.bool false),(.bool false),(.sl .full [])]),oz (.store 12 (.t 3) (.t 8))]) (.seq (.ops [ oq 9 (.mv (.t 0)),oq 10 (.nc (.t 9)),oq 11 (.fa 1 (.t 10)),oq 12 (.ld none (.t 11)),oq 13 (.bin .add (.t 12) (.v (.int .i64 1))),oq 14 (.nc (.t 9)),oq 15 (.fa 1 (.t 14)),oz (.store 1 (.t 15) (.t 13))]) (.seq (.seq (.ops [ oq 16 (.mv (.t 0)),oe 17 (.call 140 [(.t 16),(.v (.str [58]))]),oq 18 (.un .not (.t 17))]) (.cond (.t 18) (.seq (.ops [ oq 19 (.ld (some 12) (.t 3)),oz (.store 12 (.t 2) (.t 19))]) .ret) .skip)) (.seq (.ops [ oq 20 (.mv (.t 0)),oe 21 (.call 33 [(.t 20)]),oe 4 (.alloc [(.int .i64 0),(.str []),(.int .i64 0),(.int .i64 0)]),oz (.store 4 (.t 4) (.t 21))]) (.seq (.seq (.ops [ oq 22 (.fa 0 (.t 4)),oq 23 (.ld none (.t 22)),oq 24 (.bin .neq (.t 23) (.v (.int .i64 4)))]) (.cond (.t 24) (.seq (.ops [ oq 25 (.mv (.t 0)),oe 26 (.call 34 [(.t 25),(.v (.int .i64 10))]),oz (.store 12 (.t 2) (.t 26))]) .ret) .skip)) (.seq (.ops [ oq 27 (.mv (.t 0)),oq 28 (.nc (.t 27)),oq 29 (.fa 1 (.t 28)),oq 30 (.ld none (.t 29)),oq 31 (.bin .add (.t 30) (.v (.int .i64 1))),oq 32 (.nc (.t 27)),oq 33 (.fa 1 (.t 32)),oz (.store 1 (.t 33) (.t 31))]) (.seq (.ops [ oq 34 (.fa 3 (.t 3)),oq 35 (.ld (some 4) (.t 34)),oq 36 (.ld (some 4) (.t 4)),⟨some 37,none,.e (.call 175 [(.t 36)]),[⟨none,.ld (some 4) (.t 34),35⟩]⟩,oq 38 (.build [(.int .i64 0),(.int .i64 0),(.str []),(.int .i64 0),(.int .i64 0),(.bool false),(.bool false),(.int .i64 0),(.int .i64 0),(.bool false),(.bool false),(.sl .full [])] [(0,1,(.v (.int .i64 6))),(3,4,(.t 35)),(7,4,(.t 37))]),oz (.store 12 (.t 2) (.t 38))]) .ret)))))))
@[go_sem] def c158_23_wp:=wp_of c158_23.eq_1
def c158:AFn:=⟨39,[.c 2 (some 12)],c158_23⟩
theorem c158_ok:compF Tryz.prog Tryz.f158=some c158:=by kernel_rfl
theorem a158 {args:List AV} {σ:ASt} {R:AV->ASt->Prop} (hl:args.length<=39) (h:c158_23.wp Tryz.prog (RetQ [.c 2 (some 12)] R) (init args) σ):ACalls Tryz.prog 158 args σ R:=acalls_of Tryz.func158 c158_ok hl h
/-! 176: (*tabular/parse.parser).args -/
def c176_19:ACode := .seq (.ops [ oq 26 (.mv (.t 0)),oe 27 (.call 140 [(.t 26),(.v (.str [44]))]),oq 28 (.un .not (.t 27))]) (.cond (.t 28) (.seq (.ops [ oq 29 (.mv (.t 0)),oe 30 (.call 160 [(.t 29),(.v (.str [41]))])]) (.exit 0)) .skip)
def c176_22:ACode := .seq (.seq (.ops [ oq 6 (.mv (.t 0)),oq 7 (.nc (.t 6)),oq 8 (.fa 3 (.t 7)),oq 9 (.ld none (.t 8)),oq 10 (.bin .eql (.t 9) (.v (.int .i64 0)))]) (.cond (.t 10) .skip (.exit 0))) (.block 1 (.seq (.seq (.ops [ oq 11 (.mv (.t 0)),oe 12 (.call 109 [(.t 11),(.v (.str [44]))]),oq 13 (.mv (.t 12)),⟨some 14,some (13,false),.q (.mv (.t 0)),[]⟩,⟨some 15,some (13,false),.e (.call 109 [(.t 14),(.v (.str [41]))]),[]⟩,oq 16 (.pick (.t 13) (.v (.bool true)) (.t 15))]) (.cond (.t 16) (.ops [ oq 17 (.mv (.t 3)),oq 18 (.build [(.int .i64 0),(.int .i64 0),(.str []),(.int .i64 0),(.int .i64 0),(.bool false),(.bool false),(.int .i64 0),(.int .i64 0),(.bool false),(.bool false),(.sl .full [])] [(0,1,(.v (.int .i64 23)))]),oq 19 (.bsl 12 [(.t 18)]),oe 20 (.app 30 12 104 [(.int .i64 0),(.int .i64 0),(.str []),(.int .i64 0),(.int .i64 0),(.bool false),(.bool false),(.int .i64 0),(.int .i64 0),(.bool false),(.bool false),(.sl .full [])] (.t 17) (.t 19)),oq 3 (.mv (.t 20))]) (.ops [ oq 21 (.mv (.t 3)),oq 22 (.mv (.t 0)),oe 23 (.call 32 [(.t 22),(.v (.int .i64 0))]),oq 24 (.bsl 12 [(.t 23)]),oe 25 (.app 30 12 104 [(.int .i64 0),(.int .i64 0),(.str []),(.int .i64 0),(.int .i64 0),(.bool false),(.bool false),(.int .i64 0),(.int .i64 0),(.bool false),(.bool false),(.sl .full [])] (.t 21) (.t 24)),oq 3 (.mv (.t 25))]))) c176_19))
def c176_26:ACode := .seq (.ops [ oq 31 (.mv (.t 3)),oq 2 (.mv (.t 31))]) .ret
def c176_30:ACode := .seq (.ops [ oq 2 (.mv (.v (.sl .full [])))]) (.seq (.seq (.ops [ oq 4 (.mv (.t 0)),oe 5 (.call 140 [(.t 4),(.v (.str [41]))])]) (.cond (.t 5) (.seq (.ops [ oq 2 (.mv (.v (.sl .full [])))]) .ret) .skip)) (.seq (.ops [ oq 3 (.mv (.v (.sl .full [])))]) (.seq (.block 0 (.loop c176_22)) c176_26)))
@[go_sem] def c176_19_wp:=wp_of c176_19.eq_1
@[go_sem] def c176_22_wp:=wp_of c176_22.eq_1
@[go_sem] def c176_26_wp:=wp_of c176_26.eq_1
@[go_sem] def c176_30_wp:=wp_of c176_30.eq_1
def c176:AFn:=⟨32,[.t 2],c176_30⟩
theorem c176_ok:compF Tryz.prog Tryz.f176=some c176:=by kernel_rfl
theorem a176 {args:List AV} {σ:ASt} {R:AV->ASt->Prop} (hl:args.length<=32) (h:c176_30.wp Tryz.prog (RetQ [.t 2] R) (init args) σ):ACalls Tryz.prog 176 args σ R:=acalls_of Tryz.func176 c176_ok hl h
end Go.A
namespace Go.A
open Go.Proofs Go.Lib
theorem zN_av:zN.av = .agg (Nd.cs 0 0 [] .zero .zero []):=rfl
theorem zN_cells:(Nd.cs 0 0 [] .zero .zero []:List AV) = [.int .i64 0,.int .i64 0,.str [],.int .i64 0,.int .i64 0,.bool false,.bool false,.int .i64 0,.int .i64 0,.bool false,.bool false,.sl .shr []]:=rfl
set_option maxHeartbeats 4000000 in
theorem area_walk {T:List Tok} (hT:TokOk T) (b:Nat) (s:PSt) (hf:Fit T s) (hk:(curT T s).kind=4) (σ:ASt) (hb:σ b=pr T s) :
  ACalls Tryz.prog 158 [.ptr b 0] σ fun v σ'=>v=(areaP T s).1.av/\σ'=σ.set b (pr T (areaP T s).2):=by
 have hlen:=hT.len
 have hil:=hf.i
 have hn:=(hf.next hT.ends (by omega)).1
 have hni:=hn.i
 refine a158 (by simp) ?_
 obtain ⟨R,hR⟩:∃ R,areaP T s=R:=⟨_,rfl⟩
 rw [hR]
 unfold areaP at hR
 simp (disch:=first|assumption|omega) only [go_sem]
 refine allocC_by fun d hd=>?_
 obtain ⟨hbd,T2,S2⟩:=St2.of hd (pr_fix hb).1 (pr_fix hb).2
 rw [S2.one,hb]
 have k1:=S2.s1
 have q1:=S2.a1
 have hcu:=fun X=>pcur_ok (T:=T) hf.i (q1 (pr T s) X)
 have hrf:=pref_ok (curT T s) (by have:=hT.cur s;omega)
 generalize hct:curT T s=tk at *
 obtain ⟨a,ha⟩:∃ a,refT tk=a:=⟨_,rfl⟩
 rw [ha] at hrf hR
 unfold tokAV refAV at hrf
 unfold tokAV at hcu
 simp (disch:=first|assumption|omega) only [go_sem,reduceCtorEq,↓reduceIte]
 refine (hcu _).mono ?_
 rintro v σ1 ⟨rfl,rfl⟩
 simp (disch:=first|assumption|omega) only [go_sem,↓reduceIte]
 refine hrf.use ?_
 simp (disch:=first|assumption|omega) only [go_sem,Nat.reduceAdd,Nat.reduceLeDiff,↓reduceIte]
 refine allocC_by fun e he=>?_
 obtain ⟨hbe,hde,T3,S3⟩:=St3.of S2 (X0 := .obj _) he
 have ab:=S3.ab
 have k3:=S3.s3
 have k2:=S3.s2
 have k1:=S3.s1
 have q3:=S3.a3
 have q2:=S3.a2
 have q1:=S3.a1
 have hpr:∀ x:PSt,pr T x=some (.obj [.sl .shr (T.map tokAV),.int .i64 x.i,.int .i64 x.deep,.int .i64 x.err,.int .i64 x.bad]):=fun x=>rfl
 have hpn:some (Role.obj [.sl .shr (T.map tokAV),.int .i64 ((s.i:Int)+1),.int .i64 s.deep,.int .i64 s.err,.int .i64 s.bad])=pr T s.next:=rfl
 obtain ⟨NC,hNC⟩:∃ NC,([.int .i64 5,.int .i64 0,.str [],.int .i64 a.row,.int .i64 a.col,.bool a.absRow,.bool a.absCol,.int .i64 0,.int .i64 0,.bool false,.bool false,.sl .full []]:List AV)=NC:=⟨_,rfl⟩
 have hac:=fun X Y=>paccept_ok hT.ends hn hT.len [58] (q1 (pr T s.next) X Y)
 simp (disch:=first|assumption|omega) only [go_sem,reduceCtorEq,Nat.reduceEqDiff,Nat.reduceAdd,Nat.reduceLeDiff,↓reduceIte,Bool.true_and,ab,k3,q3]
 rw [hpr s]
 simp (disch:=first|assumption|omega) only [go_sem,reduceCtorEq,Nat.reduceEqDiff,Nat.reduceAdd,Nat.reduceLeDiff,↓reduceIte,Bool.true_and,q1,k1]
 rw [hpn]
 have hz12:zero12 = [.int .i64 0,.int .i64 0,.str [],.int .i64 0,.int .i64 0,.bool false,.bool false,.int .i64 0,.int .i64 0,.bool false,.bool false,.sl .full []]:=rfl
 refine (hac _ _).mono ?_
 rintro v σ1 ⟨rfl,rfl⟩
 by_cases hc:isOp T s.next [58]=false
 ·rw [if_pos hc] at hR
  subst hR
  rw [hc,if_neg (by simp)]
  simp (disch:=first|assumption|omega) only [go_sem,Nat.reduceEqDiff,Nat.reduceAdd,Nat.reduceLeDiff,↓reduceIte,Bool.true_and,q2,q3,k2]
  rw [Nd.av_cs]
  exact retC_by (S3.drop _ _ _) (fzN 5 0 [] a .zero _ _) ⟨rfl,rfl⟩
 ·rw [if_neg hc] at hR
  have hc':isOp T s.next [58]=true:=by simpa using hc
  rw [hc',if_pos rfl,k1]
  have hn2:=(hn.next hT.ends (isOp_kind hc')).1
  have hn2i:=hn2.i
  have hcu2:=fun X Y=>pcur_ok (T:=T) hn2.i (q1 (pr T s.next.next) X Y)
  have hrf2:=pref_ok (curT T s.next.next) (by have:=hT.cur s.next.next;omega)
  have hfl:=fun τ h=>pfail_ok (T:=T) (s:=s.next.next) hn2.i 10 (σ:=τ) (b:=b) h
  have hpn2:some (Role.obj [.sl .shr (T.map tokAV),.int .i64 (s.next.next.i+1:Int),.int .i64 s.next.next.deep,.int .i64 s.next.next.err,.int .i64 s.next.next.bad])=pr T s.next.next.next:=rfl
  have hk2:(curT T s.next.next).kind≠0->s.next.next.i+1<T.length:=fun h=>(hn2.next hT.ends h).1.i
  generalize hct2:curT T s.next.next=tk2 at *
  obtain ⟨a2,ha2⟩:∃ a,refT tk2=a:=⟨_,rfl⟩
  rw [ha2] at hrf2 hR
  unfold tokAV refAV at hrf2
  unfold tokAV at hcu2
  simp (disch:=first|assumption|omega) only [go_sem,reduceCtorEq,↓reduceIte]
  refine (hcu2 _ _).mono ?_
  rintro v σ1 ⟨rfl,rfl⟩
  simp (disch:=first|assumption|omega) only [go_sem]
  refine allocC_by fun g hg=>?_
  obtain ⟨T4,S4⟩:=St4.of S3 (X0 := .obj _) hg
  have ab4:=S4.ab
  have m1:=S4.s1
  have m2:=S4.s2
  have m4:=S4.s4
  have p1:=S4.a1
  have p2:=S4.a2
  have p3:=S4.a3
  have p4:=S4.a4
  generalize hs2:s.next.next=sN at *
  by_cases hk4:tk2.kind=4
  ·rw [if_neg (by simpa using hk4)] at hR
   subst hR
   have hi2:=hk2 (by omega)
   simp (disch:=first|assumption|omega) only [go_sem,reduceCtorEq,Nat.reduceEqDiff,Nat.reduceAdd,Nat.reduceLeDiff,↓reduceIte,Bool.true_and,ab4,m4,p4,hk4]
   rw [hpr sN]
   simp (disch:=first|assumption|omega) only [go_sem,Nat.reduceEqDiff,Nat.reduceAdd,Nat.reduceLeDiff,↓reduceIte,Bool.true_and,p1,m1]
   rw [hpn2]
   rw [hk4] at hrf2
   simp (disch:=first|assumption|omega) only [go_sem,Nat.reduceEqDiff,Nat.reduceAdd,Nat.reduceLeDiff,↓reduceIte,p3,p4]
   refine hrf2.use ?_
   simp (disch:=first|assumption|omega) only [go_sem,Nat.reduceEqDiff,Nat.reduceAdd,Nat.reduceLeDiff,↓reduceIte,Bool.true_and,p2,p3,m2]
   rw [Nd.av_cs]
   exact retC_by (S4.drop _ _ _ _) (fzN 6 0 [] a a2 _ _) ⟨rfl,rfl⟩
  ·rw [if_pos hk4] at hR
   subst hR
   simp (disch:=first|assumption|omega) only [go_sem,reduceCtorEq,Nat.reduceEqDiff,Nat.reduceAdd,Nat.reduceLeDiff,↓reduceIte,Bool.true_and,ab4,m4,p4,hk4]
   refine (hfl _ (p1 _ _ _ _)).mono ?_
   rintro v σ1 ⟨rfl,rfl⟩
   rw [m1,zN_av,zN_cells]
   simp (disch:=first|assumption|omega) only [go_sem,Nat.reduceEqDiff,Nat.reduceAdd,Nat.reduceLeDiff,↓reduceIte,Bool.true_and,p2,m2]
   exact retC_by (S4.drop _ _ _ _) (.refl _) ⟨rfl,rfl⟩
theorem deeps_app:∀ xs ys:List AV,Go.A.deeps (xs++ys)=Go.A.deeps xs++Go.A.deeps ys
 | [],ys=>rfl
 | x::xs,ys=>by rw [List.cons_append,deeps_cons,deeps_cons,deeps_app xs ys,List.cons_append]
theorem OwnSl.fzd {σ0 σ st σ':ASt} {v:AV} {xs:List AV} {s:Nat} (h:OwnSl σ0 σ v xs s) (hd:Drop st σ) (hx:∀ x∈xs,x.cells.length=s) (hn:∀ b,σ0 b=none->σ' b=none):Fz st σ' v (.sl .shr xs):=by
 rcases h with ⟨rfl,rfl,rfl⟩|⟨b,c,rest,rfl,h2,h3,h4,rfl⟩
 ·exact .sl _ _
 ·have hxl:(xs.flatMap AV.cells).length=xs.length*s:=lens_flat hx
  refine .msl 0 _ c s xs (hd.had (ASt.set_same _ _ _)) (hn _ h4) rfl h2 hx ?_
  rw [List.drop_zero,← hxl,List.take_left]
set_option maxHeartbeats 4000000 in
theorem args_walk {T:List Tok} (hT:TokOk T) (f:Nat) (ih:∀ f',f'<f+1->WalkF T f') (b:Nat) (s:PSt) (r:List Nd×PSt) (h:argsP T (f+1) s=some r) (hf:Fit T s) (σ:ASt) (hV:LV σ) (hb:σ b=pr T s) :
  ACalls Tryz.prog 176 [.ptr b 0] σ fun v σ'=>v = .sl .shr (r.1.map Nd.av)/\σ'=σ.set b (pr T r.2):=by
 rw [argsP] at h
 have hwent:=wentF hT.ends
 have hac:=paccept_ok hT.ends hf hT.len [41] hb
 refine ACalls.retd (K:=fun v σ'=>Go.A.deep v = .sl .shr (r.1.map Nd.av)/\σ'=σ.set b (pr T r.2)) ?_ (fun v σ' h=>h)
 refine a176 (by simp) ?_
 by_cases hc:isOp T s [41]=true
 ·rw [if_pos hc] at h
  injection h with h
  subst h
  rw [hc,if_pos rfl] at hac
  simp (disch:=first|assumption|omega) only [go_sem,reduceCtorEq,↓reduceIte]
  refine hac.mono ?_
  rintro v σ1 ⟨rfl,rfl⟩
  simp (disch:=first|assumption|omega) only [go_sem,↓reduceIte]
  exact retC_by (Drop.refl _) (.refl _) ⟨rfl,rfl⟩
 rw [if_neg hc] at h
 have hc':isOp T s [41]=false:=by simpa using hc
 rw [hc',if_neg (by simp)] at hac
 simp (disch:=first|assumption|omega) only [go_sem,reduceCtorEq,↓reduceIte]
 refine hac.mono ?_
 rintro v σ1 ⟨rfl,rfl⟩
 obtain ⟨F,hF⟩:∃ F,F=ACode.wp Tryz.prog c176_26:=⟨_,rfl⟩
 have hpr:∀ x:PSt,pr T x=some (.obj [.sl .shr (T.map tokAV),.int .i64 x.i,.int .i64 x.deep,.int .i64 x.err,.int .i64 x.bad]):=fun x=>rfl
 have hbs:=hb
 have fin:∀ (l:List Nd) (s':PSt) (XS:List AV) (v:AV) (st:ASt) (a1:AFr),r=(l,s')->(∃ σ2,Drop st σ2/\OwnSl (σ1.set b (pr T s')) σ2 v XS 12)->(∀ x∈XS,x.cells.length=12)->Go.A.deeps XS=l.map Nd.av->a1 3=v →
   F (RetQ [.t 2] fun v σ'=>Go.A.deep v = .sl .shr (r.1.map Nd.av)/\σ'=σ1.set b (pr T r.2)) a1 st:=by
  intro l s' XS v st a1 hr ⟨σ2,hdr,hO⟩ hx hd h3
  subst hr
  rw [hF]
  have hz:=hO.fzd hdr hx (σ':=σ1.set b (pr T s')) (fun x hx=>hx)
  simp (disch:=first|assumption|omega) only [go_sem,↓reduceIte,h3]
  refine retC_by (r := .sl .shr XS) (hdr.trans hO.drop) ?_ ⟨by rw [deep_sl,hd],rfl⟩
  first|exact hz|(rw [resV_one];exact hz)
 simp (disch:=first|assumption|omega) only [go_sem,↓reduceIte,←hF]
 refine wp_loop_by (fun (q:Nat×List Nd×PSt) a1 st=>(q.1<=f/\aloopP T q.1 q.2.1 q.2.2=some r/\Fit T q.2.2/\q.2.1.length<=q.2.2.i)/\a1 0 = .ptr b 0/\∃ v XS,a1 3=v/\OwnSl (σ1.set b (pr T q.2.2)) st v XS 12/\(∀ x∈XS,x.cells.length=12)/\Go.A.deeps XS=q.2.1.map Nd.av) (fun q=>q.1) (f,[],s) (Dr.now ⟨⟨Nat.le_refl _,h,hf,Nat.zero_le _⟩,?_,.sl .full [],[],?_,?_,by simp,rfl⟩) ?_
 ·simp (disch:=first|assumption|omega) only [go_sem,reduceCtorEq,↓reduceIte]
 ·simp (disch:=first|assumption|omega) only [go_sem,↓reduceIte]
 ·dsimp only;rw [set_self0 hb];exact .inl ⟨rfl,rfl,rfl⟩
 clear h hac hc hc'
 rintro ⟨f',l,s'⟩ a1 st ⟨⟨g1,g2,g3,g4⟩,h0,v,XS,h3,hO,hx,hdl⟩
 dsimp only at g1 g2 g3 g4 hO hdl
 obtain ⟨f'',rfl⟩:∃ f'',f'=f''+1:=by
  cases f' with
  | zero=>rw [aloopP] at g2;cases g2
  | succ f''=>exact ⟨f'',rfl⟩
 rw [aloopP] at g2
 have hbb:st b=pr T s':=hO.at (x:=b) (ASt.set_same _ _ _)
 have hVs:LV st:=by
  unfold LV at hV ⊢
  refine hO.at ?_
  rw [ASt.set_ne]
  ·exact hV
  ·rintro e;rw [<-e,hV] at hbs;unfold pr at hbs;cases hbs
 have hxl:XS.length=l.length:=by
  have:=congrArg List.length hdl
  rw [List.length_map] at this
  rw [<-this,deeps_len]
 have hil:=g3.i
 have htl:=hT.len
 have hbb':=hbb
 rw [hpr] at hbb'
 by_cases he:s'.err=0
 ·rw [if_neg (by simp [he])] at g2
  have ha1:=pat_ok g3.i [44] hbb
  have ha2:=pat_ok g3.i [41] hbb
  obtain ⟨B,hB⟩:∃ B,B=ACode.wp Tryz.prog c176_19:=⟨_,rfl⟩
  have behind:∀ (Q:APost) (s2:PSt) (v':AV) (st':ASt) (XS':List AV) (a2:AFr),Fit T s2->(∃ σ2,Drop st' σ2/\OwnSl (σ1.set b (pr T s2)) σ2 v' XS' 12)->a2 0 = .ptr b 0->a2 3=v' →
    (∀ a3 st3,isOp T s2 [44]=true->a3 0 = .ptr b 0->a3 3=v'->(∃ σ2,Drop st3 σ2/\OwnSl (σ1.set b (pr T s2.next)) σ2 v' XS' 12)->Q .normal a3 st3) →
    (∀ a3 st3,isOp T s2 [44]=false->a3 3=v'->(∃ σ2,Drop st3 σ2/\OwnSl (σ1.set b (pr T (mustP T s2 [41]))) σ2 v' XS' 12)->Q (.exit 0) a3 st3)->B Q a2 st':=by
   intro Q s2 v' st' XS' a2 hf2 ⟨σd,hdd,hO2⟩ h02 h32 hgo hend
   rw [hB]
   have hb2:st' b=pr T s2:=hdd.had (hO2.at (x:=b) (ASt.set_same _ _ _))
   have hac:=paccept_ok hT.ends hf2 hT.len [44] hb2
   have hmu:=pmust_ok hT.ends hf2 hT.len [41] hb2
   simp (disch:=first|assumption|omega) only [go_sem,↓reduceIte,h02]
   refine hac.mono ?_
   rintro w σ2 ⟨rfl,rfl⟩
   by_cases h44:isOp T s2 [44]=true
   ·rw [h44,if_pos rfl]
    simp (disch:=first|assumption|omega) only [go_sem,↓reduceIte]
    refine hgo _ _ h44 (by simp (disch:=first|assumption|omega) only [go_sem,reduceCtorEq,↓reduceIte,h02]) (by simp (disch:=first|assumption|omega) only [go_sem,Nat.reduceEqDiff,↓reduceIte,h32]) ?_
    have:=hO2.put (ASt.set_same σ1 b (pr T s2):_=some _) (pr T s2.next)
    rw [ASt.set_set] at this
    exact ⟨_,hdd.set_cong,this⟩
   ·have h44':isOp T s2 [44]=false:=by simpa using h44
    rw [h44',if_neg (by simp)]
    simp (disch:=first|assumption|omega) only [go_sem,reduceCtorEq,↓reduceIte,h02]
    refine hmu.mono ?_
    rintro w σ2 ⟨rfl,rfl⟩
    simp (disch:=first|assumption|omega) only [go_sem]
    refine hend _ _ h44' (by simp (disch:=first|assumption|omega) only [go_sem,Nat.reduceEqDiff,↓reduceIte,h32]) ?_
    have:=hO2.put (ASt.set_same σ1 b (pr T s2):_=some _) (pr T (mustP T s2 [41]))
    rw [ASt.set_set] at this
    exact ⟨_,hdd.set_cong,this⟩
  have more:∀ (x:Nd) (s2:PSt) (X:AV),X.cells.length=12->Go.A.deep X=x.av->(if isOp T s2 [44]=true then aloopP T f'' (l ++ [x]) s2.next else some (l ++ [x],mustP T s2 [41]))=some r->Fit T s2->s'.i<=s2.i->∀ (v':AV) (st':ASt) (a2:AFr),(∃ σ2,Drop st' σ2/\OwnSl (σ1.set b (pr T s2)) σ2 v' (XS ++ [X]) 12)->a2 0 = .ptr b 0->a2 3=v' →
    B (BlockQ 1 (LoopQ (Again (fun (q:Nat×List Nd×PSt) a1 st=>(q.1<=f/\aloopP T q.1 q.2.1 q.2.2=some r/\Fit T q.2.2/\q.2.1.length<=q.2.2.i)/\a1 0 = .ptr b 0/\∃ v XS,a1 3=v/\OwnSl (σ1.set b (pr T q.2.2)) st v XS 12/\(∀ x∈XS,x.cells.length=12)/\Go.A.deeps XS=q.2.1.map Nd.av) (fun q=>q.1) (f''+1,l,s'))
     (BlockQ 0 (SeqQ F (RetQ [.t 2] fun v σ'=>Go.A.deep v = .sl .shr (r.1.map Nd.av)/\σ'=σ1.set b (pr T r.2)))))) a2 st':=by
   intro x s2 X hX hXd hr hf2 hle v' st' a2 hO2 h02 h32
   have hxs:∀ y∈XS ++ [X],y.cells.length=12:=by
    intro y hy
    rcases List.mem_append.1 hy with hy|hy
    ·exact hx y hy
    ·simp at hy;subst hy;exact hX
   have hds:Go.A.deeps (XS ++ [X])=(l ++ [x]).map Nd.av:=by
    rw [List.map_append,← hdl,deeps_app,deeps_cons,hXd]
    rfl
   refine behind _ s2 v' st' (XS ++ [X]) a2 hf2 hO2 h02 h32 (fun a3 st3 h44 h03 h33 hO3=>?_) (fun a3 st3 h44 h33 hO3=>?_)
   ·rw [if_pos h44] at hr
    have hfn:=(hf2.next hT.ends (isOp_kind h44)).1
    obtain ⟨σ3,hd3,hO3⟩:=hO3
    simp (disch:=first|assumption|omega) only [go_sem]
    exact ⟨(f'',l ++ [x],s2.next),by dsimp only;omega,Dr.drop hd3 ⟨⟨by dsimp only;omega,hr,hfn,by dsimp only;rw [List.length_append];show l.length+1<=s2.i+1;omega⟩,h03,v',XS ++ [X],h33,hO3,hxs,hds⟩⟩
   ·rw [if_neg (by simp [h44])] at hr
    injection hr with hr
    simp (disch:=first|assumption|omega) only [go_sem,reduceCtorEq,↓reduceIte]
    exact fin _ _ (XS ++ [X]) v' st3 a3 hr.symm hO3 hxs hds h33
  by_cases hmi:isOp T s' [44]=true\/isOp T s' [41]=true
  ·rw [if_pos hmi] at g2
   dsimp only at g2
   have hmore:=more missN s' (.agg [.int .i64 23,.int .i64 0,.str [],.int .i64 0,.int .i64 0,.bool false,.bool false,.int .i64 0,.int .i64 0,.bool false,.bool false,.sl .full []]) rfl rfl g2 g3 (Nat.le_refl _)
   by_cases h44:isOp T s' [44]=true
   ·rw [h44] at ha1
    simp (disch:=first|assumption|omega) only [go_sem,reduceCtorEq,↓reduceIte,h0,hbb',he,←hB]
    refine ha1.mono ?_
    rintro w σ2 ⟨rfl,rfl⟩
    simp (disch:=first|assumption|omega) only [go_sem,Nat.reduceEqDiff,Nat.reduceAdd,Nat.reduceLeDiff,↓reduceIte,Bool.true_and,h3]
    refine OwnSl.app hO hx rfl rfl (by simp only [List.length_cons,List.length_nil];omega) (by simp only [List.length_cons,List.length_nil];omega) (by simp) fun v' σ' ⟨σ2,hd,hO2⟩=>?_
    simp (disch:=first|assumption|omega) only [go_sem,↓reduceIte]
    refine hmore v' _ _ ⟨σ2,hd,hO2⟩ ?_ ?_
    ·simp (disch:=first|assumption|omega) only [go_sem,reduceCtorEq,↓reduceIte,h0]
    ·simp (disch:=first|assumption|omega) only [go_sem,↓reduceIte]
   ·have h44':isOp T s' [44]=false:=by simpa using h44
    have h41:isOp T s' [41]=true:=hmi.resolve_left h44
    rw [h44'] at ha1
    rw [h41] at ha2
    simp (disch:=first|assumption|omega) only [go_sem,reduceCtorEq,↓reduceIte,h0,hbb',he,←hB]
    refine ha1.mono ?_
    rintro w σ2 ⟨rfl,rfl⟩
    simp (disch:=first|assumption|omega) only [go_sem,reduceCtorEq,Nat.reduceEqDiff,↓reduceIte,h0]
    refine ha2.mono ?_
    rintro w σ2 ⟨rfl,rfl⟩
    simp (disch:=first|assumption|omega) only [go_sem,Nat.reduceEqDiff,Nat.reduceAdd,Nat.reduceLeDiff,↓reduceIte,Bool.true_and,h3]
    refine OwnSl.app hO hx rfl rfl (by simp only [List.length_cons,List.length_nil];omega) (by simp only [List.length_cons,List.length_nil];omega) (by simp) fun v' σ' ⟨σ2,hd,hO2⟩=>?_
    simp (disch:=first|assumption|omega) only [go_sem,↓reduceIte]
    refine hmore v' _ _ ⟨σ2,hd,hO2⟩ ?_ ?_
    ·simp (disch:=first|assumption|omega) only [go_sem,reduceCtorEq,↓reduceIte,h0]
    ·simp (disch:=first|assumption|omega) only [go_sem,↓reduceIte]
  ·rw [if_neg hmi] at g2
   cases h1:betwP T f'' 0 s' with
   | none=>rw [h1] at g2;cases g2
   | some r1=>
     rw [h1] at g2
     dsimp only at g2
     have h44':isOp T s' [44]=false:=by simpa using fun h=>hmi (.inl h)
     have h41':isOp T s' [41]=false:=by simpa using fun h=>hmi (.inr h)
     rw [h44'] at ha1
     rw [h41'] at ha2
     have hw:=(hwent f'').betw _ _ _ h1 g3
     have hcb:=(ih f'' (by omega)).betw b 0 s' r1 (by omega) h1 g3 _ hVs hbb
     rw [show ((0:Nat):Int)=0 from rfl] at hcb
     obtain ⟨x1,s2⟩:=r1
     dsimp only at g2 hw hcb
     have hmore:=more x1 s2 x1.av (Nd.av_len x1) (Nd.deep x1) g2 hw.fit hw.le
     have hO1:=hO.put (ASt.set_same σ1 b (pr T s'):_=some _) (pr T s2)
     rw [ASt.set_set] at hO1
     obtain ⟨o,m,t,x,y,ks⟩:=x1
     rw [Nd.av_cs] at hmore hcb
     generalize ks.map Nd.av=KL at *
     simp (disch:=first|assumption|omega) only [go_sem,reduceCtorEq,↓reduceIte,h0,hbb',he,←hB]
     refine ha1.mono ?_
     rintro w σ2 ⟨rfl,rfl⟩
     simp (disch:=first|assumption|omega) only [go_sem,reduceCtorEq,Nat.reduceEqDiff,↓reduceIte,h0]
     refine ha2.mono ?_
     rintro w σ2 ⟨rfl,rfl⟩
     simp (disch:=first|assumption|omega) only [go_sem,reduceCtorEq,Nat.reduceEqDiff,↓reduceIte,h0,h3]
     refine hcb.mono ?_
     rintro w σ2 ⟨rfl,rfl⟩
     simp (disch:=first|assumption|omega) only [go_sem,Nat.reduceEqDiff,↓reduceIte,Bool.true_and]
     refine OwnSl.app hO1 hx rfl rfl (by simp only [List.length_cons,List.length_nil];omega) (by simp only [List.length_cons,List.length_nil];omega) (by simp) fun v' σ' ⟨σ2,hd,hO2⟩=>?_
     simp (disch:=first|assumption|omega) only [go_sem,↓reduceIte]
     refine hmore v' _ _ ⟨σ2,hd,hO2⟩ ?_ ?_
     ·simp (disch:=first|assumption|omega) only [go_sem,reduceCtorEq,↓reduceIte,h0]
     ·simp (disch:=first|assumption|omega) only [go_sem,↓reduceIte]
 ·rw [if_pos he] at g2
  injection g2 with g2
  simp (disch:=first|assumption|omega) only [go_sem,↓reduceIte,h0,hbb',he]
  exact fin l s' XS v st _ g2.symm ⟨st,Drop.refl _,hO⟩ hx hdl (by simp (disch:=first|assumption|omega) only [go_sem,Nat.reduceEqDiff,↓reduceIte,h3])
end Go.A
namespace Go.A
open Go.Proofs
/-! 159: (*tabular/parse.parser).name -/
def c159_36:ACode := .seq (.ops [ oq 47 (.build [(.int .i64 0),(.int .i64 0),(.str []),(.int .i64 0),(.int .i64 0),(.bool false),(.bool false),(.int .i64 0),(.int .i64 0),(.bool false),(.bool false),(.sl .full [])] [(0,1,(.v (.int .i64 3)))]),oe 6 (.alloc [(.int .i64 0),(.int .i64 0),(.str []),(.int .i64 0),(.int .i64 0),(.bool false),(.bool false),(.int .i64 0),(.int .i64 0),(.bool false),(.bool false),(.sl .full [])]),oz (.store 12 (.t 6) (.t 47))]) (.seq (.seq (.ops [ oq 48 (.fa 1 (.t 3)),oq 49 (.ld none (.t 48))]) (.block 0 (.seq (.ops [ oq 53 (.bin .eql (.t 49) (.v (.str [84,82,85,69]))),oq 52 (.mv (.t 53))]) (.cond (.t 52) (.ops [ oq 54 (.fa 1 (.t 6)),oz (.store 1 (.t 54) (.v (.int .i64 1)))]) (.seq (.ops [ oq 56 (.bin .eql (.t 49) (.v (.str [70,65,76,83,69]))),oq 55 (.mv (.t 56))]) (.cond (.t 55) .skip (.seq (.ops [ oq 50 (.mv (.t 0)),oe 51 (.call 34 [(.t 50),(.v (.int .i64 10))]),oz (.store 12 (.t 4) (.t 51))]) .ret))))))) (.seq (.ops [ oq 57 (.mv (.t 0)),oq 58 (.nc (.t 57)),oq 59 (.fa 1 (.t 58)),oq 60 (.ld none (.t 59)),oq 61 (.bin .add (.t 60) (.v (.int .i64 1))),oq 62 (.nc (.t 57)),oq 63 (.fa 1 (.t 62)),oz (.store 1 (.t 63) (.t 61))]) (.seq (.ops [ oq 64 (.ld (some 12) (.t 6)),oz (.store 12 (.t 4) (.t 64))]) .ret)))
def c159_39:ACode := .seq (.ops [ oe 3 (.box (.t 1)),oe 4 (.alloc [(.int .i64 0),(.int .i64 0),(.str []),(.int .i64 0),(.int .i64 0),(.bool false),(.bool false),(.int .i64 0),(.int .i64 0),(.bool false),(.bool false),(.sl .full [])])]) (.seq (.ops [ oq 7 (.mv (.t 0)),oq 8 (.nc (.t 7)),oq 9 (.fa 0 (.t 8)),oq 10 (.ld none (.t 9)),oq 11 (.mv (.t 0)),oq 12 (.nc (.t 11)),oq 13 (.fa 1 (.t 12)),oq 14 (.ld none (.t 13)),oq 15 (.bin .add (.t 14) (.v (.int .i64 1))),oq 16 (.ia 4 (.t 10) (.t 15)),oq 17 (.ld (some 4) (.t 16)),⟨some 5,none,.e (.alloc [(.int .i64 0),(.str []),(.int .i64 0),(.int .i64 0)]),[⟨none,.ld none (.t 9),10⟩,⟨none,.ld none (.t 13),14⟩,⟨none,.ld (some 4) (.t 16),17⟩]⟩,oz (.store 4 (.t 5) (.t 17))]) (.seq (.seq (.ops [ oq 18 (.fa 0 (.t 5)),oq 19 (.ld none (.t 18)),oq 20 (.bin .eql (.t 19) (.v (.int .i64 6))),oq 21 (.mv (.t 20)),⟨some 22,some (21,true),.q (.fa 1 (.t 5)),[]⟩,⟨some 23,some (21,true),.q (.ld none (.t 22)),[]⟩,⟨some 24,some (21,true),.q (.bin .eql (.t 23) (.v (.str [40]))),[]⟩,oq 25 (.pick (.t 21) (.t 24) (.v (.bool false)))]) (.cond (.t 25) (.seq (.ops [ oq 26 (.mv (.t 0)),oe 27 (.call 111 [(.t 26)])]) (.dfr 112 (.t 0) 28 (.seq (.seq (.ops [ oq 29 (.mv (.t 0)),oq 30 (.nc (.t 29)),oq 31 (.fa 3 (.t 30)),oq 32 (.ld none (.t 31)),oq 33 (.bin .neq (.t 32) (.v (.int .i64 0)))]) (.cond (.t 33) (.seq (.ops [ oq 34 (.build [(.int .i64 0),(.int .i64 0),(.str []),(.int .i64 0),(.int .i64 0),(.bool false),(.bool false),(.int .i64 0),(.int .i64 0),(.bool false),(.bool false),(.sl .full [])] []),oz (.store 12 (.t 4) (.t 34))]) .ret) .skip)) (.seq (.ops [ oq 35 (.mv (.t 0)),oq 36 (.nc (.t 35)),oq 37 (.fa 1 (.t 36)),oq 38 (.ld none (.t 37)),oq 39 (.bin .add (.t 38) (.v (.int .i64 2))),oq 40 (.nc (.t 35)),oq 41 (.fa 1 (.t 40)),oz (.store 1 (.t 41) (.t 39))]) (.seq (.ops [ oq 42 (.fa 1 (.t 3)),oq 43 (.ld none (.t 42)),oq 44 (.mv (.t 0)),⟨some 45,none,.e (.call 176 [(.t 44)]),[⟨none,.ld none (.t 42),43⟩]⟩,oq 46 (.build [(.int .i64 0),(.int .i64 0),(.str []),(.int .i64 0),(.int .i64 0),(.bool false),(.bool false),(.int .i64 0),(.int .i64 0),(.bool false),(.bool false),(.sl .full [])] [(0,1,(.v (.int .i64 22))),(2,1,(.t 43)),(11,1,(.t 45))]),oz (.store 12 (.t 4) (.t 46))]) .ret))))) .skip)) c159_36))
@[go_sem] def c159_36_wp:=wp_of c159_36.eq_1
@[go_sem] def c159_39_wp:=wp_of c159_39.eq_1
def c159:AFn:=⟨65,[.c 4 (some 12)],c159_39⟩
theorem c159_ok:compF Tryz.prog Tryz.f159=some c159:=by kernel_rfl
theorem a159 {args:List AV} {σ:ASt} {R:AV->ASt->Prop} (hl:args.length<=65) (h:c159_39.wp Tryz.prog (RetQ [.c 4 (some 12)] R) (init args) σ):ACalls Tryz.prog 159 args σ R:=acalls_of Tryz.func159 c159_ok hl h
end Go.A
namespace Go.A
open Go.Proofs Go.Lib
set_option maxHeartbeats 4000000 in
theorem name_walk {T:List Tok} (hT:TokOk T) (f:Nat) (ih:∀ f',f'<f+1->WalkF T f') (b:Nat) (s:PSt) (r:Nd×PSt) (h:nameP T (f+1) s=some r) (hf:Fit T s) (hk3:(curT T s).kind=3) (σ:ASt) (hV:LV σ) (hb:σ b=pr T s) :
  ACalls Tryz.prog 159 [.ptr b 0,tokAV (curT T s)] σ fun v σ'=>v=r.1.av/\σ'=σ.set b (pr T r.2):=by
 rw [nameP] at h
 have hwent:=wentF hT.ends
 have he0:s.err=0:=cur_err (T:=T) (by omega)
 have hn:=(hf.next hT.ends (by omega)).1
 have hni:s.i+1<T.length:=hn.i
 have hlen:=hT.len
 have hil:=hf.i
 have hget:(T.map tokAV)[s.i+1]? = some (.agg [.int .i64 (T.getD (s.i+1) endT).kind,.str (T.getD (s.i+1) endT).text,.int .i64 (T.getD (s.i+1) endT).at',.int .i64 (T.getD (s.i+1) endT).col]):=tok_get hni
 have hTL:(T.map tokAV).length=T.length:=by simp
 have hge2:=hT.ends.more (s.i+1) hni
 have hpr:∀ x:PSt,pr T x=some (.obj [.sl .shr (T.map tokAV),.int .i64 x.i,.int .i64 x.deep,.int .i64 x.err,.int .i64 x.bad]):=fun x=>rfl
 have hcur:=hk3
 generalize hct:curT T s=tk at *
 generalize hN:T.getD (s.i+1) endT=tn at *
 have htv:tokAV tk = .agg [.int .i64 tk.kind,.str tk.text,.int .i64 tk.at',.int .i64 tk.col]:=rfl
 rw [htv]
 obtain ⟨TC,hTC⟩:∃ TC,([.int .i64 tk.kind,.str tk.text,.int .i64 tk.at',.int .i64 tk.col]:List AV)=TC:=⟨_,rfl⟩
 have hbn:σ b≠none:=(pr_fix hb).2
 refine a159 (by simp) ?_
 simp (disch:=first|assumption|omega) only [go_sem]
 refine boxC_by rfl fun c hc=>?_
 have hbc:b≠c:=by rintro rfl;exact hbn hc
 have hbσ:(σ.set c (some (.obj [.int .i64 tk.kind,.str tk.text,.int .i64 tk.at',.int .i64 tk.col]))) b=pr T s:=by rw [ASt.set_ne hbc];exact hb
 have hVσ:LV (σ.set c (some (.obj [.int .i64 tk.kind,.str tk.text,.int .i64 tk.at',.int .i64 tk.col]))):=by
  unfold LV at hV ⊢
  rw [ASt.set_ne]
  ·exact hV
  ·rintro e;rw [<-e,hV] at hc;cases hc
 have hcσ:(σ.set c (some (.obj [.int .i64 tk.kind,.str tk.text,.int .i64 tk.at',.int .i64 tk.col]))) c=some (.obj [.int .i64 tk.kind,.str tk.text,.int .i64 tk.at',.int .i64 tk.col]):=ASt.set_same _ _ _
 have hDσ:∀ X:Option Role,Drop ((σ.set c (some (.obj [.int .i64 tk.kind,.str tk.text,.int .i64 tk.at',.int .i64 tk.col]))).set b X) (σ.set b X):=fun X=>by
  rw [set_swap (Ne.symm hbc)]
  exact Drop.set (by rw [ASt.set_ne (Ne.symm hbc)];exact hc)
 simp (disch:=first|assumption|omega) only [go_sem]
 refine allocC_by fun d hd=>?_
 generalize hρ:σ.set c (some (.obj [.int .i64 tk.kind,.str tk.text,.int .i64 tk.at',.int .i64 tk.col]))=ρ at *
 obtain ⟨hbd,T2,S2⟩:=St2.of hd (pr_fix hbσ).1 (pr_fix hbσ).2
 have hcd:c≠d:=by rintro rfl;rw [hcσ] at hd;cases hd
 rw [S2.one,hbσ]
 have q1:=fun Y=>S2.a1 (pr T s) Y
 rw [hpr s] at q1
 have e1:((s.i:Int)+1).toNat=s.i+1:=by omega
 have e2:((s.i:Int)+1)<T.length:=by omega
 rw [hpr s]
 simp (disch:=first|assumption|omega) only [go_sem,reduceCtorEq,Nat.reduceEqDiff,Nat.reduceAdd,Nat.reduceLeDiff,↓reduceIte,q1,hget,e1]
 refine allocC_by fun g hg=>?_
 obtain ⟨hbg,hdg,T3,S3⟩:=St3.of S2 (X0 := .obj _) hg
 have ab:=S3.ab
 have k3:=S3.s3
 have k2:=S3.s2
 have k1:=S3.s1
 have w3:=S3.a3
 have w2:=S3.a2
 have w1:=S3.a1
 have hcg:c≠g:=by
  rintro rfl
  rw [S2.other _ _ _ (Ne.symm hbc) hcd,hcσ] at hg
  cases hg
 have wc:∀ X Y Z,T3 X Y Z c=some (.obj [.int .i64 tk.kind,.str tk.text,.int .i64 tk.at',.int .i64 tk.col]):=fun X Y Z=>by rw [S3.other _ _ _ _ (Ne.symm hbc) hcd hcg];exact hcσ
 have V3:∀ X Y Z,LV (T3 X Y Z):=fun X Y Z=>S3.fix _ _ _ _ _ hVσ
 have hDr:∀ X Y Z,Drop (T3 X Y Z) (σ.set b X):=fun X Y Z=>(S3.drop _ _ _).trans (hDσ _)
 have w1':=fun Y Z=>w1 (pr T s) Y Z
 rw [hpr s] at w1'
 simp (disch:=first|assumption|omega) only [go_sem,Nat.reduceEqDiff,Nat.reduceAdd,Nat.reduceLeDiff,↓reduceIte,Bool.true_and,ab,k3,w3,w1']
 rw [<-hpr s]
 by_cases hop:tn.kind=6/\tn.text = [40]
 ·rw [if_pos hop] at h
  obtain ⟨hp1,hp2⟩:=hop
  obtain ⟨g1,g2,g3⟩:=enter_err hT.ends hf he0
  have hen:=fun Y Z=>penter_ok (T:=T) (s:=s) hf.i ⟨hf.d0,by have:=hf.d1;omega⟩ (w1 (pr T s) Y Z)
  have g4:=fun he=>enter2 hT.ends hf (by rw [hct,hcur];decide) he
  simp (disch:=first|assumption|omega) only [go_sem,reduceCtorEq,Nat.reduceEqDiff,↓reduceIte,hp1,hp2,w3]
  refine (hen _ _).mono ?_
  rintro v σ1 ⟨rfl,rfl⟩
  rw [k1]
  generalize hE:enterP T s=sE at *
  by_cases he:sE.err=0
  ·rw [if_neg (by simp [he])] at h
   cases h1:argsP T f sE.next.next with
   | none=>rw [h1] at h;cases h
   | some r1=>
     rw [h1] at h
     injection h with h
     subst h
     obtain ⟨f1,f2,f3,f4⟩:=g4 he
     have hl2:=hge2 (by omega)
     have f5:Fit T sE.next.next:=⟨by show sE.i+1+1<_;omega,f1.d0,f1.d1,f1.d2⟩
     have hw:=(hwent f).args _ _ h1 f5
     have har:=fun Y Z=>(ih f (by omega)).args b _ r1 h1 f5 _ (V3 (pr T sE.next.next) Y Z) (w1 _ _ _)
     have hlv:=fun Y Z=>pleave_ok (T:=T) (s:=r1.2) ⟨hw.fit.d0,by have:=hw.fit.d1;omega⟩ (w1 (pr T r1.2) Y Z)
     have hpn:some (Role.obj [.sl .shr (T.map tokAV),.int .i64 ((sE.i:Int)+2),.int .i64 sE.deep,.int .i64 0,.int .i64 sE.bad])=pr T sE.next.next:=by
      rw [hpr]
      show _=some (Role.obj [.sl .shr (T.map tokAV),.int .i64 (((sE.i+1+1:Nat)):Int),.int .i64 sE.deep,.int .i64 sE.err,.int .i64 sE.bad])
      rw [he,show (((sE.i+1+1:Nat)):Int)=(sE.i:Int)+2 by omega]
     have v1:=fun Y Z=>w1 (pr T sE) Y Z
     rw [hpr sE,he] at v1
     have hEi:(sE.i:Int)<=1000000:=by omega
     obtain ⟨L,s1⟩:=r1
     dsimp only at har hlv ⊢
     rw [hpr sE,he]
     simp (disch:=first|assumption|omega) only [go_sem,reduceCtorEq,Nat.reduceEqDiff,Nat.reduceAdd,Nat.reduceLeDiff,↓reduceIte,Bool.true_and,v1,k1]
     rw [hpn]
     simp (disch:=first|assumption|omega) only [go_sem,reduceCtorEq,↓reduceIte,wc]
     refine (har _ _).mono ?_
     rintro v σ1 ⟨rfl,rfl⟩
     rw [k1]
     simp (disch:=first|assumption|omega) only [go_sem,Nat.reduceEqDiff,Nat.reduceAdd,Nat.reduceLeDiff,↓reduceIte,Bool.true_and,wc,w2,k2]
     refine (hlv _ _).mono ?_
     rintro v σ1 ⟨rfl,rfl⟩
     rw [k1]
     simp (disch:=first|assumption|omega) only [go_sem,Nat.reduceAdd,Nat.reduceLeDiff,↓reduceIte,w2]
     rw [Nd.av_cs]
     exact retC_by (hDr _ _ _) (fzN 22 0 tk.text .zero .zero _ _) ⟨rfl,rfl⟩
  ·rw [if_pos he] at h
   injection h with h
   subst h
   have hlv:=fun Y Z=>pleave_ok (T:=T) (s:=sE) ⟨g1.d0,by have:=g1.d1;omega⟩ (w1 (pr T sE) Y Z)
   have v1:∀ Y Z,T3 (pr T sE) Y Z b=some (.obj [.sl .shr (T.map tokAV),.int .i64 sE.i,.int .i64 sE.deep,.int .i64 sE.err,.int .i64 sE.bad]):=fun Y Z=>w1 _ _ _
   simp (disch:=first|assumption|omega) only [go_sem,reduceCtorEq,Nat.reduceEqDiff,Nat.reduceAdd,Nat.reduceLeDiff,↓reduceIte,Bool.true_and,v1,he,w2,k2]
   refine (hlv _ _).mono ?_
   rintro v σ1 ⟨rfl,rfl⟩
   rw [k1]
   simp (disch:=first|assumption|omega) only [go_sem,Nat.reduceAdd,Nat.reduceLeDiff,↓reduceIte,w2]
   rw [zN_av]
   exact retC_by (hDr _ _ _) (fzN 0 0 [] .zero .zero _ _) ⟨rfl,rfl⟩
 ·rw [if_neg hop] at h
  have hpn:some (Role.obj [.sl .shr (T.map tokAV),.int .i64 ((s.i:Int)+1),.int .i64 s.deep,.int .i64 s.err,.int .i64 s.bad])=pr T s.next:=rfl
  have hfl:=fun τ hh=>pfail_ok (T:=T) (s:=s) hf.i 10 (σ:=τ) (b:=b) hh
  have rest:∀ a1:AFr,(a1 0 = .ptr b 0/\a1 3 = .ptr c 0/\a1 4 = .ptr d 0)->ACode.wp Tryz.prog c159_36 (RetQ [.c 4 (some 12)] fun v σ'=>v=r.1.av/\σ'=σ.set b (pr T r.2)) a1 (T3 (pr T s) (some (.obj zero12)) (some (.obj [.int .i64 tn.kind,.str tn.text,.int .i64 tn.at',.int .i64 tn.col]))):=by
   intro a1 hf1
   unfold zero12
   simp (disch:=first|assumption|omega) only [go_sem,Nat.reduceAdd,Nat.reduceLeDiff,↓reduceIte]
   refine allocC_by fun e he=>?_
   obtain ⟨T4,S4⟩:=St4.of S3 (X0 := .obj _) he
   have ab4:=S4.ab
   have m1:=S4.s1
   have m2:=S4.s2
   have m4:=S4.s4
   have p1:=S4.a1
   have p2:=S4.a2
   have p4:=S4.a4
   have hce:c≠e:=by rintro rfl;rw [wc] at he;cases he
   have pc:∀ X Y Z W,T4 X Y Z W c=some (.obj [.int .i64 tk.kind,.str tk.text,.int .i64 tk.at',.int .i64 tk.col]):=fun X Y Z W=>by rw [<-ab4,ASt.set_ne hce];exact wc _ _ _
   have hDr4:∀ X Y Z W,Drop (T4 X Y Z W) (σ.set b X):=fun X Y Z W=>(S4.drop _ _ _ _).trans (hDσ _)
   have v1:=fun Y Z W=>p1 (pr T s) Y Z W
   rw [hpr s] at v1
   by_cases t1:tk.text = [84,82,85,69]
   ·rw [if_pos t1] at h
    injection h with h
    subst h
    rw [t1] at pc
    rw [hpr s]
    simp (disch:=first|assumption|omega) only [go_sem,reduceCtorEq,Nat.reduceEqDiff,Nat.reduceAdd,Nat.reduceLeDiff,↓reduceIte,Bool.true_and,hf1,ab4,m4,p4,pc,v1,m1]
    rw [hpn]
    simp (disch:=first|assumption|omega) only [go_sem,Nat.reduceEqDiff,Nat.reduceAdd,Nat.reduceLeDiff,↓reduceIte,Bool.true_and,hf1,p2,m2]
    rw [Nd.av_cs]
    exact retC_by (hDr4 _ _ _ _) (fzN 3 1 [] .zero .zero _ _) ⟨rfl,rfl⟩
   rw [if_neg t1] at h
   by_cases t2:tk.text = [70,65,76,83,69]
   ·rw [if_pos t2] at h
    injection h with h
    subst h
    have t3:¬ ([70,65,76,83,69]:List UInt8) = [84,82,85,69]:=by decide
    rw [hpr s]
    simp (disch:=first|assumption|omega) only [go_sem,reduceCtorEq,Nat.reduceEqDiff,Nat.reduceAdd,Nat.reduceLeDiff,↓reduceIte,Bool.true_and,hf1,ab4,m4,p4,pc,t2,t3,v1,m1]
    rw [hpn]
    simp (disch:=first|assumption|omega) only [go_sem,Nat.reduceEqDiff,Nat.reduceAdd,Nat.reduceLeDiff,↓reduceIte,Bool.true_and,hf1,p2,m2]
    rw [Nd.av_cs]
    exact retC_by (hDr4 _ _ _ _) (fzN 3 0 [] .zero .zero _ _) ⟨rfl,rfl⟩
   rw [if_neg t2] at h
   injection h with h
   subst h
   simp (disch:=first|assumption|omega) only [go_sem,reduceCtorEq,Nat.reduceEqDiff,Nat.reduceAdd,Nat.reduceLeDiff,↓reduceIte,Bool.true_and,hf1,ab4,m4,p4,pc,t1,t2]
   refine (hfl _ (p1 _ _ _ _)).mono ?_
   rintro v σ1 ⟨rfl,rfl⟩
   rw [m1,zN_av,zN_cells]
   simp (disch:=first|assumption|omega) only [go_sem,Nat.reduceEqDiff,Nat.reduceAdd,Nat.reduceLeDiff,↓reduceIte,Bool.true_and,hf1,p2,m2]
   exact retC_by (hDr4 _ _ _ _) (.refl _) ⟨rfl,rfl⟩
  obtain ⟨F,hF⟩:∃ F,F=ACode.wp Tryz.prog c159_36:=⟨_,rfl⟩
  rw [<-hF] at rest
  unfold zero12 at rest
  by_cases hp1:tn.kind=6
  ·have hp2:¬ tn.text = [40]:=fun h2=>hop ⟨hp1,h2⟩
   rw [hp1] at rest
   simp (disch:=first|assumption|omega) only [go_sem,Nat.reduceEqDiff,↓reduceIte,w3,hp1,hp2,←hF]
   refine rest _ ?_
   simp (disch:=first|assumption|omega) only [go_sem,reduceCtorEq,Nat.reduceEqDiff,↓reduceIte]
  ·simp (disch:=first|assumption|omega) only [go_sem,Nat.reduceEqDiff,↓reduceIte,hp1,←hF]
   refine rest _ ?_
   simp (disch:=first|assumption|omega) only [go_sem,reduceCtorEq,Nat.reduceEqDiff,↓reduceIte]
end Go.A
