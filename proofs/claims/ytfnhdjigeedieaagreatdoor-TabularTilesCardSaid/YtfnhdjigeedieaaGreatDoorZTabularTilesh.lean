/- Part 8 of what TabularTiles leans on: Zk CodeEm Em CodeOb Ob CodeEn En CodeEo Eo Ep CodeEr Er CodeOc. -/
import Derived.Test.YtfnhdjigeedieaaGreatDoorProg
import Derived.KernelRfl
import Derived.Test.YtfnhdjigeedieaaGreatDoorZTabularTilesg
set_option linter.defProp false
set_option linter.unusedSimpArgs false
set_option linter.unusedVariables false
set_option maxRecDepth 100000
section
attribute [local go_sem] reduceCtorEq Nat.reduceEqDiff Nat.reduceAdd Nat.reduceSub Nat.reduceMul Nat.reduceLeDiff Int.reduceLT Int.reduceLE Int.reduceEq Int.reduceNeg Int.reduceAdd Int.reduceSub Int.reduceMul true_imp_iff forall_const Nat.mul_one Int.reduceToNat Nat.reducePow Int.reducePow Bool.true_and Bool.false_and Bool.and_false
attribute [local go_sem ↓] reduceIte
namespace Go.A
open Go.Proofs Go.Lib
def lexCells (s:List UInt8) (p c:Nat) (ts:List Tok) (k:SK):List AV := [.str s,.int .i64 p,.int .i64 c,.sl k (ts.map tokAV)]
def LX (σ0:ASt) (b:Nat) (s:List UInt8) (p c:Nat) (ts:List Tok) (σ:ASt):Prop:=GO σ0 b (lexCells s p c ts) (ts.map tokAV).length 4 σ
theorem LX.cell {σ0 σ:ASt} {b:Nat} {s:List UInt8} {p c:Nat} {ts:List Tok} (h:LX σ0 b s p c ts σ):∃ k,Grown (σ0.set b (some (.obj [.str s,.int .i64 p,.int .i64 c,.sl k (ts.map tokAV)]))) σ k (ts.map tokAV).length 4/\σ b=some (.obj [.str s,.int .i64 p,.int .i64 c,.sl k (ts.map tokAV)]):=by
 obtain ⟨k,hg⟩:=h
 exact ⟨k,hg,GO.cell (cs:=lexCells s p c ts) hg⟩
structure Bnd (s:List UInt8) (p c:Nat) (ts:List Tok):Prop where
 hs:s.length<=100000
 hp:p<=s.length
 hc:c<=p
 ht:ts.length<=200000
theorem take_len {s:List UInt8} {p n:Nat} (h:p+n<=s.length):((s.drop p).take n).length=n:=by simp;omega
theorem cut_eq {s:List UInt8} {p n:Nat}:(s.take (p+n)).drop p=(s.drop p).take n:=by rw [List.drop_take];congr 1;omega
set_option maxHeartbeats 1000000 in
theorem put_ok {σ0 σ:ASt} {b:Nat} {s:List UInt8} {p c:Nat} {ts:List Tok} (h:LX σ0 b s p c ts σ) (hB:Bnd s p c ts) (kind:Int) (text:List UInt8) (n:Nat) (hn:p+n<=s.length) :
  ACalls Tryz.prog 108 [.ptr b 0,.int .i64 kind,.str text,.int .i64 n] σ fun v σ'=>v = .tuple []/\LX σ0 b s (p+n) (c+signsN ((s.drop p).take n)) (ts ++ [Tok.mk kind text p c]) σ':=by
 obtain ⟨k,hg,hb⟩:=h.cell
 obtain ⟨hs,hp,hc,ht⟩:=hB
 have hm:ts.map tokAV ++ [tokAV (Tok.mk kind text p c)]=(ts ++ [Tok.mk kind text p c]).map tokAV:=by simp
 have hlen:(ts.map tokAV).length=ts.length:=by simp
 have e1:((p:Int)+n).toNat=p+n:=by omega
 have e2:=cut_eq (s:=s) (p:=p) (n:=n)
 have hsl:=signsN_le ((s.drop p).take n)
 rw [take_len hn] at hsl
 refine a108 (by simp) ?_
 simp (disch:=first|assumption|omega) only [go_sem,hb]
 refine appC_by (ys := [tokAV (Tok.mk kind text p c)]) hg rfl rfl (by simp only [hlen,List.length_cons,List.length_nil];omega) (by simp only [hlen,List.length_cons,List.length_nil];omega) fun k' σ' hg'=>?_
 rw [hm] at hg' ⊢
 have hb':=hg'.at (ASt.set_same _ _ _)
 have hg2:=hg'.obj (r' := .obj [.str s,.int .i64 p,.int .i64 c,.sl k' ((ts ++ [Tok.mk kind text p c]).map tokAV)])
 simp (disch:=first|assumption|omega) only [go_sem,hb',e1,e2]
 refine (count_ok _ (by rw [take_len hn];omega)).use ?_
 simp (disch:=first|assumption|omega) only [go_sem,ASt.set_set]
 refine retC_by (Drop.refl _) (.refl _) ⟨rfl,k',?_⟩
 exact hg'.obj (r' := .obj [.str s,.int .i64 (p+n:Nat),.int .i64 (c+signsN ((s.drop p).take n):Nat),.sl k' ((ts ++ [Tok.mk kind text p c]).map tokAV)])
theorem pass_ok {σ0 σ:ASt} {b:Nat} {s:List UInt8} {p c:Nat} {ts:List Tok} (h:LX σ0 b s p c ts σ) (hB:Bnd s p c ts) (n:Nat) (hn:p+n<=s.length) :
  ACalls Tryz.prog 153 [.ptr b 0,.int .i64 (p+n:Nat)] σ fun v σ'=>v = .tuple []/\LX σ0 b s (p+n) (c+signsN ((s.drop p).take n)) ts σ':=by
 obtain ⟨k,hg,hb⟩:=h.cell
 obtain ⟨hs,hp,hc,ht⟩:=hB
 have e1:(((p+n:Nat):Int)).toNat=p+n:=by omega
 have e2:=cut_eq (s:=s) (p:=p) (n:=n)
 have hsl:=signsN_le ((s.drop p).take n)
 rw [take_len hn] at hsl
 have e3:((p+n:Nat):Int)<=s.length:=by omega
 have e4:(p:Int)<=((p+n:Nat):Int):=by omega
 obtain ⟨q,hq⟩:∃ q,p+n=q:=⟨_,rfl⟩
 rw [hq] at e1 e2 e3 e4 ⊢
 refine a153 (by simp) ?_
 simp (disch:=first|assumption|omega) only [go_sem,hb,e1,e2]
 refine (count_ok _ (by rw [take_len hn];omega)).use ?_
 simp (disch:=first|assumption|omega) only [go_sem,hb,ASt.set_set]
 refine retC_by (Drop.refl _) (.refl _) ⟨rfl,k,?_⟩
 exact hg.obj (r' := .obj [.str s,.int .i64 q,.int .i64 (c+signsN ((s.drop p).take n):Nat),.sl k (ts.map tokAV)])
theorem dec_bd (l:List UInt8):(decodeL l).1<=1114111/\1<=(decodeL l).2:=⟨decodeL_rune l,decodeL_width l⟩
theorem sign_ok {σ0 σ:ASt} (hU:U8 σ) {b:Nat} {s:List UInt8} {p c:Nat} {ts:List Tok} (h:LX σ0 b s p c ts σ) (hB:Bnd s p c ts) (hp:p<s.length) :
  ACalls Tryz.prog 152 [.ptr b 0] σ fun v σ'=>v = .tuple [.int .i32 (if decodeL (s.drop p)=(65533,1) then 0 else (decodeL (s.drop p)).1),.int .i64 (if decodeL (s.drop p)=(65533,1) then -1 else (decodeL (s.drop p)).2)]/\σ'=σ:=by
 obtain ⟨k,hg,hb⟩:=h.cell
 obtain ⟨hs,_,hc,ht⟩:=hB
 have hne:s.drop p ≠ []:=by
  intro h
  have:=congrArg List.length h
  simp at this
  omega
 have hd:=dec_ok hU hne
 obtain ⟨⟨r,w⟩,hD⟩:∃ D,decodeL (s.drop p)=D:=⟨_,rfl⟩
 rw [hD] at hd ⊢
 dsimp only at hd ⊢
 have e1:¬ (s.length:Int)<=p:=by omega
 refine a152 (by simp) ?_
 simp (disch:=first|assumption|omega) only [go_sem,hb,e1,List.take_length]
 refine hd.mono ?_
 rintro v σ' ⟨rfl,rfl⟩
 by_cases h1:(r:Int)=65533
 ·by_cases h2:(w:Int)=1
  ·have e:(r,w)=(65533,1):=by rw [Prod.mk.injEq];omega
   rw [if_pos e,if_pos e]
   simp (disch:=first|assumption|omega) only [go_sem,h1,h2]
   exact retC_by (Drop.refl _) (.refl _) ⟨rfl,rfl⟩
  ·have e:¬ (r,w)=(65533,1):=by rw [Prod.mk.injEq];omega
   rw [if_neg e,if_neg e]
   simp (disch:=first|assumption|omega) only [go_sem,h1,h2]
   exact retC_by (Drop.refl _) (.refl _) ⟨rfl,rfl⟩
 ·have e:¬ (r,w)=(65533,1):=by rw [Prod.mk.injEq];omega
  rw [if_neg e,if_neg e]
  simp (disch:=first|assumption|omega) only [go_sem,h1]
  exact retC_by (Drop.refl _) (.refl _) ⟨rfl,rfl⟩
def After (σ0:ASt) (b:Nat) (s:List UInt8) (p c:Nat) (ts:List Tok):Step->AV->ASt->Prop
 | .bad k,v,σ'=>v = .int .i64 10/\∃ c',LX σ0 b s (p+k) c' ts σ'
 | .blank,v,σ'=>v = .int .i64 0/\LX σ0 b s (p+1) (c+1) ts σ'
 | .tok kind t n,v,σ'=>v = .int .i64 0/\LX σ0 b s (p+n) (c+signsN ((s.drop p).take n)) (ts ++ [⟨kind,t,p,c⟩]) σ'
set_option maxHeartbeats 1000000 in
theorem words_ok {σ0 σ:ASt} {b:Nat} {s:List UInt8} {p c:Nat} {ts:List Tok} (h:LX σ0 b s p c ts σ) (hB:Bnd s p c ts) :
  ACalls Tryz.prog 155 [.ptr b 0] σ fun v σ'=>After σ0 b s p c ts (wordsS (s.drop p)) v σ':=by
 obtain ⟨k,hg,hb⟩:=h.cell
 have hB':=hB
 obtain ⟨hs,hp,hc,ht⟩:=hB
 have hrl:=runL_le wordB (s.drop p)
 obtain ⟨st,hst⟩:∃ st,wordsS (s.drop p)=st:=⟨_,rfl⟩
 rw [hst]
 unfold wordsS at hst
 dsimp only at hst
 obtain ⟨n,hn⟩:∃ n,runL wordB (s.drop p)=n:=⟨_,rfl⟩
 rw [hn] at hst hrl
 rw [List.length_drop] at hrl
 have hwl:((s.drop p).take n).length=n:=take_len (by omega)
 obtain ⟨w,hw⟩:∃ w,(s.drop p).take n=w:=⟨_,rfl⟩
 rw [hw] at hst hwl
 have i1:=isNum_ok w (by omega)
 have i2:=isRef_ok w (by omega)
 have i3:=isName_ok w (by omega)
 have i4:=tgreat_ok w (by omega)
 have P1:=fun kind text=>put_ok h hB' kind text n (by omega)
 refine a155 (by simp) ?_
 obtain ⟨F,hF⟩:∃ F,F=ACode.wp Tryz.prog c155_29:=⟨_,rfl⟩
 simp (disch:=first|assumption|omega) only [go_sem,←hF]
 refine wLq (fun (i:Nat) a σ'=>i<=n/\i+runL wordB (s.drop (p+i))=n/\(a 0 = .ptr b 0/\a 3 = .int .i64 i)/\σ'=σ) (fun i=>n-i) 0 ⟨Nat.zero_le _,by rw [Nat.add_zero,Nat.zero_add];exact hn,?_,rfl⟩ ?_
 ·simp (disch:=first|assumption|omega) only [go_sem]
 rintro i a σ1 ⟨hi,hrun,hf,rfl⟩
 have fin:i=n->∀ a:AFr,(a 0 = .ptr b 0/\a 3 = .int .i64 i)->F (RetQ [.t 2] fun v σ'=>After σ0 b s p c ts st v σ') a σ1:=by
  rintro rfl a hf
  have e1:((p:Int)+i).toNat=p+i:=by omega
  have e2:(s.take (p+i)).drop p=w:=by rw [cut_eq,hw]
  rw [hF]
  simp (disch:=first|assumption|omega) only [go_sem,hf,hb,e1,e2]
  refine i1.use ?_
  cases hnum:numB w with
  | true=>
    rw [hnum,if_pos rfl] at hst
    subst hst
    simp (disch:=first|assumption|omega) only [go_sem,hf]
    refine (P1 1 w).mono ?_
    rintro v σ' ⟨rfl,hL⟩
    simp (disch:=first|assumption|omega) only [go_sem]
    exact retC_by (Drop.refl _) (.refl _) ⟨rfl,hL⟩
  | false=>
  rw [hnum,if_neg (by simp)] at hst
  simp (disch:=first|assumption|omega) only [go_sem]
  refine i2.use ?_
  cases href:refB w with
  | true=>
    rw [href,if_pos rfl] at hst
    subst hst
    simp (disch:=first|assumption|omega) only [go_sem,hf]
    refine i4.use ?_
    simp (disch:=first|assumption|omega) only [go_sem,hf]
    refine (P1 4 (greatP w)).mono ?_
    rintro v σ' ⟨rfl,hL⟩
    simp (disch:=first|assumption|omega) only [go_sem]
    exact retC_by (Drop.refl _) (.refl _) ⟨rfl,hL⟩
  | false=>
  rw [href,if_neg (by simp)] at hst
  simp (disch:=first|assumption|omega) only [go_sem]
  refine i3.use ?_
  cases hnam:nameB w with
  | true=>
    rw [hnam,if_pos rfl] at hst
    subst hst
    simp (disch:=first|assumption|omega) only [go_sem,hf]
    refine i4.use ?_
    simp (disch:=first|assumption|omega) only [go_sem,hf]
    refine (P1 3 (greatP w)).mono ?_
    rintro v σ' ⟨rfl,hL⟩
    simp (disch:=first|assumption|omega) only [go_sem]
    exact retC_by (Drop.refl _) (.refl _) ⟨rfl,hL⟩
  | false=>
    rw [hnam,if_neg (by simp)] at hst
    subst hst
    simp (disch:=first|assumption|omega) only [go_sem]
    exact retC_by (Drop.refl _) (.refl _) ⟨rfl,c,h⟩
 by_cases hlt:p+i<s.length
 ·have hidx : s[p + i]? = some (s[p + i]'hlt) := List.getElem?_eq_getElem hlt
  obtain ⟨d, hd⟩ : ∃ d, s[p + i]'hlt = d := ⟨_, rfl⟩
  rw [hd] at hidx
  have e3:((p:Int)+i)<s.length:=by omega
  have e4:((p:Int)+i).toNat=p+i:=by omega
  rw [List.drop_eq_getElem_cons hlt,hd,runL] at hrun
  simp (disch:=first|assumption|omega) only [go_sem,hf,hb,e3,e4,hidx]
  refine (word_ok d).use ?_
  cases hwd:wordB d with
  | true=>
    rw [hwd,if_pos rfl] at hrun
    simp (disch:=first|assumption|omega) only [go_sem,hf]
    exact ⟨i+1,by omega,by omega,by rw [<-Nat.add_assoc];omega,rfl⟩
  | false=>
    rw [hwd,if_neg (by simp)] at hrun
    simp (disch:=first|assumption|omega) only [go_sem]
    refine fin (by omega) _ ?_
    simp (disch:=first|assumption|omega) only [go_sem,hf]
 ·have e:s.drop (p+i) = []:=List.drop_eq_nil_of_le (by omega)
  rw [e,runL] at hrun
  have e3:¬ ((p:Int)+i)<s.length:=by omega
  simp (disch:=first|assumption|omega) only [go_sem,hf,hb,e3]
  refine fin (by omega) _ ?_
  simp (disch:=first|assumption|omega) only [go_sem,hf]
end Go.A
namespace Go.A
open Go.Proofs Go.Lib
theorem errTexts_len:∀ e∈errTexts,1<=e.length/\e.length<=7:=by decide
set_option maxHeartbeats 1000000 in
theorem lfail_ok {σ0 σ:ASt} {b:Nat} {s:List UInt8} {p c:Nat} {ts:List Tok} (h:LX σ0 b s p c ts σ) (hB:Bnd s p c ts) :
  ACalls Tryz.prog 157 [.ptr b 0] σ fun v σ'=>After σ0 b s p c ts (failS (s.drop p) errTexts) v σ':=by
 obtain ⟨k,hg,hb⟩:=h.cell
 have hB':=hB
 obtain ⟨hs,hp,hc,ht⟩:=hB
 obtain ⟨st,hst⟩:∃ st,failS (s.drop p) errTexts=st:=⟨_,rfl⟩
 rw [hst]
 have hE:=errTexts_len
 have herr:=errs_ok
 obtain ⟨E,hE2⟩:∃ E,errTexts=E:=⟨_,rfl⟩
 have hEl:E.length=7:=by rw [<-hE2];rfl
 rw [hE2] at hst hE herr
 clear hE2
 refine a157 (by simp) ?_
 simp (disch:=first|assumption|omega) only [go_sem]
 refine herr.use ?_
 simp (disch:=first|assumption|omega) only [go_sem,hEl]
 refine wLq (fun (i:Nat) a σ'=>i<=7/\failS (s.drop p) (E.drop i)=st/\(a 0 = .ptr b 0/\a 6 = .sl .full (E.map AV.str)/\a 7 = .int .i64 7/\a 8 = .int .i64 i)/\σ'=σ) (fun i=>7-i) 0 ⟨Nat.zero_le _,hst,?_,rfl⟩ ?_
 ·simp (disch:=first|assumption|omega) only [go_sem]
 rintro i a σ1 ⟨hi,hst,hf,rfl⟩
 by_cases hlt:i<7
 ·have hlt':(i:Int)<7:=by omega
  have hidx0 : E[i]? = some (E[i]'(by omega)) := List.getElem?_eq_getElem (by omega)
  obtain ⟨h1,h2⟩:=hE _ (List.getElem_mem (by omega:i<E.length))
  rw [List.drop_eq_getElem_cons (by omega:i<E.length),failS] at hst
  obtain ⟨e, he⟩ : ∃ e, E[i]'(by omega) = e := ⟨_, rfl⟩
  rw [he] at hidx0 hst h1 h2
  have hidx:(E.map AV.str)[i]? = some (.str e):=by rw [List.getElem?_map,hidx0];rfl
  rw [List.length_drop] at hst
  by_cases hfit:p+e.length<=s.length
  ·have e1:(p:Int)+e.length<=s.length:=by omega
   have e2:((p:Int)+e.length).toNat=p+e.length:=by omega
   have e3:=cut_eq (s:=s) (p:=p) (n:=e.length)
   have hgr:=tgreat_ok ((s.drop p).take e.length) (by rw [take_len hfit];omega)
   simp (disch:=first|assumption|omega) only [go_sem,hf,hb,hlt',hidx,e1,e2,e3]
   refine hgr.use ?_
   by_cases heq:greatP ((s.drop p).take e.length)=e
   ·rw [if_pos ⟨by omega,heq⟩] at hst
    subst hst
    simp (disch:=first|assumption|omega) only [go_sem,hf,heq]
    refine (put_ok h hB' 5 e e.length hfit).mono ?_
    rintro v σ' ⟨rfl,hL⟩
    simp (disch:=first|assumption|omega) only [go_sem]
    exact retC_by (Drop.refl _) (.refl _) ⟨rfl,hL⟩
   ·rw [if_neg (by rintro ⟨_,h⟩;exact heq h)] at hst
    simp (disch:=first|assumption|omega) only [go_sem,hf,heq]
    refine ⟨i+1,by omega,by omega,hst,rfl⟩
  ·have e1:¬ (p:Int)+e.length<=s.length:=by omega
   rw [if_neg (by rintro ⟨h,_⟩;omega)] at hst
   simp (disch:=first|assumption|omega) only [go_sem,hf,hb,hlt',hidx,e1]
   refine ⟨i+1,by omega,by omega,hst,rfl⟩
 ·have hlt':¬ (i:Int)<7:=by omega
  rw [List.drop_eq_nil_of_le (show E.length<=i by omega),failS] at hst
  subst hst
  simp (disch:=first|assumption|omega) only [go_sem,hf,hlt']
  exact retC_by (Drop.refl _) (.refl _) ⟨rfl,c,h⟩
theorem mem_index (c:UInt8):∀ l:List UInt8,(-1<=indexByte l c)/\(0<=indexByte l c↔c∈l)
 | []=>by simp [indexByte]
 | x::l=>by
   obtain ⟨h1,h2⟩:=mem_index c l
   unfold indexByte
   by_cases hx:x=c
   ·subst hx;simp
   ·have hx':¬ (x==c)=true:=by simpa using hx
    rw [if_neg hx']
    by_cases hm:indexByte l c = -1
    ·rw [if_pos (by simpa using hm)]
     refine ⟨by omega,?_⟩
     simp only [List.mem_cons,← h2,hm]
     constructor
     ·intro h;omega
     ·rintro (h|h)
      ·exact absurd h.symm hx
      ·omega
    ·rw [if_neg (by simpa using hm)]
     refine ⟨by omega,?_⟩
     simp only [List.mem_cons,← h2]
     constructor
     ·intro h;right;omega
     ·rintro (h|h)
      ·exact absurd h.symm hx
      ·omega
theorem twos_len:∀ e∈twos,e.length=2:=by decide
set_option maxHeartbeats 1000000 in
theorem op_ok {σ0 σ:ASt} {b:Nat} {s:List UInt8} {p c:Nat} {ts:List Tok} (h:LX σ0 b s p c ts σ) (hB:Bnd s p c ts) (hp1:p<s.length) (r:Int) (n:Nat) (hn:p+n<=s.length) :
  ACalls Tryz.prog 158 [.ptr b 0,.int .i32 r,.int .i64 n] σ fun v σ'=>After σ0 b s p c ts (opS r n (s.drop p)) v σ':=by
 obtain ⟨k,hg,hb⟩:=h.cell
 have hB':=hB
 obtain ⟨hs,hp,hc,ht⟩:=hB
 obtain ⟨st,hst⟩:∃ st,opS r n (s.drop p)=st:=⟨_,rfl⟩
 rw [hst]
 unfold opS at hst
 have hal:=alike_ok r
 obtain ⟨A,hA⟩:∃ A,alikeP r=A:=⟨_,rfl⟩
 rw [hA] at hst hal
 obtain ⟨F,hF⟩:∃ F,F=ACode.wp Tryz.prog c158_39:=⟨_,rfl⟩
 refine a158 (by simp) ?_
 simp (disch:=first|assumption|omega) only [go_sem]
 refine hal.use ?_
 by_cases hA0:A = []
 ·subst hA0
  rw [if_neg (by simp)] at hst
  have hE:=twos_len
  obtain ⟨E,hE2⟩:∃ E,twos=E:=⟨_,rfl⟩
  have hEl:E.length=3:=by rw [<-hE2];rfl
  have hEm:E.map AV.str = [AV.str [60,61],AV.str [62,61],AV.str [60,62]]:=by rw [<-hE2];rfl
  rw [hE2] at hst hE
  simp (disch:=first|assumption|omega) only [go_sem,←hF]
  refine wLq (fun (i:Nat) a σ'=>i<=3/\(match twoS (s.drop p) (E.drop i) with|some e=>Step.tok 6 e 2|none=>if ((s.drop p).headD 0)∈opChars then .tok 6 ((s.drop p).take 1) 1 else .bad 0)=st/\(a 0 = .ptr b 0/\a 18 = .sl .full (E.map AV.str)/\a 19 = .int .i64 3/\a 20 = .int .i64 i)/\σ'=σ) (fun i=>3-i) 0 ⟨Nat.zero_le _,hst,?_,rfl⟩ ?_
  ·simp (disch:=first|assumption|omega) only [go_sem,hEm]
  rintro i a σ1 ⟨hi,hst,hf,rfl⟩
  by_cases hlt:i<3
  ·have hlt':(i:Int)<3:=by omega
   have hidx0 : E[i]? = some (E[i]'(by omega)) := List.getElem?_eq_getElem (by omega)
   have h2:=hE _ (List.getElem_mem (by omega:i<E.length))
   rw [List.drop_eq_getElem_cons (by omega:i<E.length),twoS] at hst
   obtain ⟨e, he⟩ : ∃ e, E[i]'(by omega) = e := ⟨_, rfl⟩
   rw [he] at hidx0 hst h2
   have hidx:(E.map AV.str)[i]? = some (.str e):=by rw [List.getElem?_map,hidx0];rfl
   have hpr:=prefix_ok (s.drop p) e (by simp;omega) (by omega)
   simp (disch:=first|assumption|omega) only [go_sem,hf,hb,hlt',hidx,List.take_length]
   refine hpr.use ?_
   cases hpe:e.isPrefixOf (s.drop p) with
   | true=>
     rw [hpe,if_pos rfl] at hst
     dsimp only at hst
     subst hst
     have hle:2<=(s.drop p).length:=by
      have:=(List.isPrefixOf_iff_prefix.1 hpe).length_le
      omega
     rw [List.length_drop] at hle
     simp (disch:=first|assumption|omega) only [go_sem,hf]
     refine (put_ok h hB' 6 e 2 (by omega)).mono ?_
     rintro v σ' ⟨rfl,hL⟩
     simp (disch:=first|assumption|omega) only [go_sem]
     exact retC_by (Drop.refl _) (.refl _) ⟨rfl,hL⟩
   | false=>
     rw [hpe,if_neg (by simp)] at hst
     simp (disch:=first|assumption|omega) only [go_sem,hf]
     exact ⟨i+1,by omega,by omega,hst,rfl⟩
  ·have hlt':¬ (i:Int)<3:=by omega
   rw [List.drop_eq_nil_of_le (show E.length<=i by omega),twoS] at hst
   dsimp only at hst
   have hidx : s[p]? = some (s[p]'hp1) := List.getElem?_eq_getElem hp1
   obtain ⟨d, hd⟩ : ∃ d, s[p]'hp1 = d := ⟨_, rfl⟩
   rw [hd] at hidx
   have hdr:s.drop p=d::s.drop (p+1):=by rw [List.drop_eq_getElem_cons hp1,hd]
   rw [hdr] at hst
   have hst:(if d∈opChars then Step.tok 6 [d] 1 else Step.bad 0)=st:=hst
   have hcon:=contains_ok opChars d
   obtain ⟨_,hmi⟩:=mem_index d opChars
   have hbb:UInt8.ofNat d.toNat=d:=by simp
   simp (disch:=first|assumption|omega) only [go_sem,hf,hlt']
   rw [hF]
   simp (disch:=first|assumption|omega) only [go_sem,hf,hb,hidx,hbb]
   refine hcon.use ?_
   by_cases hm:d∈opChars
   ·rw [if_pos hm] at hst
    subst hst
    have e0:=hmi.2 hm
    have e1:((p:Int)+1).toNat=p+1:=by omega
    have e2:(s.take (p+1)).drop p = [d]:=by rw [cut_eq (n:=1),hdr];rfl
    simp (disch:=first|assumption|omega) only [go_sem,hf,hb,e0,e1,e2]
    refine (put_ok h hB' 6 [d] 1 (by omega)).mono ?_
    rintro v σ' ⟨rfl,hL⟩
    simp (disch:=first|assumption|omega) only [go_sem]
    exact retC_by (Drop.refl _) (.refl _) ⟨rfl,hL⟩
   ·rw [if_neg hm] at hst
    subst hst
    have e0:¬ 0<=indexByte opChars d:=fun h=>hm (hmi.1 h)
    simp (disch:=first|assumption|omega) only [go_sem,e0]
    exact retC_by (Drop.refl _) (.refl _) ⟨rfl,c,h⟩
 ·rw [if_pos hA0] at hst
  subst hst
  simp (disch:=first|assumption|omega) only [go_sem,hA0]
  refine (put_ok h hB' 6 A n hn).mono ?_
  rintro v σ' ⟨rfl,hL⟩
  simp (disch:=first|assumption|omega) only [go_sem]
  exact retC_by (Drop.refl _) (.refl _) ⟨rfl,hL⟩
end Go.A
namespace Go.A
open Go.Proofs Go.Lib
theorem dec_len (l:List UInt8) (hv:decodeL l≠(65533,1)):runeLen ((decodeL l).1:Int)=((decodeL l).2:Int):=by
 rw [decodeL_N] at hv ⊢
 have k0:=(l.getD 0 0).toNat_lt
 have k1:=(l.getD 1 0).toNat_lt
 have k2:=(l.getD 2 0).toNat_lt
 have k3:=(l.getD 3 0).toNat_lt
 unfold runeLen
 rcases decodeN_shape l.length (l.getD 0 0).toNat (l.getD 1 0).toNat (l.getD 2 0).toNat (l.getD 3 0).toNat with ⟨c,e⟩|⟨c1,c2,c3,cv,e⟩|⟨c1,c2,c3,c4,cv,cs,e⟩|⟨c1,c2,c3,c4,c5,cv,cw,e⟩|e
 all_goals (rw [e] at hv ⊢;dsimp only at hv ⊢)
 all_goals (try (exact absurd rfl hv))
 all_goals (repeat' split)
 all_goals omega
theorem dec_rune (l:List UInt8):RuneOk ((decodeL l).1:Int):=by
 rw [decodeL_N]
 have k0:=(l.getD 0 0).toNat_lt
 have k1:=(l.getD 1 0).toNat_lt
 have k2:=(l.getD 2 0).toNat_lt
 have k3:=(l.getD 3 0).toNat_lt
 unfold RuneOk
 rcases decodeN_shape l.length (l.getD 0 0).toNat (l.getD 1 0).toNat (l.getD 2 0).toNat (l.getD 3 0).toNat with ⟨c,e⟩|⟨c1,c2,c3,cv,e⟩|⟨c1,c2,c3,c4,cv,cs,e⟩|⟨c1,c2,c3,c4,c5,cv,cw,e⟩|e
 all_goals (rw [e];dsimp only;omega)
theorem dec_ascii {l:List UInt8} (h0:l ≠ []) (h:(decodeL l).1<128):∃ c t,l=c::t/\c.toNat=(decodeL l).1/\(decodeL l).2=1:=by
 cases l with
 | nil=>exact absurd rfl h0
 | cons c t=>
   refine ⟨c,t,rfl,?_⟩
   rw [decodeL_N] at h ⊢
   have k0:=((c::t).getD 0 0).toNat_lt
   have hc:((c::t).getD 0 0)=c:=rfl
   rcases decodeN_shape (c::t).length ((c::t).getD 0 0).toNat ((c::t).getD 1 0).toNat ((c::t).getD 2 0).toNat ((c::t).getD 3 0).toNat with ⟨c,e⟩|⟨c1,c2,c3,cv,e⟩|⟨c1,c2,c3,c4,cv,cs,e⟩|⟨c1,c2,c3,c4,c5,cv,cw,e⟩|e
   ·rw [e];exact ⟨rfl,rfl⟩
   all_goals (rw [e] at h;dsimp only at h;omega)
theorem dec_one (c:UInt8) (t:List UInt8) (h:c.toNat<128):decodeL (c::t)=(c.toNat,1):=by
 rw [decodeL_N]
 unfold decodeN
 rw [if_pos (show ((c::t).getD 0 0).toNat<128 from h)]
 rfl
theorem U8.over {τ σ:ASt} (h:U8 τ) (ho:Over τ σ):U8 σ:=⟨ho.at h.1,ho.at h.2⟩
theorem quotedF_nil:∀ k p acc,quotedF k [] p acc = .bad 0
 | 0,_,_=>rfl
 | _+1,_,_=>by unfold quotedF;rw [if_pos rfl]
theorem enc_le (r:Int):(encodeRune r).length<=4:=enc_len r
set_option maxHeartbeats 2000000 in
theorem quoted_ok {σ0 τ:ASt} (hU:U8 τ) {b:Nat} {s:List UInt8} {p c:Nat} {ts:List Tok} (h:LX σ0 b s p c ts τ) (hB:Bnd s p c ts) (hp1:p<s.length) :
  ACalls Tryz.prog 156 [.ptr b 0] τ fun v σ'=>After σ0 b s p c ts (quotedF (s.drop p).length (s.drop (p+1)) 0 []) v σ':=by
 obtain ⟨k0,hg0,hb⟩:=h.cell
 have hB':=hB
 obtain ⟨hs,hp,hc,ht⟩:=hB
 obtain ⟨st,hst⟩:∃ st,quotedF (s.drop p).length (s.drop (p+1)) 0 []=st:=⟨_,rfl⟩
 rw [hst]
 obtain ⟨body,hbody⟩:∃ body,s.drop (p+1)=body:=⟨_,rfl⟩
 have hbl:body.length=s.length-(p+1):=by rw [<-hbody];simp
 have hdrop:∀ q,s.drop (p+1+q)=body.drop q:=fun q=>by rw [<-hbody,List.drop_drop]
 have hget:∀ q,s[p+1+q]? = body[q]? := fun q=>by rw [<-hbody,List.getElem?_drop]
 rw [hbody] at hst
 obtain ⟨F,hF⟩:∃ F,F=ACode.wp Tryz.prog c156_63:=⟨_,rfl⟩
 refine a156 (by simp) ?_
 simp (disch:=first|assumption|omega) only [go_sem]
 refine allocTC_by fun bB hbB=>?_
 have nb:=ne_of_role hb hbB
 obtain ⟨nb1,nb2⟩:=nb
 have e1:((p:Int)+1).toNat=p+1:=by omega
 simp (disch:=first|assumption|omega) only [go_sem,hb,e1,hbody,List.take_length,←hF]
 refine rngC_by fun it hit=>?_
 obtain ⟨ni1,ni2,hit0⟩:=set_none hit
 obtain ⟨nt1,nt2⟩:=ne_of_role hb hit0
 have hbase:∀ r:Role,(τ.set it (some r)) bB=none:=fun r=>by rw [ASt.set_ne ni2];exact hbB
 have fin:∀ (q:Nat) (acc:List UInt8) (a:AFr) (σ:ASt),q<=body.length->acc.length<=4*q+4->BD (τ.set it (some (.iter body q))) bB acc σ →
   ((st = .bad 0/\a 4 = .bool true)\/(st = .tok 2 acc (q+1)/\q+1<=body.length+1/\a 4 = .bool false/\a 5 = .int .i64 (q+1:Nat)))->(a 0 = .ptr b 0/\a 3 = .ptr bB 0) →
   F (RetQ [.t 2] fun v σ'=>After σ0 b s p c ts st v σ') a σ:=by
  intro q acc a σ hq hacc hW hcase hf
  have hov:Over τ σ:=(Over.set it _ .refl hit0).trans (hW.over (hbase _))
  rw [hF]
  rcases hcase with ⟨rfl,h4⟩|⟨rfl,hq1,h4,h5⟩
  ·simp (disch:=first|assumption|omega) only [go_sem,h4]
   exact retC_by hov.drop (.refl _) ⟨rfl,c,h⟩
  ·obtain ⟨σ0',hL,_,hback⟩:=GO.over h hov
   have hstr:=bstring_ok hW (by omega)
   simp (disch:=first|assumption|omega) only [go_sem,hf,h4]
   refine hstr.mono ?_
   rintro v σ' ⟨rfl,rfl⟩
   simp (disch:=first|assumption|omega) only [go_sem,h5]
   refine (put_ok hL hB' 2 acc (q+1) (by omega)).mono ?_
   rintro v σ' ⟨rfl,hL2⟩
   obtain ⟨σ'',hd,hL3⟩:=hback _ _ _ hL2
   simp (disch:=first|assumption|omega) only [go_sem]
   exact retC_by hd (.refl _) ⟨rfl,hL3⟩
 have hst0:BD (τ.set it (some (.iter body 0))) bB [] ((τ.set bB (some (.typ 149 [.pointer none,.slice none 0 0]))).set it (some (.iter body 0))) := .inl ⟨rfl,set_swap ni2⟩
 simp (disch:=first|assumption|omega) only [go_sem]
 refine wLq (fun (i:Nat×List UInt8×Bool) a σ'=>i.1<=body.length/\i.2.1.length<=4*i.1+4/\BD (τ.set it (some (.iter body i.1))) bB i.2.1 σ' ∧
   (i.2.2=false->a 5 = .int .i64 (i.1+1:Nat)/\∃ k,(body.drop i.1).length<=k/\quotedF k (body.drop i.1) i.1 i.2.1=st) ∧
   (i.2.2=true->body[i.1]? = some 34/\a 5 = .int .i64 (i.1+2:Nat)/\∃ k,(body.drop (i.1+1)).length<=k/\quotedF k (body.drop (i.1+1)) (i.1+1) i.2.1=st) ∧
   (a 0 = .ptr b 0/\a 3 = .ptr bB 0/\a 4 = .bool true/\a 21 = .ptr it 0))
  (fun i=>body.length-i.1) (0,[],false) ⟨Nat.zero_le _,by simp,hst0,fun _=>⟨?_,_,?_,hst⟩,fun h=>(by cases h),?_⟩ ?_
 ·simp (disch:=first|assumption|omega) only [go_sem]
 ·simp;omega
 ·simp (disch:=first|assumption|omega) only [go_sem]
 rintro ⟨q,acc,skip⟩ a σ ⟨hq,hacc,hW,hns,hsk,hf⟩
 dsimp only at hq hacc hW hns hsk
 obtain ⟨-,hitr⟩:=hW.iter (r' := .iter body q) ni1
 have hov:Over τ σ:=(Over.set it _ .refl hit0).trans (hW.over (hbase _))
 have hbs:=hov.at hb
 by_cases hlt:q<body.length
 ·have hne:body.drop q ≠ []:=by
   intro h
   have:=congrArg List.length h
   simp at this
   omega
  obtain ⟨⟨r,w⟩,hD⟩:∃ D,decodeL (body.drop q)=D:=⟨_,rfl⟩
  have hD2:Utf8.decode ⟨⟨body⟩⟩ q=(r,w):=by rw [<-hD];exact (decodeL_drop ⟨⟨body⟩⟩ q).symm
  have hDrop:decodeL (s.drop (p+1+q))=(r,w):=by rw [hdrop];exact hD
  have hwle:=decodeL_le (body.drop q) hne
  have hbd:=dec_bd (body.drop q)
  have hrk:=dec_rune (body.drop q)
  rw [hD] at hwle hbd hrk
  dsimp only at hwle hbd hrk
  rw [List.length_drop] at hwle
  obtain ⟨hW2, -⟩:=hW.iter (r' := .iter body (q+w)) ni1
  have hov2:Over τ (σ.set it (some (.iter body (q+w)))):=(Over.set it _ .refl hit0).trans (hW2.over (hbase _))
  have hb2:=hov2.at hb
  simp (disch:=first|assumption|omega) only [go_sem,hf,hitr]
  refine nxt_more hlt ?_
  rw [hD2]
  cases skip with
  | true=>
    obtain ⟨h34,h5,kk,hk1,hk2⟩:=hsk rfl
    have hd34:body.drop q=34::body.drop (q+1):=by
     rw [List.drop_eq_getElem_cons hlt]
     rw [List.getElem?_eq_getElem hlt] at h34
     injection h34 with h34
     rw [h34]
    have hw1:(r,w)=(34,1):=by
     rw [<-hD,hd34]
     exact dec_one 34 _ (by decide)
    injection hw1 with hr1 hw1
    subst hr1 hw1
    have e2:(q:Int)+1<(q+2:Nat):=by omega
    simp (disch:=first|assumption|omega) only [go_sem,hf,h5]
    exact ⟨(q+1,acc,false),by dsimp only;omega,by dsimp only;omega,by dsimp only;omega,hW2,fun _=>⟨rfl,kk,hk1,hk2⟩,fun h=>(by cases h)⟩
  | false=>
    obtain ⟨h5,kk,hk1,hk2⟩:=hns rfl
    have e2:¬ (q:Int)+1<(q+1:Nat):=by omega
    have e3:(p:Int)+1+q=(p+1+q:Nat):=by omega
    cases kk with
    | zero=>simp at hk1;omega
    | succ kk=>
    rw [quotedF,if_neg hne,hD] at hk2
    dsimp only at hk2
    rw [List.length_drop] at hk1
    have hlen:decodeL (body.drop q)≠(65533,1)->runeLen (r:Int)=w:=fun hv=>by
     have:=dec_len (body.drop q) hv
     rw [hD] at this
     exact this
    have hasc:=dec_ascii hne
    rw [hD] at hasc hlen
    dsimp only at hasc
    have hel:=enc_le (r:Int)
    obtain ⟨G,hG⟩:∃ F,F=ACode.wp Tryz.prog c156_43:=⟨_,rfl⟩
    have step:(r,w)≠(65533,1)->∀ (Q:APost) (a:AFr),(a 0 = .ptr b 0/\a 3 = .ptr bB 0/\a 4 = .bool true/\a 6 = .int .i64 q/\a 7 = .int .i32 r/\a 8 = .int .i64 (p+1+q:Nat)/\a 21 = .ptr it 0) →
      (∀ a' σ',(a' 0 = .ptr b 0/\a' 3 = .ptr bB 0/\a' 4 = .bool false/\a' 5 = .int .i64 (q+1+1:Nat))->BD (τ.set it (some (.iter body (q+1)))) bB acc σ'->st = .tok 2 acc (q+1+1)->Q (.exit 0) a' σ') →
      (∀ a' σ' q' acc' skip',q<q'->q'<=body.length->acc'.length<=4*q'+4->BD (τ.set it (some (.iter body q'))) bB acc' σ' →
       (skip'=false->a' 5 = .int .i64 (q'+1:Nat)/\∃ k,(body.drop q').length<=k/\quotedF k (body.drop q') q' acc'=st) →
       (skip'=true->body[q']? = some 34/\a' 5 = .int .i64 (q'+2:Nat)/\∃ k,(body.drop (q'+1)).length<=k/\quotedF k (body.drop (q'+1)) (q'+1) acc'=st) →
       (a' 0 = .ptr b 0/\a' 3 = .ptr bB 0/\a' 4 = .bool true/\a' 21 = .ptr it 0)->Q (.exit 1) a' σ') →
      G Q a (σ.set it (some (.iter body (q+w)))):=by
     intro hv Q a hf hQ0 hQ1
     rw [if_neg hv] at hk2
     have hlen:=hlen hv
     rw [hG]
     by_cases h34:(r:Int)=34
     ·have hr34:r=34:=by omega
      rw [if_neg (by simpa using hr34)] at hk2
      obtain ⟨d,t,hdt,hdc,hw1⟩:=hasc (by omega)
      subst hw1
      have hq1:(body.drop q)[1]? = body[q+1]? := by rw [List.getElem?_drop]
      rw [hq1] at hk2
      have hg1:=hget (q+1)
      obtain ⟨P,hP⟩:∃ P,p+1+(q+1)=P:=⟨_,rfl⟩
      have e4:((p:Int)+1+q+1).toNat=P:=by omega
      rw [hP] at hg1
      by_cases h2:body[q+1]? = some 34
      ·rw [if_pos h2] at hk2
       have hlt2:=(List.getElem?_eq_some_iff.1 h2).1
       rw [h2] at hg1
       have e5:(p:Int)+1+q+1<s.length:=by omega
       have e6:((UInt8.toNat 34:Nat):Int)=34:=rfl
       simp (disch:=first|assumption|omega) only [go_sem,hf,hb2,h34,e4,e5,e6,hg1]
       refine (writeByte_ok hW2 34 (by omega)).mono ?_
       rintro v σ' ⟨rfl,hW3⟩
       simp (disch:=first|assumption|omega) only [go_sem,hf]
       refine hQ1 _ _ (q+1) (acc ++ [34]) true (by omega) (by omega) (by simp;omega) hW3 (fun h=>by cases h) (fun _=>⟨h2,?_,kk,?_,?_⟩) ?_
       ·simp (disch:=first|assumption|omega) only [go_sem]
        rfl
       ·simp;omega
       ·rw [List.drop_drop] at hk2
        exact hk2
       ·simp (disch:=first|assumption|omega) only [go_sem,hf]
      ·rw [if_neg h2] at hk2
       by_cases hlt2:q+1<body.length
       ·have e5:(p:Int)+1+q+1<s.length:=by omega
        have hx : body[q + 1]? = some (body[q + 1]'hlt2) := List.getElem?_eq_getElem hlt2
        obtain ⟨x, hxe⟩ : ∃ x, body[q + 1]'hlt2 = x := ⟨_, rfl⟩
        rw [hxe] at hx
        rw [hx] at hg1 h2
        have hx34:¬ (x.toNat:Int)=34:=by
         intro h
         apply h2
         congr 1
         apply UInt8.toNat_inj.1
         have:x.toNat=34:=by omega
         simpa using this
        simp (disch:=first|assumption|omega) only [go_sem,hf,hb2,h34,e4,e5,hg1,hx34]
        refine hQ0 _ _ ?_ hW2 hk2.symm
        simp (disch:=first|assumption|omega) only [go_sem,hf]
        rfl
       ·have e5:¬ (p:Int)+1+q+1<s.length:=by omega
        simp (disch:=first|assumption|omega) only [go_sem,hf,hb2,h34,e5]
        refine hQ0 _ _ ?_ hW2 hk2.symm
        simp (disch:=first|assumption|omega) only [go_sem,hf]
        rfl
     ·have hr34:r≠34:=by omega
      rw [if_pos hr34] at hk2
      clear hasc
      simp (disch:=first|assumption|omega) only [go_sem,hf,h34]
      refine (writeRune_ok hW2 hrk (by omega)).mono ?_
      rintro v σ' hW3
      simp (disch:=first|assumption|omega) only [go_sem,hf]
      refine (runeLen_ok r).use ?_
      rw [hlen]
      simp (disch:=first|assumption|omega) only [go_sem]
      refine hQ1 _ _ (q+w) (acc++encodeRune r) false (by omega) (by omega) (by simp;omega) hW3 (fun _=>⟨?_,kk,?_,?_⟩) (fun h=>by cases h) ?_
      ·simp (disch:=first|assumption|omega) only [go_sem]
       congr 1
       omega
      ·simp;omega
      ·rw [List.drop_drop] at hk2
       exact hk2
      ·simp (disch:=first|assumption|omega) only [go_sem,hf]
    have hQ0:∀ (a':AFr) σ',(a' 0 = .ptr b 0/\a' 3 = .ptr bB 0/\a' 4 = .bool false/\a' 5 = .int .i64 (q+1+1:Nat))->BD (τ.set it (some (.iter body (q+1)))) bB acc σ'->st = .tok 2 acc (q+1+1) →
      F (RetQ [.t 2] fun v σ'=>After σ0 b s p c ts st v σ') a' σ':=fun a' σ' hf' hW3 hst3=>
     fin (q+1) acc a' σ' (by omega) (by omega) hW3 (.inr ⟨hst3,by omega,hf'.2.2.1,hf'.2.2.2⟩) ⟨hf'.1,hf'.2.1⟩
    by_cases hbad:(r,w)=(65533,1)
    ·rw [if_pos hbad] at hk2
     injection hbad with hr1 hw1
     subst hr1 hw1
     obtain ⟨σ0',hL,_,hback⟩:=GO.over h hov2
     have hdec:=dec_ok (hU.over hov2) (l:=s.drop (p+1+q)) (by rw [hdrop];exact hne)
     rw [hDrop] at hdec
     have hpass:=pass_ok hL hB' (1+q) (by omega)
     rw [show p+(1+q)=p+1+q by omega] at hpass
     have e7:((p:Int)+1+q).toNat=p+1+q:=by omega
     clear hasc step
     simp (disch:=first|assumption|omega) only [go_sem,hf,h5,hb2,e7,List.take_length,←hG]
     refine hdec.mono ?_
     rintro v σ' ⟨rfl,rfl⟩
     simp (disch:=first|assumption|omega) only [go_sem,hf]
     refine hpass.mono ?_
     rintro v σ' ⟨rfl,hL2⟩
     obtain ⟨σ'',hd,hL3⟩:=hback _ _ _ hL2
     simp (disch:=first|assumption|omega) only [go_sem]
     subst hk2
     refine retC_by hd (.refl _) ⟨rfl,c+signsN ((s.drop p).take (1+q)),?_⟩
     rw [show p+(1+q)=p+1+q by omega]
     exact hL3
    have stp:=step hbad
    clear step hasc
    by_cases h65:(r:Int)=65533
    ·have hw1:¬ (w:Int)=1:=by
      intro h
      apply hbad
      rw [Prod.mk.injEq]
      omega
     have hdec:=dec_ok (hU.over hov2) (l:=s.drop (p+1+q)) (by rw [hdrop];exact hne)
     rw [hDrop] at hdec
     have e7:((p:Int)+1+q).toNat=p+1+q:=by omega
     simp (disch:=first|assumption|omega) only [go_sem,hf,h5,hb2,e7,h65,List.take_length,←hG]
     refine hdec.mono ?_
     rintro v σ' ⟨rfl,rfl⟩
     simp (disch:=first|assumption|omega) only [go_sem,hw1]
     refine stp _ _ ?_ ?_ ?_
     ·simp (disch:=first|assumption|omega) only [go_sem,hf]
      rw [<-h65]
     ·intro a' σ' hf' hW3 hst3
      simp (disch:=first|assumption|omega) only [go_sem]
      exact hQ0 a' σ' hf' hW3 hst3
     ·intro a' σ' q' acc' skip' h1 h2 h3 h4 h5 h6 h7
      simp (disch:=first|assumption|omega) only [go_sem]
      exact ⟨(q',acc',skip'),by dsimp only;omega,h2,h3,h4,h5,h6,h7⟩
    ·simp (disch:=first|assumption|omega) only [go_sem,hf,h5,hb2,h65,←hG]
     refine stp _ _ ?_ ?_ ?_
     ·simp (disch:=first|assumption|omega) only [go_sem,hf]
     ·intro a' σ' hf' hW3 hst3
      simp (disch:=first|assumption|omega) only [go_sem]
      exact hQ0 a' σ' hf' hW3 hst3
     ·intro a' σ' q' acc' skip' h1 h2 h3 h4 h5 h6 h7
      simp (disch:=first|assumption|omega) only [go_sem]
      exact ⟨(q',acc',skip'),by dsimp only;omega,h2,h3,h4,h5,h6,h7⟩
 ·have hq':q=body.length:=by omega
  cases skip with
  | true=>
    obtain ⟨h34,_⟩:=hsk rfl
    rw [List.getElem?_eq_none (by omega)] at h34
    cases h34
  | false=>
  obtain ⟨h5,kk,hk1,hk2⟩:=hns rfl
  rw [List.drop_eq_nil_of_le (by omega),quotedF_nil] at hk2
  simp (disch:=first|assumption|omega) only [go_sem,hf,hitr]
  refine nxt_over (by omega) ?_
  simp (disch:=first|assumption|omega) only [go_sem]
  refine fin q acc _ σ (by omega) hacc hW (.inl ⟨hk2.symm,?_⟩) ?_
  ·simp (disch:=first|assumption|omega) only [go_sem,hf]
  ·simp (disch:=first|assumption|omega) only [go_sem,hf]
end Go.A
namespace Go.A
open Go.Proofs Go.Lib
theorem signs_one {c:UInt8} (h:c.toNat<128):signsN [c]=1:=by
 unfold signsN
 have:=runeCount_ascii ⟨⟨[c]⟩⟩ (fun j hj=>by
  have:j=0:=by simp [ByteArray.size] at hj;omega
  subst this
  exact h)
 simpa [ByteArray.size] using this
set_option maxHeartbeats 1000000 in
theorem tnext_ok {σ0 σ:ASt} (hU:U8 σ) {b:Nat} {s:List UInt8} {p c:Nat} {ts:List Tok} (h:LX σ0 b s p c ts σ) (hB:Bnd s p c ts) (hp:p<s.length) :
  ACalls Tryz.prog 107 [.ptr b 0] σ fun v σ'=>After σ0 b s p c ts (stepP (s.drop p)) v σ':=by
 obtain ⟨st,hst⟩:∃ st,stepP (s.drop p)=st:=⟨_,rfl⟩
 rw [hst]
 have hne:s.drop p ≠ []:=by
  intro h
  have:=congrArg List.length h
  simp at this
  omega
 have hs1:=hB.hs
 have hsg:=sign_ok hU h hB hp
 have hasc:=dec_ascii hne
 have hle:=decodeL_le _ hne
 have hbd:=dec_bd (s.drop p)
 have hwo:=words_ok h hB
 have hqu:=quoted_ok hU h hB hp
 have hfa:=lfail_ok h hB
 have hop:=op_ok h hB hp
 have hps:=pass_ok h hB 1 (by omega)
 obtain ⟨k,hg,hb⟩:=h.cell
 rw [List.length_drop] at hle
 unfold stepP at hst
 dsimp only at hst
 obtain ⟨⟨r,w⟩,hD⟩:∃ D,decodeL (s.drop p)=D:=⟨_,rfl⟩
 rw [hD] at hst hsg hasc hle hbd
 dsimp only at hst hsg hasc hle hbd
 refine a107 (by simp) ?_
 simp (disch:=first|assumption|omega) only [go_sem]
 refine hsg.mono ?_
 rintro v σ' ⟨rfl,rfl⟩
 by_cases hbad:(r,w)=(65533,1)
 ·rw [if_pos hbad] at hst
  rw [if_pos hbad,if_pos hbad]
  subst hst
  simp (disch:=first|assumption|omega) only [go_sem]
  exact retC_by (Drop.refl _) (.refl _) ⟨rfl,c,h⟩
 rw [if_neg hbad] at hst
 rw [if_neg hbad,if_neg hbad]
 have e0:¬ (w:Int)<0:=by omega
 by_cases hbl:r=32\/r=9\/r=10
 ·rw [if_pos hbl] at hst
  subst hst
  obtain ⟨d,t,hdt,hdc,hw1⟩:=hasc (by omega)
  have hs1:signsN ((s.drop p).take 1)=1:=by rw [hdt,List.take_succ_cons,List.take_zero];exact signs_one (by omega)
  rw [hs1] at hps
  subst hw1
  have e1:((1:Nat):Int)=1:=rfl
  rcases hbl with rfl|rfl|rfl
  all_goals
   simp (disch:=first|assumption|omega) only [go_sem,hb]
   refine hps.mono ?_
   rintro v σ2 ⟨rfl,hL⟩
   simp (disch:=first|assumption|omega) only [go_sem]
   exact retC_by (Drop.refl _) (.refl _) ⟨rfl,hL⟩
 rw [if_neg hbl] at hst
 have n1:¬ (r:Int)=32:=by omega
 have n2:¬ (r:Int)=9:=by omega
 have n3:¬ (r:Int)=10:=by omega
 by_cases h128:r<128
 ·obtain ⟨d,t,hdt,hdc,hw1⟩:=hasc h128
  clear hasc
  have hdr:UInt8.ofNat r=d:=by rw [<-hdc];simp
  have hwd:=word_ok d
  rw [hdc] at hwd
  rw [hdr] at hst
  have i128:(r:Int)<128:=by omega
  simp (disch:=first|assumption|omega) only [go_sem,e0,n1,n2,n3,i128]
  refine hwd.use ?_
  cases hw:wordB d with
  | true=>
    rw [if_pos ⟨h128,hw⟩] at hst
    subst hst
    simp (disch:=first|assumption|omega) only [go_sem]
    refine hwo.mono ?_
    intro v σ' hA
    simp (disch:=first|assumption|omega) only [go_sem]
    exact retC_by (Drop.refl _) (.refl _) hA
  | false=>
  rw [if_neg (by rintro ⟨_,h⟩;rw [hw] at h;cases h)] at hst
  by_cases h34:r=34
  ·rw [if_pos h34,List.drop_drop] at hst
   subst hst
   have i34:(r:Int)=34:=by omega
   simp (disch:=first|assumption|omega) only [go_sem,i34]
   refine hqu.mono ?_
   intro v σ' hA
   simp (disch:=first|assumption|omega) only [go_sem]
   exact retC_by (Drop.refl _) (.refl _) hA
  rw [if_neg h34] at hst
  have i34:¬ (r:Int)=34:=by omega
  by_cases h35:r=35
  ·rw [if_pos h35] at hst
   subst hst
   have i35:(r:Int)=35:=by omega
   simp (disch:=first|assumption|omega) only [go_sem,i35]
   refine hfa.mono ?_
   intro v σ' hA
   simp (disch:=first|assumption|omega) only [go_sem]
   exact retC_by (Drop.refl _) (.refl _) hA
  rw [if_neg h35] at hst
  have i35:¬ (r:Int)=35:=by omega
  subst hst
  simp (disch:=first|assumption|omega) only [go_sem,i34,i35]
  refine (hop r w (by omega)).mono ?_
  intro v σ' hA
  simp (disch:=first|assumption|omega) only [go_sem]
  exact retC_by (Drop.refl _) (.refl _) hA
 ·rw [if_neg (by rintro ⟨h,_⟩;exact h128 h),if_neg (by omega),if_neg (by omega)] at hst
  subst hst
  have i128:¬ (r:Int)<128:=by omega
  have i34:¬ (r:Int)=34:=by omega
  have i35:¬ (r:Int)=35:=by omega
  simp (disch:=first|assumption|omega) only [go_sem,e0,n1,n2,n3,i128,i34,i35]
  refine (hop r w (by omega)).mono ?_
  intro v σ' hA
  simp (disch:=first|assumption|omega) only [go_sem]
  exact retC_by (Drop.refl _) (.refl _) hA
theorem quotedF_fits:∀ (k:Nat) (r:List UInt8) (p:Nat) (acc:List UInt8),(∀ j,quotedF k r p acc = .bad j->j<1+p+r.length)/\quotedF k r p acc ≠ .blank/\∀ kd t n,quotedF k r p acc = .tok kd t n->p+2<=n/\n<=p+1+r.length
 | 0,r,p,acc=>by
   refine ⟨fun j h=>?_,by simp [quotedF],fun kd t n h=>by simp [quotedF] at h⟩
   simp only [quotedF,Step.bad.injEq] at h
   omega
 | k+1,r,p,acc=>by
   by_cases hr:r = []
   ·subst hr
    rw [quotedF_nil]
    refine ⟨fun j h=>?_,by simp,fun kd t n h=>by simp at h⟩
    simp only [Step.bad.injEq] at h
    omega
   have hpos:=List.length_pos_iff.2 hr
   have hle:=decodeL_le r hr
   have hw:=decodeL_width r
   unfold quotedF
   rw [if_neg hr]
   split
   ·refine ⟨fun j h=>?_,by simp,fun kd t n h=>by simp at h⟩
    simp only [Step.bad.injEq] at h
    omega
   split
   ·obtain ⟨h1,h2,h3⟩:=quotedF_fits k (r.drop (decodeL r).2) (p+(decodeL r).2) (acc++encodeRune ((decodeL r).1:Int))
    rw [List.length_drop] at h1 h3
    exact ⟨fun j h=>by have:=h1 j h;omega,h2,fun kd t n h=>by have:=h3 kd t n h;omega⟩
   split
   ·rename_i h1 h2 h3
    have hl2:=(List.getElem?_eq_some_iff.1 h3).1
    obtain ⟨h1,h2,h3⟩:=quotedF_fits k (r.drop 2) (p+2) (acc ++ [34])
    rw [List.length_drop] at h1 h3
    exact ⟨fun j h=>by have:=h1 j h;omega,h2,fun kd t n h=>by have:=h3 kd t n h;omega⟩
   ·refine ⟨fun j h=>by simp at h,by simp,fun kd t n h=>?_⟩
    simp only [Step.tok.injEq] at h
    omega
theorem failS_fits (r:List UInt8) (hr:r ≠ []):∀ (es:List (List UInt8)),(∀ e∈es,1<=e.length)->(∀ j,failS r es = .bad j->j<r.length)/\failS r es ≠ .blank/\∀ kd t n,failS r es = .tok kd t n->1<=n/\n<=r.length
 | [],_=>by
   have:=List.length_pos_iff.2 hr
   refine ⟨fun j h=>?_,by simp [failS],fun kd t n h=>by simp [failS] at h⟩
   simp only [failS,Step.bad.injEq] at h
   omega
 | e::es,he=>by
   unfold failS
   split
   ·rename_i h1
    have:=he e (by simp)
    refine ⟨fun j h=>by simp at h,by simp,fun kd t n h=>?_⟩
    simp only [Step.tok.injEq] at h
    omega
   ·exact failS_fits r hr es fun e h=>he e (by simp [h])
theorem twoS_fits (r:List UInt8):∀ (es:List (List UInt8)) e,twoS r es=some e->e∈es/\e.isPrefixOf r=true
 | [],e,h=>by simp [twoS] at h
 | x::es,e,h=>by
   unfold twoS at h
   split at h
   ·injection h with h;subst h;exact ⟨by simp,by assumption⟩
   ·obtain ⟨h1,h2⟩:=twoS_fits r es e h
    exact ⟨by simp [h1],h2⟩
theorem stepP_fits (r:List UInt8) (hr:r ≠ []):(∀ j,stepP r = .bad j->j<r.length)/\∀ kd t n,stepP r = .tok kd t n->1<=n/\n<=r.length:=by
 have hpos:=List.length_pos_iff.2 hr
 have hle:=decodeL_le r hr
 have hw:=decodeL_width r
 have hasc:=dec_ascii hr
 have bad0:(∀ j,Step.bad 0 = .bad j->j<r.length)/\∀ kd t n,Step.bad 0 = .tok kd t n->1<=n/\n<=r.length:=by
  refine ⟨fun j h=>?_,fun kd t n h=>by simp at h⟩
  simp only [Step.bad.injEq] at h
  omega
 have tok1:∀ kd t n,1<=n->n<=r.length->(∀ j,Step.tok kd t n = .bad j->j<r.length)/\∀ kd' t' n',Step.tok kd t n = .tok kd' t' n'->1<=n'/\n'<=r.length:=by
  intro kd t n h1 h2
  refine ⟨fun j h=>by simp at h,fun kd t n h=>?_⟩
  simp only [Step.tok.injEq] at h
  omega
 unfold stepP
 dsimp only
 split
 ·exact bad0
 split
 ·exact ⟨fun j h=>by simp at h,fun kd t n h=>by simp at h⟩
 split
 ·rename_i h1 h2 h3
  obtain ⟨d,t,hdt,hdc,_⟩:=hasc h3.1
  have hrl:=runL_le wordB r
  have h1:1<=runL wordB r:=by
   rw [hdt,runL]
   have:UInt8.ofNat (decodeL r).1=d:=by rw [<-hdc];simp
   rw [this] at h3
   rw [if_pos h3.2]
   omega
  unfold wordsS
  dsimp only
  repeat' split
  all_goals first|exact tok1 _ _ _ h1 hrl|exact bad0
 split
 ·obtain ⟨h1,h2,h3⟩:=quotedF_fits r.length (r.drop 1) 0 []
  rw [List.length_drop] at h1 h3
  exact ⟨fun j h=>by have:=h1 j h;omega,fun kd t n h=>by have:=h3 kd t n h;omega⟩
 split
 ·obtain ⟨h1,h2,h3⟩:=failS_fits r hr errTexts (by decide)
  exact ⟨h1,h3⟩
 ·unfold opS
  split
  ·exact tok1 _ _ _ hw hle
  ·split
   ·rename_i e he
    obtain ⟨h1,h2⟩:=twoS_fits r _ _ he
    have:=twos_len e h1
    have:=(List.isPrefixOf_iff_prefix.1 h2).length_le
    exact tok1 _ _ _ (by omega) (by omega)
   ·split
    ·exact tok1 _ _ _ (by omega) (by omega)
    ·exact bad0
theorem After.u8 {σ0 σ':ASt} (hU:U8 σ0) {b:Nat} (hb:σ0 b=none) {s:List UInt8} {p c:Nat} {ts:List Tok} (h:LX σ0 b s p c ts σ'):U8 σ':=by
 have hne:∀ x r,σ0 x=some r->x≠b:=by rintro x r hx rfl;rw [hb] at hx;cases hx
 exact ⟨GO.at h (hne _ _ hU.1) hU.1,GO.at h (hne _ _ hU.2) hU.2⟩
theorem lex_ok {σ:ASt} (hU:U8 σ) (s:List UInt8) (hs0:s.length<=1000000000) :
  ACalls Tryz.prog 63 [.str s] σ fun v σ'=>v = .tuple [.sl .shr ((lexP s).1.map tokAV),.int .i64 (lexP s).2.1,.int .i64 (lexP s).2.2]/\σ'=σ:=by
 obtain ⟨R,hR⟩:∃ R,lexP s=R:=⟨_,rfl⟩
 rw [hR]
 unfold lexP at hR
 refine a63 (by simp) ?_
 obtain ⟨F,hF⟩:∃ F,F=ACode.wp Tryz.prog c63_24:=⟨_,rfl⟩
 by_cases hbig:2000<s.length
 ·rw [if_pos hbig] at hR
  subst hR
  have e1:(2000:Int)<s.length:=by omega
  simp (disch:=first|assumption|omega) only [go_sem,e1]
  exact retC_by (Drop.refl _) (.tuple (.cons (.sl _ _) (.cons (.refl _) (.cons (.refl _) .nil)))) ⟨rfl,rfl⟩
 rw [if_neg hbig] at hR
 have hs:s.length<=100000:=by omega
 have e1:¬ (2000:Int)<s.length:=by omega
 simp (disch:=first|assumption|omega) only [go_sem,e1]
 refine boxC_by rfl fun b hb=>?_
 simp (disch:=first|assumption|omega) only [go_sem,←hF]
 have h0:LX σ b s 0 0 [] (σ.set b (some (.obj [.str s,.int .i64 0,.int .i64 0,.sl .full []]))):=⟨.full,.inl ⟨rfl,rfl,rfl⟩⟩
 refine wLq (fun (i:Nat×Nat×List Tok) a σ'=>i.1<=s.length/\i.2.1<=i.1/\i.2.2.length<=i.1/\LX σ b s i.1 i.2.1 i.2.2 σ'/\(∃ k,(s.drop i.1).length<k/\lexF k (s.drop i.1) i.1 i.2.1 i.2.2=R)/\(a 0 = .str s/\a 5 = .ptr b 0))
  (fun i=>s.length-i.1) (0,0,[]) ⟨Nat.zero_le _,Nat.le_refl _,Nat.le_refl _,h0,⟨s.length+1,by simp,hR⟩,?_⟩ ?_
 ·simp (disch:=first|assumption|omega) only [go_sem]
 rintro ⟨p,c,ts⟩ a σ1 ⟨hp,hc,ht,hL,⟨k,hk,hlex⟩,hf⟩
 dsimp only at hp hc ht hL hk hlex hf
 have hB:Bnd s p c ts:=⟨hs,hp,hc,by omega⟩
 have hU1:=After.u8 hU hb hL
 obtain ⟨kk,hg,hcell⟩:=hL.cell
 cases k with
 | zero=>omega
 | succ k=>
 rw [List.length_drop] at hk
 by_cases hlt:p<s.length
 ·have hne:s.drop p ≠ []:=by
   intro h
   have:=congrArg List.length h
   simp at this
   omega
  have hlt':(p:Int)<s.length:=by omega
  have hfit:=stepP_fits _ hne
  have hnx:=tnext_ok hU1 hL hB hlt
  rw [lexF,if_neg hne] at hlex
  obtain ⟨st,hst⟩:∃ st,stepP (s.drop p)=st:=⟨_,rfl⟩
  rw [hst] at hlex hfit hnx
  rw [List.length_drop] at hfit
  simp (disch:=first|assumption|omega) only [go_sem,hf,hcell,hlt']
  refine hnx.mono ?_
  intro v σ' hA
  cases st with
  | bad j=>
    obtain ⟨rfl,c',hL2⟩:=hA
    obtain ⟨k2,hg2,hcell2⟩:=hL2.cell
    dsimp only at hlex
    subst hlex
    simp (disch:=first|assumption|omega) only [go_sem,hf,hcell2]
    exact retC_by (Drop.trans hg2.drop (Drop.set hb)) (.tuple (.cons (.sl _ _) (.cons (.refl _) (.cons (.refl _) .nil)))) ⟨rfl,rfl⟩
  | blank=>
    obtain ⟨rfl,hL2⟩:=hA
    dsimp only at hlex
    rw [List.drop_drop] at hlex
    simp (disch:=first|assumption|omega) only [go_sem,hf]
    exact ⟨(p+1,c+1,ts),by dsimp only;omega,by dsimp only;omega,by dsimp only;omega,by dsimp only;omega,hL2,⟨k,by simp;omega,hlex⟩⟩
  | tok kd t n=>
    obtain ⟨rfl,hL2⟩:=hA
    dsimp only at hlex
    rw [List.drop_drop] at hlex
    obtain ⟨g1,g2⟩:=hfit.2 kd t n rfl
    have hsn:=signsN_le ((s.drop p).take n)
    rw [take_len (by omega)] at hsn
    simp (disch:=first|assumption|omega) only [go_sem,hf]
    exact ⟨(p+n,c+signsN ((s.drop p).take n),ts ++ [⟨kd,t,p,c⟩]),by dsimp only;omega,by dsimp only;omega,by dsimp only;omega,by simp;omega,hL2,⟨k,by simp;omega,hlex⟩⟩
 ·have hlt':¬ (p:Int)<s.length:=by omega
  have hpe:s.drop p = []:=List.drop_eq_nil_of_le (by omega)
  rw [lexF,hpe,if_pos rfl] at hlex
  subst hlex
  simp (disch:=first|assumption|omega) only [go_sem,hf,hcell,hlt']
  rw [hF]
  simp (disch:=first|assumption|omega) only [go_sem,hf]
  refine (put_ok hL hB 0 [] 0 (by omega)).mono ?_
  rintro v σ' ⟨rfl,hL2⟩
  obtain ⟨k2,hg2,hcell2⟩:=hL2.cell
  have hz:signsN ((s.drop p).take 0)=0:=by rw [List.take_zero];rfl
  simp (disch:=first|assumption|omega) only [go_sem,hf,hcell2]
  exact retC_by (Drop.trans hg2.drop (Drop.set hb)) (.tuple (.cons (.sl _ _) (.cons (.refl _) (.cons (.refl _) .nil)))) ⟨rfl,rfl⟩
end Go.A
namespace Go.A
open Go.Proofs
/-! 89: tabular/expr.Write -/
def c89_45:ACode := .seq (.ops [ oq 59 (.bin .lss (.t 58) (.t 57))]) (.seq (.cond (.t 59) .skip (.exit 1)) (.seq (.block 2 (.seq (.ops [ oq 60 (.ia 12 (.t 56) (.t 58)),oq 61 (.ld (some 12) (.t 60)),oe 5 (.alloc [(.int .i64 0),(.int .i64 0),(.str []),(.int .i64 0),(.int .i64 0),(.bool false),(.bool false),(.int .i64 0),(.int .i64 0),(.bool false),(.bool false),(.sl .full [])]),oz (.store 12 (.t 5) (.t 61))]) (.ops [ oq 62 (.mv (.t 0)),oq 63 (.ld (some 12) (.t 5)),oe 64 (.call 89 [(.t 62),(.t 63)])]))) (.ops [ oq 65 (.bin .add (.t 58) (.v (.int .i64 1))),oq 58 (.mv (.t 65))])))
def c89_48:ACode := .seq (.ops [ oq 55 (.fa 11 (.t 3)),oq 56 (.ld none (.t 55)),oq 57 (.len (.t 56)),oq 58 (.mv (.v (.int .i64 0)))]) (.block 1 (.loop c89_45))
def c89_51:ACode := .seq (.ops [ oe 3 (.box (.t 1))]) (.seq (.ops [ oq 6 (.mv (.t 0)),oq 7 (.fa 0 (.t 3)),oq 8 (.ld none (.t 7)),oq 9 (.conv .u64 (.t 8)),oe 10 (.call 40 [(.t 6),(.t 9)])]) (.seq (.seq (.ops [ oq 11 (.fa 0 (.t 3)),oq 12 (.ld none (.t 11))]) (.block 0 (.seq (.seq (.ops [ oq 14 (.bin .eql (.t 12) (.v (.int .i64 1))),oq 13 (.mv (.t 14))]) (.cond (.t 13) .skip (.seq (.ops [ oq 15 (.bin .eql (.t 12) (.v (.int .i64 3))),oq 13 (.mv (.t 15))]) (.cond (.t 13) .skip (.ops [ oq 16 (.bin .eql (.t 12) (.v (.int .i64 4))),oq 13 (.mv (.t 16))]))))) (.cond (.t 13) (.ops [ oq 17 (.mv (.t 0)),oq 18 (.fa 1 (.t 3)),oq 19 (.ld none (.t 18)),oe 20 (.call 115 [(.t 17),(.t 19)])]) (.seq (.ops [ oq 22 (.bin .eql (.t 12) (.v (.int .i64 2))),oq 21 (.mv (.t 22))]) (.cond (.t 21) (.ops [ oq 23 (.mv (.t 0)),oq 24 (.fa 2 (.t 3)),oq 25 (.ld none (.t 24)),oe 26 (.call 116 [(.t 23),(.t 25)])]) (.seq (.ops [ oq 28 (.bin .eql (.t 12) (.v (.int .i64 5))),oq 27 (.mv (.t 28))]) (.cond (.t 27) (.ops [ oq 29 (.mv (.t 0)),oq 30 (.fa 3 (.t 3)),oq 31 (.ld (some 4) (.t 30)),oe 32 (.call 142 [(.t 29),(.t 31)])]) (.seq (.ops [ oq 34 (.bin .eql (.t 12) (.v (.int .i64 6))),oq 33 (.mv (.t 34))]) (.cond (.t 33) (.seq (.ops [ oq 35 (.mv (.t 0)),oq 36 (.fa 3 (.t 3)),oq 37 (.ld (some 4) (.t 36)),oe 38 (.call 142 [(.t 35),(.t 37)])]) (.ops [ oq 39 (.mv (.t 0)),oq 40 (.fa 7 (.t 3)),oq 41 (.ld (some 4) (.t 40)),oe 42 (.call 142 [(.t 39),(.t 41)])])) (.seq (.ops [ oq 44 (.bin .eql (.t 12) (.v (.int .i64 22))),oq 43 (.mv (.t 44))]) (.cond (.t 43) (.seq (.ops [ oq 45 (.mv (.t 0)),oq 46 (.fa 2 (.t 3)),oq 47 (.ld none (.t 46)),oe 48 (.call 116 [(.t 45),(.t 47)])]) (.ops [ oq 49 (.mv (.t 0)),oq 50 (.fa 11 (.t 3)),oq 51 (.ld none (.t 50)),oq 52 (.len (.t 51)),oq 53 (.conv .u64 (.t 52)),oe 54 (.call 40 [(.t 49),(.t 53)])])) .skip)))))))))))) c89_48))
@[go_sem] def c89_45_wp:=wp_of c89_45.eq_1
@[go_sem] def c89_48_wp:=wp_of c89_48.eq_1
@[go_sem] def c89_51_wp:=wp_of c89_51.eq_1
def c89:AFn:=⟨66,[],c89_51⟩
theorem c89_ok:compF Tryz.prog Tryz.f89=some c89:=by kernel_rfl
theorem a89 {args:List AV} {σ:ASt} {R:AV->ASt->Prop} (hl:args.length<=66) (h:c89_51.wp Tryz.prog (RetQ [] R) (init args) σ):ACalls Tryz.prog 89 args σ R:=aFq Tryz.func89 c89_ok hl h
/-! 142: tabular/expr.putRef -/
def c142_16:ACode := .seq (.ops [ oe 3 (.box (.t 1))]) (.seq (.ops [ oq 4 (.mv (.v (.int .i64 0)))]) (.seq (.seq (.ops [ oq 5 (.fa 2 (.t 3)),oq 6 (.ld none (.t 5))]) (.cond (.t 6) (.ops [ oq 4 (.mv (.v (.int .i64 1)))]) .skip)) (.seq (.seq (.ops [ oq 7 (.fa 3 (.t 3)),oq 8 (.ld none (.t 7))]) (.cond (.t 8) (.ops [ oq 9 (.mv (.t 4)),oq 10 (.bin .add (.t 9) (.v (.int .i64 2))),oq 4 (.mv (.t 10))]) .skip)) (.seq (.ops [ oq 11 (.mv (.t 0)),oq 12 (.mv (.t 4)),oq 13 (.fa 0 (.t 3)),oq 14 (.ld none (.t 13)),oq 15 (.bin .mul (.v (.int .i64 4)) (.t 14)),oq 16 (.bin .add (.t 12) (.t 15)),oq 17 (.conv .u64 (.t 16)),oe 18 (.call 40 [(.t 11),(.t 17)])]) (.ops [ oq 19 (.mv (.t 0)),oq 20 (.fa 1 (.t 3)),oq 21 (.ld none (.t 20)),oq 22 (.conv .u64 (.t 21)),oe 23 (.call 40 [(.t 19),(.t 22)])])))))
@[go_sem] def c142_16_wp:=wp_of c142_16.eq_1
def c142:AFn:=⟨24,[],c142_16⟩
theorem c142_ok:compF Tryz.prog Tryz.f142=some c142:=by kernel_rfl
theorem a142 {args:List AV} {σ:ASt} {R:AV->ASt->Prop} (hl:args.length<=24) (h:c142_16.wp Tryz.prog (RetQ [] R) (init args) σ):ACalls Tryz.prog 142 args σ R:=aFq Tryz.func142 c142_ok hl h
end Go.A
namespace Go.A
open Go.Proofs Go.Lib Go.Vint
def absN (r:Ref):Nat:=(if r.absRow=true then 1 else 0)+(if r.absCol=true then 2 else 0)
def rfB (r:Ref):List UInt8:=uintB (absN r+4*r.row.toNat)++uintB r.col.toNat
def restB (op n:Int) (s:List UInt8) (a b:Ref) (k:Nat):List UInt8:=
 if op=1\/op=3\/op=4 then uintB (foldI n).toNat else if op=2 then textB s else if op=5 then rfB a else if op=6 then rfB a++rfB b else if op=22 then textB s++uintB k else []
mutual
def Nd.bytes:Nd->List UInt8
 | .mk op n s a b kids=>uintB op.toNat++restB op n s a b kids.length++Nd.bytess kids
def Nd.bytess:List Nd->List UInt8
 | [] => []
 | x::xs=>x.bytes++Nd.bytess xs
end
def arity (op:Int):Nat:=if op=7\/op=8\/op=9 then 1 else if 10<=op/\op<=21 then 2 else 0
def nameOkP (s:List UInt8):Bool:=decide ((lexP s).2.2=0) && (decide ((lexP s).1.length=2) && match (lexP s).1 with
 | t::_=>decide (t.kind=3) && decide (t.text=s)
 | []=>false)
structure GdN (op n:Int) (s:List UInt8) (a b:Ref) (k:Nat):Prop where
 op1:1<=op
 op2:op<=23
 n1:op=1->0<=n/\n<=999999999999999999
 n3:op=3->n=0\/n=1
 n4:op=4->n.tmod 10000=0/\10000<=n/\n<=70000
 n0:op≠1->op≠3->op≠4->n=0
 s2:op=2->s.length<=2000/\(sgT s).isSome=true
 s22:op=22->s.length<=2000/\nameOkP s=true/\k<=2000
 s0:op≠2->op≠22->s = []
 ga:op=5\/op=6->a.good=true
 a0:op≠5->op≠6->a = .zero
 gb:op=6->b.good=true
 b0:op≠6->b = .zero
 ar:op≠22->k=arity op
mutual
def Nd.wd:Nd->Prop
 | .mk op n s a b kids=>GdN op n s a b kids.length/\Nd.wds kids
def Nd.wds:List Nd->Prop
 | []=>True
 | x::xs=>x.wd/\Nd.wds xs
end
theorem Nd.wds_mem:∀ {l:List Nd},Nd.wds l↔∀ x∈l,x.wd
 | []=>by simp [Nd.wds]
 | y::l=>by rw [Nd.wds,Nd.wds_mem (l:=l)];simp
theorem GdN.num {op n:Int} {s:List UInt8} {a b:Ref} {k:Nat} (h:GdN op n s a b k):0<=n/\n<=999999999999999999:=by
 have h1:=h.n1
 have h3:=h.n3
 have h4:=h.n4
 have h0:=h.n0
 by_cases e1:op=1
 ·exact h1 e1
 by_cases e3:op=3
 ·have:=h3 e3;omega
 by_cases e4:op=4
 ·have:=h4 e4;omega
 ·have:=h0 e1 e3 e4;omega
theorem arity_le (op:Int):arity op<=2:=by
 unfold arity
 repeat' split
 all_goals omega
theorem GdN.kids {op n:Int} {s:List UInt8} {a b:Ref} {k:Nat} (h:GdN op n s a b k):k<=2000:=by
 by_cases e:op=22
 ·exact (h.s22 e).2.2
 ·have:=h.ar e;have:=arity_le op;omega
theorem good_bd {r:Ref} (h:r.good=true):0<=r.row/\r.row<3000/\0<=r.col/\r.col<700:=by
 unfold Ref.good at h
 exact of_decide_eq_true h
theorem bytess_take {x:Nd}:∀ {l:List Nd} {i:Nat},l[i]? = some x->Nd.bytess (l.take (i+1))=Nd.bytess (l.take i)++x.bytes
 | [],i,h=>by simp at h
 | y::l,0,h=>by simp at h;subst h;simp [Nd.bytess]
 | y::l,i+1,h=>by
   simp only [List.getElem?_cons_succ] at h
   rw [List.take_succ_cons,List.take_succ_cons,Nd.bytess,Nd.bytess,bytess_take h,List.append_assoc]
theorem bytess_le:∀ (l:List Nd) (i:Nat),(Nd.bytess (l.take i)).length<=(Nd.bytess l).length
 | [],i=>by simp [Nd.bytess]
 | y::l,0=>by simp [Nd.bytess]
 | y::l,i+1=>by rw [List.take_succ_cons,Nd.bytess,Nd.bytess,List.length_append,List.length_append];have:=bytess_le l i;omega
theorem putref_ok (r:Ref) (hr:r.good=true) (σ0:ASt) (b:Nat) (l:List UInt8) (σ:ASt) (hW:W σ0 b l σ) (hl:l.length+(rfB r).length<=10000000) :
  ACalls Tryz.prog 142 [.ptr b 0,refAV r] σ fun v σ'=>v = .tuple []/\W σ0 b (l++rfB r) σ':=by
 obtain ⟨r1,r2,r3,r4⟩:=good_bd hr
 obtain ⟨row,col,ar,ac⟩:=r
 dsimp only at r1 r2 r3 r4
 have key:∀ q:Int,0<=q->q<=3->IntKind.wrap .u64 (q+4*row)=q+4*row/\IntKind.wrap .u64 (4*row)=4*row/\IntKind.wrap .u64 col=col:=fun q h0 h1=>by
  rw [IntKind.wrap_u64,IntKind.wrap_u64,IntKind.wrap_u64];omega
 obtain ⟨U,hU⟩:∃ U:Int,((absN ⟨row,col,ar,ac⟩:Nat):Int)+4*row=U:=⟨_,rfl⟩
 have hrf:rfB ⟨row,col,ar,ac⟩=uintB U.toNat++uintB col.toNat:=by
  unfold rfB
  rw [show absN ⟨row,col,ar,ac⟩+4*row.toNat=U.toNat by omega]
 rw [hrf] at hl ⊢
 rw [List.length_append] at hl
 have hadd:=fun (c:Nat) (hc:σ c=none) (r:Role)=>hW.add (r:=r) hc
 unfold refAV
 cases ar<;>cases ac
 all_goals
  have hU':=hU
  unfold absN at hU'
  simp only [Bool.false_eq_true,if_false,if_true,Nat.zero_add,Nat.add_zero,Nat.reduceAdd] at hU'
  clear hU hrf
  have hb:0<=U/\U<=20000:=by omega
  have hw0:=(key 0 (by omega) (by omega)).2.2
  refine a142 (by simp) ?_
  simp (disch:=first|assumption|omega) only [go_sem]
  refine boxC_by rfl fun c hc=>?_
  have hadd:=hadd c hc
  simp (disch:=first|assumption|omega) only [go_sem]
  refine ACalls.of_eq (congrArg (fun x => [AV.ptr b 0,AV.int .u64 x]) (show _=U by omega)) ?_
  refine (wuint_ok _ b U l _ (hadd _).1 (by omega) (by omega) (by omega)).mono ?_
  rintro v σ1 ⟨rfl,hW1⟩
  have hc1:=hW1.role (hadd (.obj [])).2.1
  simp (disch:=first|assumption|omega) only [go_sem,hc1,hw0]
  refine (wuint_ok _ b col _ _ hW1 (by omega) (by omega) (by rw [List.length_append];omega)).mono ?_
  rintro v σ2 ⟨rfl,hW2⟩
  rw [List.append_assoc] at hW2
  obtain ⟨σ3,hd,hW3,_⟩:=hW2.off (hadd (.obj [])).2.1 (hadd (.obj [])).2.2
  simp (disch:=first|assumption|omega) only [go_sem]
  exact retC_by hd (.refl _) ⟨rfl,hW3⟩
theorem ewrite_le:∀ (k:Nat) (n:Nd),n.size<=k->n.wd->∀ (σ0:ASt) (b:Nat) (l:List UInt8) (σ:ASt),W σ0 b l σ->l.length+n.bytes.length<=9000000 →
  ACalls Tryz.prog 89 [.ptr b 0,n.av] σ fun v σ'=>v = .tuple []/\W σ0 b (l++n.bytes) σ'
 | 0,n,hk,_=>by have:=n.size_pos;omega
 | k+1,n,hk,hg=>by
   intro σ0 b l σ hW hl
   have ih:=ewrite_le k
   obtain ⟨op,m,s,a,d,kids⟩:=n
   rw [Nd.size] at hk
   rw [Nd.wd] at hg
   obtain ⟨hg,hgs⟩:=hg
   have hm:=hg.num
   have o1:=hg.op1
   have o2:=hg.op2
   have hkl:=hg.kids
   rw [Nd.bytes] at hl ⊢
   rw [Nd.av_cs]
   rw [List.length_append,List.length_append] at hl
   have hops:=uintB_le (u:=op) (by omega)
   have hms:=uintB_le (u:=foldI m) (by have:=foldI_bd (n:=m) (by omega) (by omega);omega)
   have hfold:=foldI_bd (n:=m) (by omega) (by omega)
   have hw64:IntKind.wrap .u64 op=op:=by rw [IntKind.wrap_u64];omega
   have hklw:IntKind.wrap .u64 (kids.length:Int)=kids.length:=by rw [IntKind.wrap_u64];omega
   obtain ⟨F,hF⟩:∃ F,F=ACode.wp Tryz.prog c89_48:=⟨_,rfl⟩
   obtain ⟨H,hH⟩:∃ H,uintB op.toNat++restB op m s a d kids.length=H:=⟨_,rfl⟩
   have hHl:H.length=(uintB op.toNat).length+(restB op m s a d kids.length).length:=by rw [<-hH,List.length_append]
   have hlH:l.length+H.length+(Nd.bytess kids).length<=9000000:=by omega
   rw [hH]
   obtain ⟨Q,hQ⟩:∃ Q,Q=RetQ [] fun v σ'=>v=AV.tuple []/\W σ0 b (l++(H++Nd.bytess kids)) σ':=⟨_,rfl⟩
   have fin:∀ (c:Nat) (σ1:ASt) (a1:AFr),c≠b->σ0 c=none->W (σ0.set c (some (.obj (Nd.cs op m s a d (kids.map Nd.av))))) b (l++H) σ1->(a1 0 = .ptr b 0/\a1 3 = .ptr c 0)->F Q a1 σ1:=by
    intro c σ1 a1 hcb hc0 hW1 hf
    have hc1:=hW1.role hcb
    rw [hF]
    simp (disch:=first|assumption|omega) only [go_sem,hf,hc1]
    obtain ⟨σ3,hd3,hW3,_⟩:=hW1.off hcb hc0
    refine wp_loop_by (fun (i:Nat) a1 s2=>i<=kids.length/\(a1 0 = .ptr b 0/\a1 56 = .sl .shr (kids.map Nd.av)/\a1 57 = .int .i64 kids.length/\a1 58 = .int .i64 i)/\W σ0 b (l++H++Nd.bytess (kids.take i)) s2) (fun i=>kids.length-i) 0 (Dr.drop hd3 ⟨Nat.zero_le _,?_,by rw [List.take_zero,Nd.bytess,List.append_nil];exact hW3⟩) ?_
    ·simp (disch:=first|assumption|omega) only [go_sem,hf]
    rintro i a2 s2 ⟨hi,hf2,hW2⟩
    by_cases hlt:i<kids.length
    ·have hlt':(i:Int)<kids.length:=by omega
     have hx : kids[i]? = some (kids[i]'hlt) := List.getElem?_eq_getElem hlt
     have hmem:=List.getElem_mem hlt
     obtain ⟨x, hxe⟩ : ∃ x, kids[i]'hlt = x := ⟨_, rfl⟩
     rw [hxe] at hx hmem
     have hmx:=Nd.get hx
     have hsz:=Nd.size_kid hmem
     have hih:=ih x (by omega) (Nd.wds_mem.1 hgs x hmem)
     have hbt:=bytess_take hx
     have hbl:=bytess_le kids (i+1)
     rw [hbt,List.length_append] at hbl
     obtain ⟨xo,xm,xs,xa,xb,xk⟩:=x
     rw [Nd.av_cs] at hmx hih
     generalize xk.map Nd.av=XK at *
     generalize kids.map Nd.av=KL at *
     generalize Nd.bytes (.mk xo xm xs xa xb xk)=XB at *
     simp (disch:=first|assumption|omega) only [go_sem,hf2,hlt',hmx]
     refine aBq fun e he=>?_
     obtain ⟨hWe,heb,he0⟩:=hW2.add he (r := .obj (Nd.cs xo xm xs xa xb XK))
     simp (disch:=first|assumption|omega) only [go_sem,hf2,ASt.set_set]
     refine (hih _ b _ _ hWe (by rw [List.length_append,List.length_append];omega)).mono ?_
     rintro v σ4 ⟨rfl,hW4⟩
     obtain ⟨σ5,hd5,hW5,_⟩:=hW4.off heb he0
     simp (disch:=first|assumption|omega) only [go_sem,hf2]
     refine ⟨i+1,by dsimp only;omega,Dr.drop hd5 ⟨by omega,?_,by rw [hbt,← List.append_assoc];exact hW5⟩⟩
     simp (disch:=first|assumption|omega) only [go_sem,hf2]
    ·have hlt':¬ (i:Int)<kids.length:=by omega
     rw [List.take_of_length_le (by omega)] at hW2
     rw [hQ]
     simp (disch:=first|assumption|omega) only [go_sem,hf2,hlt']
     exact retC_by (Drop.refl _) (.refl _) ⟨rfl,by rw [<-List.append_assoc];exact hW2⟩
   have hadd:=fun (c:Nat) (hc:σ c=none) (r:Role)=>hW.add (r:=r) hc
   refine a89 (by simp) ?_
   rw [<-hQ]
   simp (disch:=first|assumption|omega) only [go_sem]
   refine boxC_by rfl fun c hc=>?_
   obtain ⟨hWc,hcb,hc0⟩:=hW.add hc (r := .obj (Nd.cs op m s a d (kids.map Nd.av)))
   have hkm:(kids.map Nd.av).length=kids.length:=by simp
   generalize kids.map Nd.av=KL at *
   simp (disch:=first|assumption|omega) only [go_sem,hw64]
   refine (wuint_ok _ b op l _ hWc (by omega) (by omega) (by omega)).mono ?_
   rintro v σ1 ⟨rfl,hW1⟩
   have hc1:=hW1.role hcb
   have hcd:0<=op/\op<=23:=by omega
   by_cases h134:op=1\/op=3\/op=4
   ·have hrb:restB op m s a d kids.length=uintB (foldI m).toNat:=if_pos h134
    rw [hrb] at hH hHl
    have fin:=fin c
    rcases h134 with h1|h1|h1
    all_goals
     simp (disch:=first|assumption|omega) only [go_sem,hc1,h1,←hF]
     refine (wint_ok _ b m _ _ hW1 (by omega) (by omega) (by rw [List.length_append];omega)).mono ?_
     rintro v σ2 ⟨rfl,hW2⟩
     rw [List.append_assoc,hH] at hW2
     simp (disch:=first|assumption|omega) only [go_sem]
     refine fin _ _ hcb hc0 hW2 ?_
     simp (disch:=first|assumption|omega) only [go_sem]
   have g1:op≠1:=by omega
   have g3:op≠3:=by omega
   have g4:op≠4:=by omega
   by_cases h2:op=2
   ·have hrb:restB op m s a d kids.length=textB s:=by unfold restB;rw [if_neg h134,if_pos h2]
    rw [hrb] at hH hHl
    have hsl:=(hg.s2 h2).1
    simp (disch:=first|assumption|omega) only [go_sem,hc1,h2,←hF]
    refine (wtext_ok _ b s _ _ hW1 (by rw [List.length_append];omega)).mono ?_
    rintro v σ2 ⟨rfl,hW2⟩
    rw [List.append_assoc,hH] at hW2
    simp (disch:=first|assumption|omega) only [go_sem]
    refine fin c _ _ hcb hc0 hW2 ?_
    simp (disch:=first|assumption|omega) only [go_sem]
   by_cases h5:op=5
   ·have hrb:restB op m s a d kids.length=rfB a:=by unfold restB;rw [if_neg h134,if_neg h2,if_pos h5]
    rw [hrb] at hH hHl
    simp (disch:=first|assumption|omega) only [go_sem,hc1,h5,←hF]
    refine (putref_ok a (hg.ga (.inl h5)) _ b _ _ hW1 (by rw [List.length_append];omega)).mono ?_
    rintro v σ2 ⟨rfl,hW2⟩
    rw [List.append_assoc,hH] at hW2
    simp (disch:=first|assumption|omega) only [go_sem]
    refine fin c _ _ hcb hc0 hW2 ?_
    simp (disch:=first|assumption|omega) only [go_sem]
   by_cases h6:op=6
   ·have hrb:restB op m s a d kids.length=rfB a++rfB d:=by unfold restB;rw [if_neg h134,if_neg h2,if_neg h5,if_pos h6]
    rw [hrb] at hH hHl
    rw [List.length_append] at hHl
    simp (disch:=first|assumption|omega) only [go_sem,hc1,h6,←hF]
    refine (putref_ok a (hg.ga (.inr h6)) _ b _ _ hW1 (by rw [List.length_append];omega)).mono ?_
    rintro v σ2 ⟨rfl,hW2⟩
    have hc2:=hW2.role hcb
    simp (disch:=first|assumption|omega) only [go_sem,hc2]
    refine (putref_ok d (hg.gb h6) _ b _ _ hW2 (by rw [List.length_append,List.length_append];omega)).mono ?_
    rintro v σ3 ⟨rfl,hW3⟩
    rw [List.append_assoc,List.append_assoc,hH] at hW3
    simp (disch:=first|assumption|omega) only [go_sem]
    refine fin c _ _ hcb hc0 hW3 ?_
    simp (disch:=first|assumption|omega) only [go_sem]
   by_cases h22:op=22
   ·have hrb:restB op m s a d kids.length=textB s++uintB kids.length:=by unfold restB;rw [if_neg h134,if_neg h2,if_neg h5,if_neg h6,if_pos h22]
    rw [hrb] at hH hHl
    rw [List.length_append] at hHl
    have hsl:=(hg.s22 h22).1
    have e1:((kids.length:Int)).toNat=kids.length:=by omega
    simp (disch:=first|assumption|omega) only [go_sem,hc1,h22,←hF]
    refine (wtext_ok _ b s _ _ hW1 (by rw [List.length_append];omega)).mono ?_
    rintro v σ2 ⟨rfl,hW2⟩
    have hc2:=hW2.role hcb
    simp (disch:=first|assumption|omega) only [go_sem,hc2,hkm]
    refine (wuint_ok _ b kids.length _ _ hW2 (by omega) (by omega) (by rw [e1,List.length_append,List.length_append];omega)).mono ?_
    rintro v σ3 ⟨rfl,hW3⟩
    rw [e1,List.append_assoc,List.append_assoc,hH] at hW3
    simp (disch:=first|assumption|omega) only [go_sem]
    refine fin c _ _ hcb hc0 hW3 ?_
    simp (disch:=first|assumption|omega) only [go_sem]
   have hrb:restB op m s a d kids.length = []:=by unfold restB;rw [if_neg h134,if_neg h2,if_neg h5,if_neg h6,if_neg h22]
   rw [hrb,List.append_nil] at hH
   rw [hH] at hW1
   simp (disch:=first|assumption|omega) only [go_sem,hc1,g1,g3,g4,h2,h5,h6,h22,←hF]
   refine fin c _ _ hcb hc0 hW1 ?_
   simp (disch:=first|assumption|omega) only [go_sem]
theorem ewrite_ok (n:Nd) (hg:n.wd) (σ0:ASt) (b:Nat) (l:List UInt8) (σ:ASt) (hW:W σ0 b l σ) (hl:l.length+n.bytes.length<=9000000) :
  ACalls Tryz.prog 89 [.ptr b 0,n.av] σ fun v σ'=>v = .tuple []/\W σ0 b (l++n.bytes) σ':=ewrite_le n.size n (Nat.le_refl _) hg σ0 b l σ hW hl
end Go.A
namespace Go.A
open Go.Proofs
/-! 14: (*tabular/tile.Tile).Count -/
/-! 16: (*tabular/tile.Tile).Layout -/
/-! 41: tabular/tile.put -/
def c41_17:ACode := .seq (.ops [ oe 3 (.box (.t 1))]) (.block 0 (.seq (.ops [ oq 11 (.ld (some 13) (.t 3)),oe 12 (.call 12 [(.t 11)]),oq 10 (.mv (.t 12))]) (.cond (.t 10) (.ops [ oq 13 (.mv (.t 0)),oe 14 (.call 40 [(.t 13),(.v (.int .u64 0))])]) (.seq (.ops [ oq 16 (.ld (some 13) (.t 3)),oe 17 (.call 11 [(.t 16)]),oq 15 (.mv (.t 17))]) (.cond (.t 15) (.seq (.ops [ oq 18 (.mv (.t 0)),oe 19 (.call 40 [(.t 18),(.v (.int .u64 2))])]) (.seq (.ops [ oq 20 (.mv (.t 0)),oq 21 (.fa 0 (.t 3)),oq 22 (.ld (some 12) (.t 21)),oe 23 (.call 89 [(.t 20),(.t 22)])]) (.ops [ oq 24 (.mv (.t 0)),oq 25 (.ld (some 13) (.t 3)),oe 26 (.call 31 [(.t 25)]),oe 27 (.call 71 [(.t 24),(.t 26)])]))) (.seq (.ops [ oq 4 (.mv (.t 0)),oe 5 (.call 40 [(.t 4),(.v (.int .u64 1))])]) (.ops [ oq 6 (.mv (.t 0)),oq 7 (.ld (some 13) (.t 3)),oe 8 (.call 31 [(.t 7)]),oe 9 (.call 71 [(.t 6),(.t 8)])])))))))
@[go_sem] def c41_17_wp:=wp_of c41_17.eq_1
def c41:AFn:=⟨28,[],c41_17⟩
theorem c41_ok:compF Tryz.prog Tryz.f41=some c41:=by kernel_rfl
theorem a41 {args:List AV} {σ:ASt} {R:AV->ASt->Prop} (hl:args.length<=28) (h:c41_17.wp Tryz.prog (RetQ [] R) (init args) σ):ACalls Tryz.prog 41 args σ R:=aFq Tryz.func41 c41_ok hl h
/-! 42: tabular/tile.place -/
def c42_9:ACode := .seq (.ops [ oq 4 (.mv (.v (.int .i64 0)))]) (.seq (.seq (.ops [ oq 5 (.mv (.t 0)),oq 6 (.bin .eql (.t 5) (.v (.int .i64 2)))]) (.cond (.t 6) (.seq (.ops [ oq 7 (.mv (.t 1)),oq 8 (.bin .rem (.t 7) (.v (.int .i64 8))),oq 9 (.bin .mul (.t 8) (.v (.int .i64 4))),oq 10 (.mv (.t 1)),oq 11 (.bin .quo (.t 10) (.v (.int .i64 8))),oq 12 (.bin .add (.t 9) (.t 11)),oq 4 (.mv (.t 12))]) .ret) .skip)) (.seq (.ops [ oq 13 (.mv (.t 1)),oq 4 (.mv (.t 13))]) .ret))
@[go_sem] def c42_9_wp:=wp_of c42_9.eq_1
def c42:AFn:=⟨14,[.t 4],c42_9⟩
theorem c42_ok:compF Tryz.prog Tryz.f42=some c42:=by kernel_rfl
theorem a42 {args:List AV} {σ:ASt} {R:AV->ASt->Prop} (hl:args.length<=14) (h:c42_9.wp Tryz.prog (RetQ [.t 4] R) (init args) σ):ACalls Tryz.prog 42 args σ R:=aFq Tryz.func42 c42_ok hl h
end Go.A
namespace Go.A
open Go.Proofs Go.Lib Go.Vint
def TC.bytes (c:TC):List UInt8:=if c.empty=true then uintB 0 else if c.isF=true then uintB 2++c.t.bytes++putB c.val else uintB 1++putB c.val
structure TileAt (T:List TC) (p:Nat) (σ:ASt):Prop where
 len:T.length=32
 ex:∃ cs,σ p=some (.obj cs)
 cell:∀ (i:Nat) (c:TC),T[i]? = some c->objC (i*13) (some 13) (kn (σ p))=some c.av
theorem TileAt.to {T:List TC} {p:Nat} {σ σ':ASt} (h:TileAt T p σ) (e:σ' p=σ p):TileAt T p σ':=⟨h.len,by rw [e];exact h.ex,fun i c hc=>by rw [e];exact h.cell i c hc⟩
def placeN (k:Int) (i:Nat):Nat:=if k=2 then i % 8*4+i / 8 else i
theorem place_ok (k:Int) (i:Nat) (hi:i<32):Pure Tryz.prog 42 [.int .i64 k,.int .i64 i] (.int .i64 (placeN k i:Nat)):=by
 intro σ
 unfold placeN
 by_cases h:k=2
 ·rw [if_pos h]
  have e1:((i:Nat):Int).tmod 8=((i % 8:Nat):Int):=by rw [Int.tmod_eq_emod_of_nonneg (by omega)];omega
  have e2:((i:Nat):Int).tdiv 8=((i / 8:Nat):Int):=by rw [Int.tdiv_eq_ediv_of_nonneg (by omega)];omega
  refine a42 (by simp) ?_
  simp (disch:=first|assumption|omega) only [go_sem,h,e1,e2]
  exact retC_by (.refl _) (.refl _) ⟨by simp only [resV_one];simp,rfl⟩
 ·rw [if_neg h]
  refine a42 (by simp) ?_
  simp (disch:=first|assumption|omega) only [go_sem,h]
  exact retC_by (.refl _) (.refl _) ⟨rfl,rfl⟩
theorem placeN_lt {k:Int} {i:Nat} (h:i<32):placeN k i<32:=by
 unfold placeN
 split<;>omega
structure TC.wfine (c:TC):Prop where
 wd:c.isF=true->c.t.wd
 nb:c.isF=true->c.t.bytes.length<=100000
 good:c.val.good
 short:∀ t,c.val = .text t->t.length<=2000
theorem tput_ok (σ0:ASt) (b:Nat) (c:TC) (hc:c.wfine) (l:List UInt8) (σ:ASt) (hW:W σ0 b l σ) (hl:l.length<=7000000) :
  ACalls Tryz.prog 41 [.ptr b 0,c.av] σ fun v σ'=>v = .tuple []/\W σ0 b (l++c.bytes) σ':=by
 have hE:=tcEmpty_ok c
 have hF:=tcIsFormula_ok c
 have hV:=tcValue_ok c
 have u0:(uintB 0).length=1:=by rw [uintB_small (by decide)];rfl
 have u1:(uintB 1).length=1:=by rw [uintB_small (by decide)];rfl
 have u2:(uintB 2).length=1:=by rw [uintB_small (by decide)];rfl
 have hwr:=fun (h:c.isF=true) (σ0:ASt) (l:List UInt8) (σ:ASt) (hW:W σ0 b l σ) (hl:l.length<=8000000)=>ewrite_ok c.t (hc.wd h) σ0 b l σ hW (by have:=hc.nb h;omega)
 have hnb:=hc.nb
 have hpv:=fun (σ0:ASt) (l:List UInt8) (σ:ASt) (hW:W σ0 b l σ) (hl:l.length<=9000000)=>vput_ok σ0 b c.val l σ hW hc.good hc.short hl
 have hx:c.bytes=if c.empty=true then uintB 0 else if c.isF=true then uintB 2++c.t.bytes++putB c.val else uintB 1++putB c.val:=rfl
 rw [hx]
 clear hx hc
 generalize putB c.val=pv at *
 generalize c.val.av=va at *
 obtain ⟨⟨op,n,t,x,y,ks⟩,v⟩:=c
 generalize hem:TC.empty ⟨.mk op n t x y ks,v⟩=em at *
 generalize hq:TC.isF ⟨.mk op n t x y ks,v⟩=q at *
 dsimp only at hwr hnb ⊢
 rw [TC.av] at *
 rw [Nd.av_cs] at hwr
 generalize (Nd.mk op n t x y ks).bytes=NB at *
 generalize ks.map Nd.av=L at *
 generalize voAV v=vv at *
 clear hem hq
 refine a41 (by simp) ?_
 simp (disch:=first|assumption|omega) only [go_sem]
 refine boxC_by rfl fun c hc=>?_
 obtain ⟨hW1,hcb,hc0⟩:=hW.add hc (r := .obj (cellCs op n t x y L vv))
 have hc1:=hW1.role hcb
 simp (disch:=first|assumption|omega) only [go_sem,hc1]
 refine hE.use ?_
 cases em with
 | true=>
   simp (disch:=first|assumption|omega) only [go_sem]
   refine (wuint_ok _ b 0 l _ hW1 (by omega) (by omega) (by rw [show (0:Int).toNat=0 from rfl];omega)).mono ?_
   rintro r σ1 ⟨rfl,hW2⟩
   obtain ⟨σ3,hd,hW4,_⟩:=hW2.off hcb hc0
   simp (disch:=first|assumption|omega) only [go_sem]
   exact retC_by hd (.refl _) ⟨rfl,hW4⟩
 | false=>
   rw [if_neg (by simp)]
   simp (disch:=first|assumption|omega) only [go_sem,hc1]
   refine hF.use ?_
   cases q with
   | true=>
     have hwr:=hwr rfl
     have hnb:=hnb rfl
     rw [if_pos rfl]
     simp (disch:=first|assumption|omega) only [go_sem]
     refine (wuint_ok _ b 2 l _ hW1 (by omega) (by omega) (by rw [show (2:Int).toNat=2 from rfl];omega)).mono ?_
     rintro r σ1 ⟨rfl,hW2⟩
     have hc2:=hW2.role hcb
     rw [show (2:Int).toNat=2 from rfl] at hW2
     simp (disch:=first|assumption|omega) only [go_sem,hc2]
     refine (hwr _ _ _ hW2 (by rw [List.length_append];omega)).mono ?_
     rintro r σ2 ⟨rfl,hW3⟩
     have hc3:=hW3.role hcb
     simp (disch:=first|assumption|omega) only [go_sem,hc3]
     refine hV.use ?_
     simp (disch:=first|assumption|omega) only [go_sem]
     refine (hpv _ _ _ hW3 (by rw [List.length_append,List.length_append];omega)).mono ?_
     rintro r σ3 ⟨rfl,hW4⟩
     obtain ⟨σ4,hd,hW5,_⟩:=hW4.off hcb hc0
     rw [List.append_assoc,List.append_assoc] at hW5
     simp (disch:=first|assumption|omega) only [go_sem]
     exact retC_by hd (.refl _) ⟨rfl,by rw [List.append_assoc];exact hW5⟩
   | false=>
     rw [if_neg (by simp)]
     simp (disch:=first|assumption|omega) only [go_sem]
     refine (wuint_ok _ b 1 l _ hW1 (by omega) (by omega) (by rw [show (1:Int).toNat=1 from rfl];omega)).mono ?_
     rintro r σ1 ⟨rfl,hW2⟩
     have hc2:=hW2.role hcb
     rw [show (1:Int).toNat=1 from rfl] at hW2
     simp (disch:=first|assumption|omega) only [go_sem,hc2]
     refine hV.use ?_
     simp (disch:=first|assumption|omega) only [go_sem]
     refine (hpv _ _ _ hW2 (by rw [List.length_append];omega)).mono ?_
     rintro r σ2 ⟨rfl,hW3⟩
     obtain ⟨σ4,hd,hW5,_⟩:=hW3.off hcb hc0
     rw [List.append_assoc] at hW5
     simp (disch:=first|assumption|omega) only [go_sem]
     exact retC_by hd (.refl _) ⟨rfl,hW5⟩
end Go.A
namespace Go.A
open Go.Proofs
/-! 185: tabular/expr.kids -/
def c185_15:ACode := .seq (.ops [ oq 2 (.mv (.v (.int .i64 0)))]) (.seq (.block 0 (.seq (.ops [ oq 4 (.mv (.t 0)),oq 5 (.bin .eql (.t 4) (.v (.int .i64 7))),oq 6 (.mv (.t 5)),⟨some 7,some (6,false),.q (.mv (.t 0)),[]⟩,⟨some 8,some (6,false),.q (.bin .eql (.t 7) (.v (.int .i64 8))),[]⟩,oq 9 (.pick (.t 6) (.v (.bool true)) (.t 8)),oq 10 (.mv (.t 9)),⟨some 11,some (10,false),.q (.mv (.t 0)),[]⟩,⟨some 12,some (10,false),.q (.bin .eql (.t 11) (.v (.int .i64 9))),[]⟩,oq 13 (.pick (.t 10) (.v (.bool true)) (.t 12)),oq 3 (.mv (.t 13))]) (.cond (.t 3) (.seq (.ops [ oq 2 (.mv (.v (.int .i64 1)))]) .ret) (.seq (.ops [ oq 15 (.mv (.t 0)),oq 16 (.bin .geq (.t 15) (.v (.int .i64 10))),oq 17 (.mv (.t 16)),⟨some 18,some (17,true),.q (.mv (.t 0)),[]⟩,⟨some 19,some (17,true),.q (.bin .lss (.t 18) (.v (.int .i64 22))),[]⟩,oq 20 (.pick (.t 17) (.t 19) (.v (.bool false))),oq 14 (.mv (.t 20))]) (.cond (.t 14) (.seq (.ops [ oq 2 (.mv (.v (.int .i64 2)))]) .ret) .skip))))) (.seq (.ops [ oq 2 (.mv (.v (.int .i64 0)))]) .ret))
@[go_sem] def c185_15_wp:=wp_of c185_15.eq_1
def c185:AFn:=⟨21,[.t 2],c185_15⟩
theorem c185_ok:compF Tryz.prog Tryz.f185=some c185:=by kernel_rfl
theorem a185 {args:List AV} {σ:ASt} {R:AV->ASt->Prop} (hl:args.length<=21) (h:c185_15.wp Tryz.prog (RetQ [.t 2] R) (init args) σ):ACalls Tryz.prog 185 args σ R:=aFq Tryz.func185 c185_ok hl h
/-! 186: tabular/expr.value -/
def c186_17:ACode := .seq (.ops [ oe 1 (.box (.t 0)),oq 2 (.mv (.v (.bool false)))]) (.seq (.seq (.ops [ oq 3 (.fa 0 (.t 1)),oq 4 (.ld none (.t 3))]) (.block 0 (.seq (.ops [ oq 6 (.bin .eql (.t 4) (.v (.int .i64 3))),oq 5 (.mv (.t 6))]) (.cond (.t 5) (.seq (.ops [ oq 7 (.fa 1 (.t 1)),oq 8 (.ld none (.t 7)),oq 9 (.bin .eql (.t 8) (.v (.int .i64 0))),oq 10 (.mv (.t 9)),⟨some 11,some (10,false),.q (.fa 1 (.t 1)),[]⟩,⟨some 12,some (10,false),.q (.ld none (.t 11)),[]⟩,⟨some 13,some (10,false),.q (.bin .eql (.t 12) (.v (.int .i64 1))),[]⟩,oq 14 (.pick (.t 10) (.v (.bool true)) (.t 13)),oq 2 (.mv (.t 14))]) .ret) (.seq (.ops [ oq 16 (.bin .eql (.t 4) (.v (.int .i64 4))),oq 15 (.mv (.t 16))]) (.cond (.t 15) (.seq (.ops [ oq 17 (.fa 1 (.t 1)),oq 18 (.ld none (.t 17)),oe 19 (.call 209 [(.t 18)]),oq 20 (.mv (.t 19)),⟨some 21,some (20,true),.q (.ld (some 12) (.t 1)),[]⟩,⟨some 22,some (20,true),.e (.call 124 [(.t 21)]),[]⟩,⟨some 23,some (20,true),.q (.bin .neq (.t 22) (.v (.str []))),[]⟩,oq 24 (.pick (.t 20) (.t 23) (.v (.bool false))),oq 2 (.mv (.t 24))]) .ret) .skip)))))) (.seq (.ops [ oq 25 (.fa 1 (.t 1)),oq 26 (.ld none (.t 25)),oq 27 (.bin .geq (.t 26) (.v (.int .i64 0))),oq 28 (.mv (.t 27)),⟨some 29,some (28,true),.q (.fa 1 (.t 1)),[]⟩,⟨some 30,some (28,true),.q (.ld none (.t 29)),[]⟩,⟨some 31,some (28,true),.e (.call 73 [(.t 30)]),[]⟩,oq 32 (.pick (.t 28) (.t 31) (.v (.bool false))),oq 2 (.mv (.t 32))]) .ret))
@[go_sem] def c186_17_wp:=wp_of c186_17.eq_1
def c186:AFn:=⟨33,[.t 2],c186_17⟩
theorem c186_ok:compF Tryz.prog Tryz.f186=some c186:=by kernel_rfl
theorem a186 {args:List AV} {σ:ASt} {R:AV->ASt->Prop} (hl:args.length<=33) (h:c186_17.wp Tryz.prog (RetQ [.t 2] R) (init args) σ):ACalls Tryz.prog 186 args σ R:=aFq Tryz.func186 c186_ok hl h
/-! 187: tabular/expr.getRef -/
def c187_11:ACode := .seq (.ops [ oe 2 (.alloc [(.int .i64 0),(.int .i64 0),(.bool false),(.bool false)]),oq 3 (.mv (.v (.bool false)))]) (.seq (.ops [ oq 6 (.mv (.t 0)),oe 7 (.call 53 [(.t 6)]),oq 8 (.mv (.t 0)),oe 9 (.call 53 [(.t 8)]),oq 4 (.mv (.t 7)),oq 5 (.mv (.t 9))]) (.seq (.seq (.ops [ oq 10 (.mv (.t 4)),oq 11 (.bin .geq (.t 10) (.v (.int .u64 12000))),oq 12 (.mv (.t 11)),⟨some 13,some (12,false),.q (.mv (.t 5)),[]⟩,⟨some 14,some (12,false),.q (.bin .geq (.t 13) (.v (.int .u64 700))),[]⟩,oq 15 (.pick (.t 12) (.v (.bool true)) (.t 14))]) (.cond (.t 15) (.seq (.ops [ oq 16 (.build [(.int .i64 0),(.int .i64 0),(.bool false),(.bool false)] []),oz (.store 4 (.t 2) (.t 16)),oq 3 (.mv (.v (.bool false)))]) .ret) .skip)) (.seq (.ops [ oq 17 (.mv (.t 4)),oq 18 (.bin .quo (.t 17) (.v (.int .u64 4))),oq 19 (.conv .i64 (.t 18)),oq 20 (.mv (.t 5)),oq 21 (.conv .i64 (.t 20)),oq 22 (.mv (.t 4)),oq 23 (.bin .and (.t 22) (.v (.int .u64 1))),oq 24 (.bin .eql (.t 23) (.v (.int .u64 1))),oq 25 (.mv (.t 4)),oq 26 (.bin .and (.t 25) (.v (.int .u64 2))),oq 27 (.bin .eql (.t 26) (.v (.int .u64 2))),oq 28 (.build [(.int .i64 0),(.int .i64 0),(.bool false),(.bool false)] [(0,1,(.t 19)),(1,1,(.t 21)),(2,1,(.t 24)),(3,1,(.t 27))]),oz (.store 4 (.t 2) (.t 28)),oq 3 (.mv (.v (.bool true)))]) .ret)))
@[go_sem] def c187_11_wp:=wp_of c187_11.eq_1
def c187:AFn:=⟨29,[.c 2 (some 4),.t 3],c187_11⟩
theorem c187_ok:compF Tryz.prog Tryz.f187=some c187:=by kernel_rfl
theorem a187 {args:List AV} {σ:ASt} {R:AV->ASt->Prop} (hl:args.length<=29) (h:c187_11.wp Tryz.prog (RetQ [.c 2 (some 4),.t 3] R) (init args) σ):ACalls Tryz.prog 187 args σ R:=aFq Tryz.func187 c187_ok hl h
/-! 188: tabular/expr.name -/
def c188_5:ACode := .seq (.ops [ oq 2 (.mv (.v (.bool false)))]) (.seq (.ops [ oq 7 (.mv (.t 0)),oe 8 (.call 63 [(.t 7)]),oq 6 (.mv (.t 8)),oq 9 (.ext 0 (.t 6)),oq 10 (.ext 1 (.t 6)),oq 11 (.ext 2 (.t 6)),oq 3 (.mv (.t 9)),oq 4 (.mv (.t 10)),oq 5 (.mv (.t 11))]) (.seq (.ops [ oq 12 (.mv (.t 5)),oq 13 (.bin .eql (.t 12) (.v (.int .i64 0))),oq 14 (.mv (.t 13)),⟨some 15,some (14,true),.q (.mv (.t 3)),[]⟩,⟨some 16,some (14,true),.q (.len (.t 15)),[]⟩,⟨some 17,some (14,true),.q (.bin .eql (.t 16) (.v (.int .i64 2))),[]⟩,oq 18 (.pick (.t 14) (.t 17) (.v (.bool false))),oq 19 (.mv (.t 18)),⟨some 20,some (19,true),.q (.mv (.t 3)),[]⟩,⟨some 21,some (19,true),.q (.ia 4 (.t 20) (.v (.int .i64 0))),[]⟩,⟨some 22,some (19,true),.q (.fa 0 (.t 21)),[]⟩,⟨some 23,some (19,true),.q (.ld none (.t 22)),[]⟩,⟨some 24,some (19,true),.q (.bin .eql (.t 23) (.v (.int .i64 3))),[]⟩,oq 25 (.pick (.t 19) (.t 24) (.v (.bool false))),oq 26 (.mv (.t 25)),⟨some 27,some (26,true),.q (.mv (.t 3)),[]⟩,⟨some 28,some (26,true),.q (.ia 4 (.t 27) (.v (.int .i64 0))),[]⟩,⟨some 29,some (26,true),.q (.fa 1 (.t 28)),[]⟩,⟨some 30,some (26,true),.q (.ld none (.t 29)),[]⟩,⟨some 31,some (26,true),.q (.mv (.t 0)),[]⟩,⟨some 32,some (26,true),.q (.bin .eql (.t 30) (.t 31)),[]⟩,oq 33 (.pick (.t 26) (.t 32) (.v (.bool false))),oq 2 (.mv (.t 33))]) .ret))
@[go_sem] def c188_5_wp:=wp_of c188_5.eq_1
def c188:AFn:=⟨34,[.t 2],c188_5⟩
theorem c188_ok:compF Tryz.prog Tryz.f188=some c188:=by kernel_rfl
theorem a188 {args:List AV} {σ:ASt} {R:AV->ASt->Prop} (hl:args.length<=34) (h:c188_5.wp Tryz.prog (RetQ [.t 2] R) (init args) σ):ACalls Tryz.prog 188 args σ R:=aFq Tryz.func188 c188_ok hl h
end Go.A
namespace Go.A
open Go.Proofs Go.Lib Go.Vint
theorem tsigns_ok {σ:ASt} (h:U8 σ) (s:List UInt8) (hs:s.length<=4611686018427387904):ACalls Tryz.prog 74 [.str s] σ fun v σ'=>v=sgAV s/\σ'=σ:=by
 refine a74 (by simp) ?_
 obtain ⟨R,hR⟩:∃ R,sgT s=R:=⟨_,rfl⟩
 unfold sgAV
 rw [hR]
 obtain ⟨F,hF⟩:∃ F,F=ACode.wp Tryz.prog c74_26:=⟨_,rfl⟩
 simp (disch:=first|assumption|omega) only [go_sem,←hF]
 refine fun b hb=>?_
 simp (disch:=first|assumption|omega) only [go_sem]
 refine wp_loop_by (fun (p:Nat) a σ'=>p<=s.length/\(∃ n:Nat,R=(sgT (s.drop p)).map (· + n)/\n<=p/\a 4 = .int .i64 n)/\(a 0 = .str s/\a 10 = .ptr b 0)/\σ'=σ.set b (some (.iter s p))) (fun p=>s.length-p) 0 (Dr.now ⟨Nat.zero_le _,⟨0,?_,Nat.le_refl _,?_⟩,?_,rfl⟩) ?_
 ·rw [<-hR,List.drop_zero];cases sgT s<;>rfl
 ·simp (disch:=first|assumption|omega) only [go_sem]
 ·simp (disch:=first|assumption|omega) only [go_sem]
 rintro p a σ1 ⟨hp,⟨n,hm,hn,h4⟩,hf,rfl⟩
 by_cases hlt:p<s.length
 ·have hlt':(p:Int)<s.length:=by omega
  have hne:s.drop p ≠ []:=by
   intro e
   have:=congrArg List.length e
   rw [List.length_drop] at this
   simp at this
   omega
  obtain ⟨⟨r,w⟩,hD⟩:∃ D,decodeL (s.drop p)=D:=⟨_,rfl⟩
  have hD2:Utf8.decode ⟨⟨s⟩⟩ p=(r,w):=by rw [<-hD];exact (decodeL_drop ⟨⟨s⟩⟩ p).symm
  have hw:=decodeL_width (s.drop p)
  have hwle:=decodeL_le (s.drop p) hne
  have hrb:=decodeL_rune (s.drop p)
  rw [List.length_drop] at hwle
  rw [hD] at hw hwle hrb
  dsimp only at hw hwle hrb
  by_cases hr:r=65533
  ·have hr':(r:Int)=65533:=by omega
   have hdc:=dec_ok (h.set hb (r:=some (.iter s (p+w)))) hne
   rw [hD] at hdc
   by_cases hw1:w=1
   ·have hbad:=sgT_bad hne (by rw [hD,hr,hw1])
    rw [hbad] at hm
    simp only [Option.map_none] at hm
    subst hm
    subst hw1
    have e1:((1:Nat):Int)=1:=rfl
    rw [e1] at hdc
    simp (disch:=first|assumption|omega) only [go_sem,hf]
    refine nxt_more hlt ?_
    rw [hD2]
    simp (disch:=first|assumption|omega) only [go_sem,hf,hr',List.take_length]
    refine hdc.mono ?_
    rintro v σ' ⟨rfl,rfl⟩
    simp (disch:=first|assumption|omega) only [go_sem]
    exact retC_by (by repeat' (first|exact Drop.refl _|with_reducible refine Drop.off ?_ (by assumption))) (.refl _) ⟨rfl,rfl⟩
   ·have hw1':¬ (w:Int)=1:=by omega
    have hgo:=sgT_step hne (by rw [hD];intro h;injection h with _ h;exact hw1 h)
    rw [hD] at hgo
    dsimp only at hgo
    rw [hgo,List.drop_drop,Option.map_map] at hm
    simp (disch:=first|assumption|omega) only [go_sem,hf]
    refine nxt_more hlt ?_
    rw [hD2]
    simp (disch:=first|assumption|omega) only [go_sem,hf,hr',List.take_length]
    refine hdc.mono ?_
    rintro v σ' ⟨rfl,rfl⟩
    simp (disch:=first|assumption|omega) only [go_sem,h4,hw1']
    refine ⟨p+w,by dsimp only;omega,Dr.now ⟨by omega,⟨n+1,?_,by omega,?_⟩,?_,rfl⟩⟩
    ·rw [hm]
     congr 1
     funext x
     simp only [Function.comp]
     omega
    ·simp (disch:=first|assumption|omega) only [go_sem]
    ·simp (disch:=first|assumption|omega) only [go_sem,hf]
  ·have hr':¬ (r:Int)=65533:=by omega
   have hgo:=sgT_step hne (by rw [hD];intro h;injection h with h _;exact hr h)
   rw [hD] at hgo
   dsimp only at hgo
   rw [hgo,List.drop_drop,Option.map_map] at hm
   simp (disch:=first|assumption|omega) only [go_sem,hf]
   refine nxt_more hlt ?_
   rw [hD2]
   simp (disch:=first|assumption|omega) only [go_sem,h4,hr',ASt.set_set]
   refine ⟨p+w,by dsimp only;omega,Dr.now ⟨by omega,⟨n+1,?_,by omega,?_⟩,?_,rfl⟩⟩
   ·rw [hm]
    congr 1
    funext x
    simp only [Function.comp]
    omega
   ·simp (disch:=first|assumption|omega) only [go_sem]
   ·simp (disch:=first|assumption|omega) only [go_sem,hf]
 ·have hlt':¬ (p:Int)<s.length:=by omega
  rw [List.drop_eq_nil_of_le (by omega),sgT_nil] at hm
  simp only [Option.map_some,Nat.zero_add] at hm
  subst hm
  simp (disch:=first|assumption|omega) only [go_sem,hf]
  refine nxt_over (by omega) ?_
  simp (disch:=first|assumption|omega) only [go_sem]
  rw [hF]
  simp (disch:=first|assumption|omega) only [go_sem,h4]
  exact retC_by (by repeat' (first|exact Drop.refl _|with_reducible refine Drop.off ?_ (by assumption))) (.refl _) ⟨rfl,rfl⟩
theorem ekids_ok (op:Int):Pure Tryz.prog 185 [.int .i64 op] (.int .i64 (arity op)):=by
 intro σ
 obtain ⟨q,hq⟩:∃ q:Nat,arity op=q:=⟨_,rfl⟩
 rw [hq]
 unfold arity at hq
 refine a185 (by simp) ?_
 by_cases h7:op=7
 ·rw [if_pos (by omega)] at hq
  subst hq
  simp (disch:=first|assumption|omega) only [go_sem,h7]
  exact retC_by (Drop.refl _) (.refl _) ⟨rfl,rfl⟩
 by_cases h8:op=8
 ·rw [if_pos (by omega)] at hq
  subst hq
  simp (disch:=first|assumption|omega) only [go_sem,h8]
  exact retC_by (Drop.refl _) (.refl _) ⟨rfl,rfl⟩
 by_cases h9:op=9
 ·rw [if_pos (by omega)] at hq
  subst hq
  simp (disch:=first|assumption|omega) only [go_sem,h9]
  exact retC_by (Drop.refl _) (.refl _) ⟨rfl,rfl⟩
 rw [if_neg (by omega)] at hq
 by_cases h10:10<=op
 ·by_cases h22:op<22
  ·rw [if_pos (by omega)] at hq
   subst hq
   simp (disch:=first|assumption|omega) only [go_sem,h7,h8,h9,h10,h22]
   exact retC_by (Drop.refl _) (.refl _) ⟨rfl,rfl⟩
  ·rw [if_neg (by omega)] at hq
   subst hq
   simp (disch:=first|assumption|omega) only [go_sem,h7,h8,h9,h10,h22]
   exact retC_by (Drop.refl _) (.refl _) ⟨rfl,rfl⟩
 ·rw [if_neg (by omega)] at hq
  subst hq
  simp (disch:=first|assumption|omega) only [go_sem,h7,h8,h9,h10]
  exact retC_by (Drop.refl _) (.refl _) ⟨rfl,rfl⟩
def refR (s:List UInt8) (p:Nat) (e:Int):(Ref×Bool)×Nat×Int:=
 (if 12000<=(readU s p e).1\/700<=(readU s (readU s p e).2.1 (readU s p e).2.2).1 then (.zero,false)
  else (⟨((readU s p e).1 / 4:Nat),((readU s (readU s p e).2.1 (readU s p e).2.2).1:Nat),decide ((readU s p e).1 % 2=1),decide ((readU s p e).1 / 2 % 2=1)⟩,true),
  (readU s (readU s p e).2.1 (readU s p e).2.2).2)
theorem bit0 {u:Nat} (h:u<12000):((BitVec.ofInt 64 (u:Int) &&& BitVec.ofInt 64 1).toNat:Int)=(u % 2:Nat):=by
 have:(BitVec.ofInt 64 (u:Int) &&& BitVec.ofInt 64 1).toNat=u &&& 1:=by
  rw [BitVec.toNat_and,ofInt_u64 u (by omega),show (BitVec.ofInt 64 1).toNat=1 by decide +kernel]
 rw [this,Nat.and_one_is_mod]
theorem bit1 {u:Nat} (h:u<12000):((BitVec.ofInt 64 (u:Int) &&& BitVec.ofInt 64 2).toNat:Int)=(u / 2 % 2*2:Nat):=by
 have:(BitVec.ofInt 64 (u:Int) &&& BitVec.ofInt 64 2).toNat=u &&& 2:=by
  rw [BitVec.toNat_and,ofInt_u64 u (by omega),show (BitVec.ofInt 64 2).toNat=2 by decide +kernel]
 rw [this]
 have h1:(u &&& 2) / 2=u / 2 % 2:=by rw [Nat.and_div_two,show 2 / 2=1 from rfl,Nat.and_one_is_mod]
 have h2:(u &&& 2) % 2=0:=by
  have:=Nat.and_mod_two_pow (a:=u) (b:=2) (n:=1)
  rwa [show 2 % 2 ^ 1=0 from rfl,Nat.and_zero] at this
 omega
theorem getref_ok (s:List UInt8) (p:Nat) (e:Int) (b:Nat) (σ:ASt) (hb:σ b=rd s p e) (hs:s.length<=10000000) (hp:p<=s.length) :
  ACalls Tryz.prog 187 [.ptr b 0] σ fun v σ'=>v = .tuple [refAV (refR s p e).1.1,.bool (refR s p e).1.2]/\σ'=σ.set b (rd s (refR s p e).2.1 (refR s p e).2.2):=by
 obtain ⟨q,hq⟩:∃ q,refR s p e=q:=⟨_,rfl⟩
 rw [hq]
 unfold refR at hq
 obtain ⟨f1,f2,f3,f4⟩:=rUq s p e hp
 have h1:=fun (τ:ASt) (h:τ b=rd s p e)=>ruint_ok s p e b τ h (by omega) hp
 generalize readU s p e=R at *
 obtain ⟨u,p1,e1⟩:=R
 dsimp only at *
 obtain ⟨g1,g2,g3,g4⟩:=rUq s p1 e1 f2
 have h2:=fun (τ:ASt) (h:τ b=rd s p1 e1)=>ruint_ok s p1 e1 b τ h (by omega) f2
 generalize readU s p1 e1=R at *
 obtain ⟨v,p2,e2⟩:=R
 dsimp only at *
 refine a187 (by simp) ?_
 simp (disch:=first|assumption|omega) only [go_sem]
 refine aBq fun d hd=>?_
 have hbd:b≠d:=by rintro rfl;rw [hb] at hd;cases hd
 have hb2:∀ X:Option Role,(σ.set d X) b=rd s p e:=fun X=>by rw [ASt.set_ne hbd];exact hb
 have hsw:∀ (X Y:Option Role),(σ.set d X).set b Y=(σ.set b Y).set d X:=fun X Y=>set_swap (Ne.symm hbd)
 simp (disch:=first|assumption|omega) only [go_sem]
 refine (h1 _ (hb2 _)).mono ?_
 rintro x σ1 ⟨rfl,rfl⟩
 simp (disch:=first|assumption|omega) only [go_sem]
 refine (h2 _ (ASt.set_same _ _ _)).mono ?_
 rintro x σ2 ⟨rfl,rfl⟩
 have hdd:∀ X Y:Option Role,Drop ((σ.set b X).set d Y) (σ.set b X):=fun X Y=>Drop.set (by rw [ASt.set_ne (Ne.symm hbd)];exact hd)
 have hsw2:∀ (X Y Z:Option Role),((σ.set d X).set b Y).set d Z=(σ.set b Y).set d Z:=fun X Y Z=>by rw [set_swap (Ne.symm hbd),ASt.set_set]
 rw [ASt.set_set]
 by_cases c1:12000<=u
 ·have c1':(12000:Int)<=u:=by omega
  rw [if_pos (.inl c1)] at hq
  subst hq
  simp (disch:=first|assumption|omega) only [go_sem,c1',hsw2]
  exact retC_by (hdd _ _) (.refl _) ⟨rfl,rfl⟩
 have c1':¬ (12000:Int)<=u:=by omega
 by_cases c2:700<=v
 ·have c2':(700:Int)<=v:=by omega
  rw [if_pos (.inr c2)] at hq
  subst hq
  simp (disch:=first|assumption|omega) only [go_sem,c1',c2',hsw2]
  exact retC_by (hdd _ _) (.refl _) ⟨rfl,rfl⟩
 have c2':¬ (700:Int)<=v:=by omega
 rw [if_neg (by omega)] at hq
 subst hq
 have k0:=bit0 (u:=u) (by omega)
 have k1:=bit1 (u:=u) (by omega)
 have d0:decide (((u % 2:Nat):Int)=1)=decide (u % 2=1):=decide_eq_decide.2 (by omega)
 have d1:decide (((u / 2 % 2*2:Nat):Int)=2)=decide (u / 2 % 2=1):=decide_eq_decide.2 (by omega)
 have w:IntKind.wrap .i64 (IntKind.wrap .u64 ((u:Int).tdiv 4))=((u / 4:Nat):Int):=by
  rw [Int.tdiv_eq_ediv_of_nonneg (by omega),IntKind.wrap_u64,IntKind.wrap_i64];omega
 simp (disch:=first|assumption|omega) only [go_sem,c1',c2',hsw2]
 refine retC_by (hdd _ _) (.refl _) ⟨?_,rfl⟩
 have E:AV.tuple [AV.agg [AV.int .i64 (IntKind.wrap .i64 (IntKind.wrap .u64 ((u:Int).tdiv 4))),.int .i64 (v:Int),.bool (decide (((BitVec.ofInt 64 (u:Int) &&& BitVec.ofInt 64 1).toNat:Int)=1)),.bool (decide (((BitVec.ofInt 64 (u:Int) &&& BitVec.ofInt 64 2).toNat:Int)=2))],.bool true]
   = AV.tuple [refAV ⟨(u / 4:Nat),(v:Nat),decide (u % 2=1),decide (u / 2 % 2=1)⟩,.bool true]:=by
  rw [k0,k1,w,d0,d1]
  rfl
 exact E
theorem refR_facts (s:List UInt8) (p:Nat) (e:Int) (hp:p<=s.length):(refR s p e).2.1<=s.length:=by
 obtain ⟨_,f2,_⟩:=rUq s p e hp
 obtain ⟨_,g2,_⟩:=rUq s (readU s p e).2.1 (readU s p e).2.2 f2
 exact g2
theorem rtxP_facts (s:List UInt8) (p:Nat) (most:Nat) (hp:p<=s.length):(rtxP s p 0 most).2.1<=s.length/\(rtxP s p 0 most).1.length<=most:=by
 obtain ⟨_,f2,_⟩:=rUq s p 0 hp
 unfold rtxP
 repeat' split
 all_goals
  refine ⟨by dsimp only;omega,?_⟩
  simp only [List.length_nil,List.length_take]
  omega
theorem whole_any {a:Int} (h1 : -9223372036854775808<=a) (h2:a<=9223372036854775807):Pure Tryz.prog 178 [.int .i64 a] (.int .i64 (a.tdiv 10000)):=by
 intro σ
 have hqb:(a.tdiv 10000).natAbs=a.natAbs / 10000:=Int.natAbs_tdiv _ _
 have hw:IntKind.wrap .i64 (a.tdiv 10000)=a.tdiv 10000:=by
  rw [IntKind.wrap_i64];omega
 refine a178 (by simp) ?_
 simp (disch:=first|assumption|omega) only [go_sem,hw]
 exact retC_by (Drop.refl _) (.refl _) ⟨rfl,rfl⟩
theorem failure_any (op n:Int) (s:List UInt8) (a b:Ref) (kids:List Nd) (g1 : -9223372036854775808<=n) (g2:n<=9223372036854775807):Pure Tryz.prog 124 [(Nd.mk op n s a b kids).av] (.str (failT op n)):=by
 intro σ
 have hW:=whole_any g1 g2
 have hE:=tenames_ok
 obtain ⟨q,hq⟩:∃ q,failT op n=q:=⟨_,rfl⟩
 rw [hq]
 unfold failT at hq
 rw [Nd.av_cs]
 generalize n.tdiv 10000=i at *
 refine a124 (by simp) ?_
 simp (disch:=first|assumption|omega) only [go_sem]
 refine boxC_by rfl fun c hc=>?_
 simp (disch:=first|assumption|omega) only [go_sem]
 refine hW.use ?_
 by_cases h4:op=4
 ·by_cases h2:i<1
  ·rw [if_pos (.inr (.inl h2))] at hq
   subst hq
   simp (disch:=first|assumption|omega) only [go_sem,h4,h2]
   exact retC_by (by repeat' (first|exact Drop.refl _|with_reducible refine Drop.off ?_ (by assumption))) (.refl _) ⟨rfl,rfl⟩
  ·by_cases h3:7<i
   ·rw [if_pos (.inr (.inr h3))] at hq
    subst hq
    simp (disch:=first|assumption|omega) only [go_sem,h4,h2]
    refine hE.use ?_
    unfold errL
    simp (disch:=first|assumption|omega) only [go_sem,h3]
    exact retC_by (by repeat' (first|exact Drop.refl _|with_reducible refine Drop.off ?_ (by assumption))) (.refl _) ⟨rfl,rfl⟩
   ·rw [if_neg (by omega)] at hq
    have hc:i=1\/i=2\/i=3\/i=4\/i=5\/i=6\/i=7:=by omega
    subst hq
    rcases hc with rfl|rfl|rfl|rfl|rfl|rfl|rfl
    all_goals
     simp (disch:=first|assumption|omega) only [go_sem,h4]
     refine hE.use ?_
     unfold errL
     simp (disch:=first|assumption|omega) only [go_sem]
     refine hE.use ?_
     unfold errL
     simp (disch:=first|assumption|omega) only [go_sem]
     exact retC_by (by repeat' (first|exact Drop.refl _|with_reducible refine Drop.off ?_ (by assumption))) (.refl _) ⟨rfl,rfl⟩
 ·rw [if_pos (.inl h4)] at hq
  subst hq
  simp (disch:=first|assumption|omega) only [go_sem,h4]
  exact retC_by (by repeat' (first|exact Drop.refl _|with_reducible refine Drop.off ?_ (by assumption))) (.refl _) ⟨rfl,rfl⟩
def valueP (op n:Int):Bool:=if op=3 then decide (n=0) || decide (n=1) else if op=4 then decide (n.tmod 10000=0) && decide (failT 4 n ≠ []) else decide (0<=n) && decide (n.natAbs<=999999999999999999)
theorem evalue_ok (op n:Int) (s:List UInt8) (a b:Ref) (kids:List Nd) (h1 : -9223372036854775808<=n) (h2:n<=9223372036854775807):Pure Tryz.prog 186 [(Nd.mk op n s a b kids).av] (.bool (valueP op n)):=by
 intro σ
 have hF:=failure_any op n s a b kids h1 h2
 have hI:=isInt_ok n
 have hG:=dgood_ok n
 obtain ⟨q,hq⟩:∃ q,valueP op n=q:=⟨_,rfl⟩
 rw [hq]
 unfold valueP at hq
 rw [Nd.av_cs] at hF ⊢
 generalize kids.map Nd.av=KL at *
 refine a186 (by simp) ?_
 simp (disch:=first|assumption|omega) only [go_sem]
 refine boxC_by rfl fun c hc=>?_
 by_cases h3:op=3
 ·rw [if_pos h3] at hq
  subst hq
  by_cases n0:n=0
  ·simp (disch:=first|assumption|omega) only [go_sem,h3,n0]
   exact retC_by (Drop.set hc) (.refl _) ⟨rfl,rfl⟩
  ·by_cases n1:n=1
   ·simp (disch:=first|assumption|omega) only [go_sem,h3,n1]
    exact retC_by (Drop.set hc) (.refl _) ⟨rfl,rfl⟩
   ·simp (disch:=first|assumption|omega) only [go_sem,h3,n0,n1]
    exact retC_by (Drop.set hc) (.refl _) ⟨by simp [resV_one],rfl⟩
 rw [if_neg h3] at hq
 by_cases h4:op=4
 ·rw [if_pos h4] at hq
  rw [h4] at hF
  generalize failT 4 n=T at *
  subst hq
  by_cases i0:n.tmod 10000=0
  ·rw [decide_eq_true i0] at hI ⊢
   simp (disch:=first|assumption|omega) only [go_sem,h4]
   refine hI.use ?_
   simp (disch:=first|assumption|omega) only [go_sem]
   refine hF.use ?_
   by_cases t0:T = []
   ·simp (disch:=first|assumption|omega) only [go_sem,t0]
    exact retC_by (Drop.set hc) (.refl _) ⟨by simp [resV_one],rfl⟩
   ·simp (disch:=first|assumption|omega) only [go_sem,t0]
    exact retC_by (Drop.set hc) (.refl _) ⟨by simp [resV_one],rfl⟩
  ·rw [decide_eq_false i0] at hI ⊢
   simp (disch:=first|assumption|omega) only [go_sem,h4]
   refine hI.use ?_
   simp (disch:=first|assumption|omega) only [go_sem]
   exact retC_by (Drop.set hc) (.refl _) ⟨rfl,rfl⟩
 rw [if_neg h4] at hq
 subst hq
 by_cases n0:0<=n
 ·rw [decide_eq_true n0]
  simp (disch:=first|assumption|omega) only [go_sem,h3,h4,n0]
  refine hG.use ?_
  simp (disch:=first|assumption|omega) only [go_sem]
  exact retC_by (Drop.set hc) (.refl _) ⟨rfl,rfl⟩
 ·rw [decide_eq_false n0]
  simp (disch:=first|assumption|omega) only [go_sem,h3,h4,n0]
  exact retC_by (Drop.set hc) (.refl _) ⟨rfl,rfl⟩
theorem ename_ok {σ:ASt} (hU:U8 σ) (s:List UInt8) (hs:s.length<=100000):ACalls Tryz.prog 188 [.str s] σ fun v σ'=>v = .bool (nameOkP s)/\σ'=σ:=by
 have hL:=lex_ok hU s (by omega)
 obtain ⟨q,hq⟩:∃ q,nameOkP s=q:=⟨_,rfl⟩
 rw [hq]
 unfold nameOkP at hq
 generalize lexP s=R at *
 obtain ⟨L,j,e⟩:=R
 dsimp only at *
 refine a188 (by simp) ?_
 simp (disch:=first|assumption|omega) only [go_sem]
 refine hL.mono ?_
 rintro v σ' ⟨rfl,rfl⟩
 have hl:(L.map tokAV).length=L.length:=by simp
 by_cases he:e=0
 ·rw [decide_eq_true he,Bool.true_and] at hq
  by_cases h2:L.length=2
  ·obtain ⟨t,u,rfl⟩:∃ t u,L = [t,u]:=by
    match L,h2 with
    | [t,u],_=>exact ⟨t,u,rfl⟩
   dsimp only at hq
   rw [decide_eq_true h2,Bool.true_and] at hq
   obtain ⟨kd,tx,at',col⟩:=t
   obtain ⟨kd2,tx2,at2,col2⟩:=u
   dsimp only at hq
   subst hq
   simp only [List.map_cons,List.map_nil,tokAV]
   by_cases k3:kd=3
   ·simp (disch:=first|assumption|omega) only [go_sem,he,k3]
    exact retC_by (Drop.refl _) (.refl _) ⟨by simp [resV_one],rfl⟩
   ·simp (disch:=first|assumption|omega) only [go_sem,he,k3]
    exact retC_by (Drop.refl _) (.refl _) ⟨by simp [resV_one],rfl⟩
  ·have h2':¬ (L.length:Int)=2:=by omega
   rw [decide_eq_false h2,Bool.false_and] at hq
   subst hq
   generalize L.map tokAV=TL at *
   simp (disch:=first|assumption|omega) only [go_sem,he,hl,h2']
   exact retC_by (Drop.refl _) (.refl _) ⟨rfl,rfl⟩
 ·rw [decide_eq_false he,Bool.false_and] at hq
  subst hq
  generalize L.map tokAV=TL at *
  simp (disch:=first|assumption|omega) only [go_sem,he]
  exact retC_by (Drop.refl _) (.refl _) ⟨rfl,rfl⟩
structure HdR where
 n:Int
 s:List UInt8
 a:Ref
 b:Ref
 cnt:Nat
 ok:Bool
 p:Nat
 e:Int
def headR (s:List UInt8) (op:Int) (p:Nat):HdR:=
 if op=1\/op=3\/op=4 then ⟨unfI (readU s p 0).1,[],.zero,.zero,0,valueP op (unfI (readU s p 0).1),(readU s p 0).2.1,(readU s p 0).2.2⟩
 else if op=2 then ⟨0,(rtxP s p 0 2000).1,.zero,.zero,0,(sgT (rtxP s p 0 2000).1).isSome,(rtxP s p 0 2000).2.1,(rtxP s p 0 2000).2.2⟩
 else if op=5 then ⟨0,[],(refR s p 0).1.1,.zero,0,(refR s p 0).1.2,(refR s p 0).2.1,(refR s p 0).2.2⟩
 else if op=6 then ⟨0,[],(refR s p 0).1.1,(refR s (refR s p 0).2.1 (refR s p 0).2.2).1.1,0,(refR s (refR s p 0).2.1 (refR s p 0).2.2).1.2 && (refR s p 0).1.2,(refR s (refR s p 0).2.1 (refR s p 0).2.2).2.1,(refR s (refR s p 0).2.1 (refR s p 0).2.2).2.2⟩
 else if op=22 then ⟨0,(rtxP s p 0 2000).1,.zero,.zero,min (readU s (rtxP s p 0 2000).2.1 (rtxP s p 0 2000).2.2).1 2001,nameOkP (rtxP s p 0 2000).1 && decide (min (readU s (rtxP s p 0 2000).2.1 (rtxP s p 0 2000).2.2).1 2001<=2000),
  (readU s (rtxP s p 0 2000).2.1 (rtxP s p 0 2000).2.2).2.1,(readU s (rtxP s p 0 2000).2.1 (rtxP s p 0 2000).2.2).2.2⟩
 else ⟨0,[],.zero,.zero,arity op,true,p,0⟩
theorem headR_facts (s:List UInt8) (op:Int) (p:Nat) (hp:p<=s.length):(headR s op p).p<=s.length/\(headR s op p).cnt<=2001:=by
 obtain ⟨_,f2,_⟩:=rUq s p 0 hp
 have t1:=(rtxP_facts s p 2000 hp).1
 obtain ⟨_,g2,_⟩:=rUq s (rtxP s p 0 2000).2.1 (rtxP s p 0 2000).2.2 t1
 have r1:=refR_facts s p 0 hp
 have r2:=refR_facts s (refR s p 0).2.1 (refR s p 0).2.2 r1
 have ha:=arity_le op
 unfold headR
 repeat' split
 all_goals
  refine ⟨by dsimp only;assumption,?_⟩
  dsimp only
  omega
def zNd:Nd := .mk 0 0 [] .zero .zero []
def kidsR (g:Nat->Nd×Int×Nat×Int) (mk:List Nd->Nd):Nat->List Nd->Nat->Nd×Int×Nat×Int
 | 0,D,p=>(mk D,0,p,0)
 | c+1,D,p=>if (g p).2.1≠0 then (zNd,(g p).2.1,(g p).2.2.1,(g p).2.2.2) else kidsR g mk c (D ++ [(g p).1]) (g p).2.2.1
def treeR (s:List UInt8):Nat->Nat->Nd×Int×Nat×Int
 | 0,p=>(zNd,12,p,0)
 | k+1,p=>
   if (readU s p 0).2.2≠0 then (zNd,(readU s p 0).2.2,(readU s p 0).2.1,(readU s p 0).2.2)
   else if (readU s p 0).1<1\/23<(readU s p 0).1 then (zNd,3,(readU s p 0).2.1,0)
   else if (headR s ((readU s p 0).1:Nat) (readU s p 0).2.1).e≠0 then (zNd,(headR s ((readU s p 0).1:Nat) (readU s p 0).2.1).e,(headR s ((readU s p 0).1:Nat) (readU s p 0).2.1).p,(headR s ((readU s p 0).1:Nat) (readU s p 0).2.1).e)
   else if (headR s ((readU s p 0).1:Nat) (readU s p 0).2.1).ok=false then (zNd,3,(headR s ((readU s p 0).1:Nat) (readU s p 0).2.1).p,0)
   else kidsR (treeR s k) (fun ks => .mk ((readU s p 0).1:Nat) (headR s ((readU s p 0).1:Nat) (readU s p 0).2.1).n (headR s ((readU s p 0).1:Nat) (readU s p 0).2.1).s (headR s ((readU s p 0).1:Nat) (readU s p 0).2.1).a (headR s ((readU s p 0).1:Nat) (readU s p 0).2.1).b ks)
    (headR s ((readU s p 0).1:Nat) (readU s p 0).2.1).cnt [] (headR s ((readU s p 0).1:Nat) (readU s p 0).2.1).p
theorem kidsR_facts (M:Nat) (g:Nat->Nd×Int×Nat×Int) (mk:List Nd->Nd) (hg:∀ p,p<=M->(g p).2.2.1<=M/\((g p).2.1=0->(g p).2.2.2=0)):∀ c D p,p<=M->(kidsR g mk c D p).2.2.1<=M/\((kidsR g mk c D p).2.1=0->(kidsR g mk c D p).2.2.2=0)
 | 0,D,p,hp=>⟨hp,fun _=>rfl⟩
 | c+1,D,p,hp=>by
   rw [kidsR]
   split
   ·exact hg p hp
   ·exact kidsR_facts M g mk hg c _ _ (hg p hp).1
theorem treeR_facts (s:List UInt8):∀ k p,p<=s.length->(treeR s k p).2.2.1<=s.length/\((treeR s k p).2.1=0->(treeR s k p).2.2.2=0)
 | 0,p,hp=>⟨hp,fun _=>rfl⟩
 | k+1,p,hp=>by
   obtain ⟨_,f2,_⟩:=rUq s p 0 hp
   have hh:=(headR_facts s ((readU s p 0).1:Nat) (readU s p 0).2.1 f2).1
   rw [treeR]
   split
   ·exact ⟨f2,fun h=>h⟩
   split
   ·exact ⟨f2,fun _=>rfl⟩
   split
   ·exact ⟨hh,fun h=>h⟩
   split
   ·exact ⟨hh,fun _=>rfl⟩
   exact kidsR_facts _ _ _ (treeR_facts s k) _ _ _ hh
end Go.A
namespace Go.A
open Go.Proofs
/-! 146: tabular/expr.read -/
def c146_59:ACode := .seq (.seq (.ops [ oq 40 (.bin .eql (.t 38) (.v (.int .i64 1))),oq 39 (.mv (.t 40))]) (.cond (.t 39) .skip (.seq (.ops [ oq 41 (.bin .eql (.t 38) (.v (.int .i64 3))),oq 39 (.mv (.t 41))]) (.cond (.t 39) .skip (.ops [ oq 42 (.bin .eql (.t 38) (.v (.int .i64 4))),oq 39 (.mv (.t 42))]))))) (.cond (.t 39) (.seq (.ops [ oq 43 (.mv (.t 0)),oe 44 (.call 117 [(.t 43)]),oq 45 (.fa 1 (.t 7)),oz (.store 1 (.t 45) (.t 44))]) (.ops [ oq 46 (.ld (some 12) (.t 7)),oe 47 (.call 186 [(.t 46)]),oq 9 (.mv (.t 47))])) (.seq (.ops [ oq 49 (.bin .eql (.t 38) (.v (.int .i64 2))),oq 48 (.mv (.t 49))]) (.cond (.t 48) (.seq (.ops [ oq 50 (.mv (.t 0)),oe 51 (.call 118 [(.t 50),(.v (.int .i64 2000))]),oq 52 (.fa 2 (.t 7)),oz (.store 1 (.t 52) (.t 51))]) (.ops [ oq 54 (.fa 2 (.t 7)),oq 55 (.ld none (.t 54)),oe 56 (.call 74 [(.t 55)]),oq 53 (.mv (.t 56)),oq 57 (.ext 0 (.t 53)),oq 58 (.ext 1 (.t 53)),oq 9 (.mv (.t 58))])) (.seq (.ops [ oq 60 (.bin .eql (.t 38) (.v (.int .i64 5))),oq 59 (.mv (.t 60))]) (.cond (.t 59) (.ops [ oq 62 (.mv (.t 0)),oe 63 (.call 187 [(.t 62)]),oq 61 (.mv (.t 63)),oq 64 (.ext 0 (.t 61)),oq 65 (.ext 1 (.t 61)),oq 66 (.fa 3 (.t 7)),oz (.store 4 (.t 66) (.t 64)),oq 9 (.mv (.t 65))]) (.seq (.ops [ oq 68 (.bin .eql (.t 38) (.v (.int .i64 6))),oq 67 (.mv (.t 68))]) (.cond (.t 67) (.seq (.ops [ oq 10 (.mv (.v (.bool false)))]) (.seq (.ops [ oq 70 (.mv (.t 0)),oe 71 (.call 187 [(.t 70)]),oq 69 (.mv (.t 71)),oq 72 (.ext 0 (.t 69)),oq 73 (.ext 1 (.t 69)),oq 74 (.fa 3 (.t 7)),oz (.store 4 (.t 74) (.t 72)),oq 10 (.mv (.t 73))]) (.seq (.ops [ oq 76 (.mv (.t 0)),oe 77 (.call 187 [(.t 76)]),oq 75 (.mv (.t 77)),oq 78 (.ext 0 (.t 75)),oq 79 (.ext 1 (.t 75)),oq 80 (.fa 7 (.t 7)),oz (.store 4 (.t 80) (.t 78)),oq 9 (.mv (.t 79))]) (.ops [ oq 81 (.mv (.t 9)),oq 82 (.mv (.t 81)),⟨some 83,some (82,true),.q (.mv (.t 10)),[]⟩,oq 84 (.pick (.t 82) (.t 83) (.v (.bool false))),oq 9 (.mv (.t 84))])))) (.seq (.ops [ oq 86 (.bin .eql (.t 38) (.v (.int .i64 22))),oq 85 (.mv (.t 86))]) (.cond (.t 85) (.seq (.ops [ oq 87 (.mv (.t 0)),oe 88 (.call 118 [(.t 87),(.v (.int .i64 2000))]),oq 89 (.fa 2 (.t 7)),oz (.store 1 (.t 89) (.t 88))]) (.seq (.ops [ oq 90 (.mv (.t 0)),oe 91 (.call 53 [(.t 90)]),oq 92 (.mnx false (.t 91) (.v (.int .u64 2001))),oq 93 (.conv .i64 (.t 92)),oq 8 (.mv (.t 93))]) (.ops [ oq 94 (.fa 2 (.t 7)),oq 95 (.ld none (.t 94)),oe 96 (.call 188 [(.t 95)]),oq 97 (.mv (.t 96)),⟨some 98,some (97,true),.q (.mv (.t 8)),[]⟩,⟨some 99,some (97,true),.q (.bin .leq (.t 98) (.v (.int .i64 2000))),[]⟩,oq 100 (.pick (.t 97) (.t 99) (.v (.bool false))),oq 9 (.mv (.t 100))]))) .skip)))))))))
def c146_88:ACode := .seq (.ops [ oq 112 (.bin .lss (.t 111) (.t 110))]) (.seq (.cond (.t 112) .skip (.exit 1)) (.seq (.block 2 (.seq (.ops [ oq 114 (.mv (.t 0)),oq 115 (.mv (.t 1)),oq 116 (.bin .add (.t 115) (.v (.int .i64 1))),oe 117 (.call 146 [(.t 114),(.t 116)]),oq 113 (.mv (.t 117)),oq 118 (.ext 0 (.t 113)),oq 119 (.ext 1 (.t 113)),oe 11 (.alloc [(.int .i64 0),(.int .i64 0),(.str []),(.int .i64 0),(.int .i64 0),(.bool false),(.bool false),(.int .i64 0),(.int .i64 0),(.bool false),(.bool false),(.sl .full [])]),oz (.store 12 (.t 11) (.t 118)),oq 12 (.mv (.t 119))]) (.seq (.seq (.ops [ oq 120 (.mv (.t 12)),oq 121 (.bin .neq (.t 120) (.v (.int .i64 0)))]) (.cond (.t 121) (.seq (.ops [ oq 122 (.build [(.int .i64 0),(.int .i64 0),(.str []),(.int .i64 0),(.int .i64 0),(.bool false),(.bool false),(.int .i64 0),(.int .i64 0),(.bool false),(.bool false),(.sl .full [])] []),oq 123 (.mv (.t 12)),oz (.store 12 (.t 4) (.t 122)),oq 5 (.mv (.t 123))]) .ret) .skip)) (.ops [ oq 124 (.fa 11 (.t 7)),oq 125 (.ld none (.t 124)),oq 126 (.ld (some 12) (.t 11)),oq 127 (.bsl 12 [(.t 126)]),oe 128 (.app 31 12 104 [(.int .i64 0),(.int .i64 0),(.str []),(.int .i64 0),(.int .i64 0),(.bool false),(.bool false),(.int .i64 0),(.int .i64 0),(.bool false),(.bool false),(.sl .full [])] (.t 125) (.t 127)),oq 129 (.fa 11 (.t 7)),oz (.store 1 (.t 129) (.t 128))])))) (.ops [ oq 130 (.bin .add (.t 111) (.v (.int .i64 1))),oq 111 (.mv (.t 130))])))
def c146_96:ACode := .seq (.seq (.ops [ oq 101 (.mv (.t 0)),oe 102 (.call 54 [(.t 101)]),oq 103 (.bin .neq (.t 102) (.v (.int .i64 0)))]) (.cond (.t 103) (.seq (.ops [ oq 104 (.build [(.int .i64 0),(.int .i64 0),(.str []),(.int .i64 0),(.int .i64 0),(.bool false),(.bool false),(.int .i64 0),(.int .i64 0),(.bool false),(.bool false),(.sl .full [])] []),oq 105 (.mv (.t 0)),oe 106 (.call 54 [(.t 105)]),oz (.store 12 (.t 4) (.t 104)),oq 5 (.mv (.t 106))]) .ret) .skip)) (.seq (.seq (.ops [ oq 107 (.mv (.t 9)),oq 108 (.un .not (.t 107))]) (.cond (.t 108) (.seq (.ops [ oq 109 (.build [(.int .i64 0),(.int .i64 0),(.str []),(.int .i64 0),(.int .i64 0),(.bool false),(.bool false),(.int .i64 0),(.int .i64 0),(.bool false),(.bool false),(.sl .full [])] []),oz (.store 12 (.t 4) (.t 109)),oq 5 (.mv (.v (.int .i64 3)))]) .ret) .skip)) (.seq (.seq (.ops [ oq 110 (.mv (.t 8)),oq 111 (.mv (.v (.int .i64 0)))]) (.block 1 (.loop c146_88))) (.seq (.ops [ oq 131 (.ld (some 12) (.t 7)),oz (.store 12 (.t 4) (.t 131)),oq 5 (.mv (.v (.int .i64 0)))]) .ret)))
def c146_97:ACode := .seq (.seq (.ops [ oq 37 (.fa 0 (.t 7)),oq 38 (.ld none (.t 37))]) (.block 0 c146_59)) c146_96
def c146_104:ACode := .seq (.ops [ oe 4 (.alloc [(.int .i64 0),(.int .i64 0),(.str []),(.int .i64 0),(.int .i64 0),(.bool false),(.bool false),(.int .i64 0),(.int .i64 0),(.bool false),(.bool false),(.sl .full [])]),oq 5 (.mv (.v (.int .i64 0)))]) (.seq (.seq (.ops [ oq 13 (.mv (.t 1)),oq 14 (.bin .gtr (.t 13) (.v (.int .i64 2100)))]) (.cond (.t 14) (.seq (.ops [ oq 15 (.build [(.int .i64 0),(.int .i64 0),(.str []),(.int .i64 0),(.int .i64 0),(.bool false),(.bool false),(.int .i64 0),(.int .i64 0),(.bool false),(.bool false),(.sl .full [])] []),oz (.store 12 (.t 4) (.t 15)),oq 5 (.mv (.v (.int .i64 12)))]) .ret) .skip)) (.seq (.ops [ oq 16 (.mv (.t 0)),oe 17 (.call 53 [(.t 16)]),oq 6 (.mv (.t 17))]) (.seq (.seq (.ops [ oq 18 (.mv (.t 0)),oe 19 (.call 54 [(.t 18)]),oq 20 (.bin .neq (.t 19) (.v (.int .i64 0)))]) (.cond (.t 20) (.seq (.ops [ oq 21 (.build [(.int .i64 0),(.int .i64 0),(.str []),(.int .i64 0),(.int .i64 0),(.bool false),(.bool false),(.int .i64 0),(.int .i64 0),(.bool false),(.bool false),(.sl .full [])] []),oq 22 (.mv (.t 0)),oe 23 (.call 54 [(.t 22)]),oz (.store 12 (.t 4) (.t 21)),oq 5 (.mv (.t 23))]) .ret) .skip)) (.seq (.seq (.ops [ oq 24 (.mv (.t 6)),oq 25 (.bin .lss (.t 24) (.v (.int .u64 1))),oq 26 (.mv (.t 25)),⟨some 27,some (26,false),.q (.mv (.t 6)),[]⟩,⟨some 28,some (26,false),.q (.bin .gtr (.t 27) (.v (.int .u64 23))),[]⟩,oq 29 (.pick (.t 26) (.v (.bool true)) (.t 28))]) (.cond (.t 29) (.seq (.ops [ oq 30 (.build [(.int .i64 0),(.int .i64 0),(.str []),(.int .i64 0),(.int .i64 0),(.bool false),(.bool false),(.int .i64 0),(.int .i64 0),(.bool false),(.bool false),(.sl .full [])] []),oz (.store 12 (.t 4) (.t 30)),oq 5 (.mv (.v (.int .i64 3)))]) .ret) .skip)) (.seq (.ops [ oq 31 (.mv (.t 6)),oq 32 (.conv .i64 (.t 31)),oq 33 (.build [(.int .i64 0),(.int .i64 0),(.str []),(.int .i64 0),(.int .i64 0),(.bool false),(.bool false),(.int .i64 0),(.int .i64 0),(.bool false),(.bool false),(.sl .full [])] [(0,1,(.t 32))]),oe 7 (.alloc [(.int .i64 0),(.int .i64 0),(.str []),(.int .i64 0),(.int .i64 0),(.bool false),(.bool false),(.int .i64 0),(.int .i64 0),(.bool false),(.bool false),(.sl .full [])]),oz (.store 12 (.t 7) (.t 33))]) (.seq (.ops [ oq 34 (.fa 0 (.t 7)),oq 35 (.ld none (.t 34)),oe 36 (.call 185 [(.t 35)]),oq 8 (.mv (.t 36)),oq 9 (.mv (.v (.bool true)))]) c146_97))))))
@[go_sem] def c146_59_wp:=wp_of c146_59.eq_1
@[go_sem] def c146_88_wp:=wp_of c146_88.eq_1
@[go_sem] def c146_96_wp:=wp_of c146_96.eq_1
@[go_sem] def c146_97_wp:=wp_of c146_97.eq_1
@[go_sem] def c146_104_wp:=wp_of c146_104.eq_1
def c146:AFn:=⟨132,[.c 4 (some 12),.t 5],c146_104⟩
theorem c146_ok:compF Tryz.prog Tryz.f146=some c146:=by kernel_rfl
theorem a146 {args:List AV} {σ:ASt} {R:AV->ASt->Prop} (hl:args.length<=132) (h:c146_104.wp Tryz.prog (RetQ [.c 4 (some 12),.t 5] R) (init args) σ):ACalls Tryz.prog 146 args σ R:=aFq Tryz.func146 c146_ok hl h
end Go.A
namespace Go.A
open Go.Proofs Go.Lib Go.Vint
set_option maxHeartbeats 8000000 in
theorem read_le (s:List UInt8) (hs:s.length<=10000000) (b:Nat):∀ (k p:Nat),k<=2101->p<=s.length->∀ σ:ASt,U8 σ->σ b=rd s p 0 →
  ACalls Tryz.prog 146 [.ptr b 0,.int .i64 (2101-(k:Int))] σ fun v σ'=>v = .tuple [(treeR s k p).1.av,.int .i64 (treeR s k p).2.1]/\σ'=σ.set b (rd s (treeR s k p).2.2.1 (treeR s k p).2.2.2)
 | 0,p,hk,hp=>by
   intro σ hU hb
   obtain ⟨dp,hdp⟩:∃ dp:Int,2101-((0:Nat):Int)=dp:=⟨_,rfl⟩
   rw [hdp]
   have hlt:2100<dp:=by omega
   refine ACalls.retd (K:=fun v σ'=>Go.A.deep v = .tuple [zNd.av,.int .i64 12]/\σ'=σ) ?_ (fun v σ' h=>⟨h.1,by rw [h.2];exact (set_self hb).symm⟩)
   refine a146 (by simp) ?_
   simp (disch:=first|assumption|omega) only [go_sem]
   refine aBq fun b4 h4=>?_
   simp (disch:=first|assumption|omega) only [go_sem,hlt,ASt.set_set]
   exact retC_by (Drop.set h4) (.refl _) ⟨rfl,rfl⟩
 | k+1,p,hk,hp=>by
   intro σ hU hb
   have ih:=read_le s hs b k
   obtain ⟨dp,hdp⟩:∃ dp:Int,2101-((k+1:Nat):Int)=dp:=⟨_,rfl⟩
   rw [hdp]
   have hlt:¬ 2100<dp:=by omega
   have hd1:dp+1=2101-(k:Int):=by omega
   obtain ⟨R,hR⟩:∃ R,treeR s (k+1) p=R:=⟨_,rfl⟩
   rw [hR]
   rw [treeR] at hR
   obtain ⟨f1,f2,f3,f4⟩:=rUq s p 0 hp
   have h1:=fun (τ:ASt) (h:τ b=rd s p 0)=>ruint_ok s p 0 b τ h (by omega) hp
   generalize readU s p 0=RU at *
   obtain ⟨u,p1,e1⟩:=RU
   dsimp only at *
   refine ACalls.retd (K:=fun v σ'=>Go.A.deep v = .tuple [R.1.av,.int .i64 R.2.1]/\σ'=σ.set b (rd s R.2.2.1 R.2.2.2)) ?_ (fun v σ' h=>h)
   obtain ⟨Q,hQ⟩:∃ Q,Q=RetQ [.c 4 (some 12),.t 5] fun v σ'=>Go.A.deep v = .tuple [R.1.av,.int .i64 R.2.1]/\σ'=σ.set b (rd s R.2.2.1 R.2.2.2):=⟨_,rfl⟩
   refine a146 (by simp) ?_
   simp (disch:=first|assumption|omega) only [go_sem]
   refine aBq fun b4 h4=>?_
   have n4:b≠b4:=by rintro rfl;rw [hb] at h4;cases h4
   have hUn:∀ x r,σ x=r->r≠none->x≠b4:=by rintro x r hx hr rfl;rw [h4] at hx;exact hr hx.symm
   have hUb:∀ x l,σ x=some (.fix l)->x≠b:=by rintro x l hx rfl;rw [hb] at hx;cases hx
   obtain ⟨T2,hT2⟩:∃ T2:Option Role->Option Role->ASt,∀ X Y,T2 X Y=(σ.set b X).set b4 Y:=⟨_,fun _ _=>rfl⟩
   have t2b:∀ X Y,T2 X Y b=X:=fun X Y=>by rw [hT2,ASt.set_ne n4,ASt.set_same]
   have t24:∀ X Y,T2 X Y b4=Y:=fun X Y=>by rw [hT2,ASt.set_same]
   have t2x:∀ X Y x,x≠b->x≠b4->T2 X Y x=σ x:=fun X Y x h h'=>by rw [hT2,ASt.set_ne h',ASt.set_ne h]
   have s2b:∀ X Y X',(T2 X Y).set b X'=T2 X' Y:=fun X Y X'=>by rw [hT2,hT2,set_swap (Ne.symm n4),ASt.set_set]
   have s24:∀ X Y Y',(T2 X Y).set b4 Y'=T2 X Y':=fun X Y X'=>by rw [hT2,hT2,ASt.set_set]
   have d2:∀ X Y,Drop (T2 X Y) (σ.set b X):=fun X Y=>by rw [hT2];exact Drop.set (by rw [ASt.set_ne (Ne.symm n4)];exact h4)
   have U2:∀ X Y,U8 (T2 X Y):=fun X Y=>⟨by rw [t2x _ _ _ (hUb _ _ hU.1) (hUn _ _ hU.1 (by simp))];exact hU.1,by rw [t2x _ _ _ (hUb _ _ hU.2) (hUn _ _ hU.2 (by simp))];exact hU.2⟩
   have hst:∀ Y,σ.set b4 Y=T2 (rd s p 0) Y:=fun Y=>by rw [hT2,set_self hb]
   rw [<-hQ,hst]
   clear hT2 hst
   simp (disch:=first|assumption|omega) only [go_sem,hlt]
   refine (h1 _ (t2b _ _)).mono ?_
   rintro v σ1 ⟨rfl,rfl⟩
   rw [s2b]
   simp (disch:=first|assumption|omega) only [go_sem]
   refine (rerr_ok s p1 e1 b _ (t2b _ _)).mono ?_
   rintro v σ1 ⟨rfl,rfl⟩
   by_cases he:e1=0
   ·subst he
    rw [if_neg (by simp)] at hR
    by_cases hu:u<1\/23<u
    ·rw [if_pos hu] at hR
     subst hR
     rw [hQ]
     by_cases hu1:(u:Int)<1
     ·simp (disch:=first|assumption|omega) only [go_sem,hu1,t24,s24]
      exact retC_by (d2 _ _) (.refl _) ⟨rfl,rfl⟩
     ·have hu2:(23:Int)<u:=by omega
      simp (disch:=first|assumption|omega) only [go_sem,hu1,hu2,t24,s24]
      exact retC_by (d2 _ _) (.refl _) ⟨rfl,rfl⟩
    rw [if_neg hu] at hR
    have hu1:¬ (u:Int)<1:=by omega
    have hu2:¬ (23:Int)<u:=by omega
    obtain ⟨op,hop⟩:∃ op:Int,(u:Int)=op:=⟨_,rfl⟩
    have hH:=headR_facts s op p1 f2
    have hHe:headR s (u:Int) p1=headR s op p1:=by rw [hop]
    rw [hHe,hop] at hR
    have o1:1<=op:=by omega
    have o2:op<=23:=by omega
    obtain ⟨F,hF⟩:∃ F,F=ACode.wp Tryz.prog c146_96:=⟨_,rfl⟩
    have hww:IntKind.wrap .i64 op=op:=by rw [IntKind.wrap_i64];omega
    have hki:=ekids_ok op
    rw [hop]
    simp (disch:=first|assumption|omega) only [go_sem]
    refine aBq fun b7 h7=>?_
    have n7:b≠b7:=by rintro rfl;rw [t2b] at h7;simp [rd] at h7
    have n47:b4≠b7:=by rintro rfl;rw [t24] at h7;cases h7
    have t27:∀ X Y,T2 X Y b7=none:=fun X Y=>by
     rw [t2x _ _ _ (Ne.symm n7) (Ne.symm n47)]
     rwa [t2x _ _ _ (Ne.symm n7) (Ne.symm n47)] at h7
    obtain ⟨T3,hT3⟩:∃ T3:Option Role->Option Role->Option Role->ASt,∀ X Y Z,(T2 X Y).set b7 Z=T3 X Y Z:=⟨_,fun _ _ _=>rfl⟩
    have t3b:∀ X Y Z,T3 X Y Z b=X:=fun X Y Z=>by rw [<-hT3,ASt.set_ne n7,t2b]
    have t34:∀ X Y Z,T3 X Y Z b4=Y:=fun X Y Z=>by rw [<-hT3,ASt.set_ne n47,t24]
    have t37:∀ X Y Z,T3 X Y Z b7=Z:=fun X Y Z=>by rw [<-hT3,ASt.set_same]
    have s3b:∀ X Y Z X',(T3 X Y Z).set b X'=T3 X' Y Z:=fun X Y Z X'=>by rw [<-hT3,← hT3,set_swap (Ne.symm n7),s2b]
    have s34:∀ X Y Z X',(T3 X Y Z).set b4 X'=T3 X X' Z:=fun X Y Z X'=>by rw [<-hT3,← hT3,set_swap (Ne.symm n47),s24]
    have s37:∀ X Y Z X',(T3 X Y Z).set b7 X'=T3 X Y X':=fun X Y Z X'=>by rw [<-hT3,← hT3,ASt.set_set]
    have d3:∀ X Y Z,Drop (T3 X Y Z) (σ.set b X):=fun X Y Z=>by rw [<-hT3];exact (Drop.set (t27 _ _)).trans (d2 _ _)
    have U3:∀ X Y Z,U8 (T3 X Y Z):=fun X Y Z=>by rw [<-hT3];exact (U2 X Y).set (t27 _ _)
    obtain ⟨Z12,hZ12⟩:∃ Z,Z=zero12:=⟨_,rfl⟩
    have hz0:([.int .i64 0,.int .i64 0,.str [],.int .i64 0,.int .i64 0,.bool false,.bool false,.int .i64 0,.int .i64 0,.bool false,.bool false,.sl .full []]:List AV)=Z12:=hZ12.symm
    have fin:∀ (n:Int) (s':List UInt8) (a b':Ref) (cnt:Nat) (ok:Bool) (P:Nat) (E:Int) (a1:AFr),headR s op p1=⟨n,s',a,b',cnt,ok,P,E⟩ →
      (a1 0 = .ptr b 0/\a1 1 = .int .i64 dp/\a1 4 = .ptr b4 0/\a1 7 = .ptr b7 0/\a1 8 = .int .i64 cnt/\a1 9 = .bool ok)->F Q a1 (T3 (rd s P E) (some (.obj Z12)) (some (.obj (ndV op n s' a b' (.sl .full []))))):=by
     intro n s' a b' cnt ok P E a1 hh hf
     rw [hh] at hR hH
     dsimp only at hR hH
     rw [hF]
     have hzr:(Z12.length=12):=by rw [hZ12];rfl
     simp (disch:=first|assumption|omega) only [go_sem,hf]
     refine (rerr_ok s P E b _ (t3b _ _ _)).mono ?_
     rintro v σ1 ⟨rfl,rfl⟩
     by_cases hE:E=0
     ·rw [if_neg (by simp [hE])] at hR
      subst hE
      cases ok with
      | false=>
        rw [if_pos rfl] at hR
        subst hR
        rw [hQ,hZ12]
        unfold zero12
        simp (disch:=first|assumption|omega) only [go_sem,hf,t34,s34]
        exact retC_by (d3 _ _ _) (.refl _) ⟨rfl,rfl⟩
      | true=>
        rw [if_neg (by simp)] at hR
        simp (disch:=first|assumption|omega) only [go_sem,hf]
        have h4z:∀ X Y,T3 X (some (.obj Z12)) Y b4=some (.obj Z12):=fun X Y=>t34 _ _ _
        refine wp_loop_by (fun (q:List Nd×Nat) a2 s2=>(q.1.length<=cnt/\q.2<=s.length/\kidsR (treeR s k) (fun ks=>Nd.mk op n s' a b' ks) (cnt-q.1.length) q.1 q.2=R) ∧
          (a2 0 = .ptr b 0/\a2 1 = .int .i64 dp/\a2 4 = .ptr b4 0/\a2 7 = .ptr b7 0/\a2 110 = .int .i64 cnt/\a2 111 = .int .i64 q.1.length) ∧
          ∃ v,OwnSl (T3 (rd s q.2 0) (some (.obj Z12)) (some (.obj (ndV op n s' a b' v)))) s2 v (q.1.map Nd.av) 12) (fun q=>cnt-q.1.length) ([],P) (Dr.now ⟨⟨Nat.zero_le _,hH.1,by simpa using hR⟩,?_,.sl .full [],.inl ⟨rfl,rfl,rfl⟩⟩) ?_
        ·simp only [List.length_nil]
         simp (disch:=first|assumption|omega) only [go_sem,hf]
        rintro ⟨D,pp⟩ a2 s2 ⟨⟨g1,g2,g3⟩,hf2,v,hO⟩
        dsimp only at g1 g2 g3 hf2 hO
        have hbb:s2 b=rd s pp 0:=hO.at (x:=b) (t3b _ _ _)
        have hb7:=hO.at (x:=b7) (t37 _ _ _)
        have hb4:=hO.at (x:=b4) (t34 _ _ _)
        have hDm:(D.map Nd.av).length=D.length:=by simp
        have hlD:∀ y∈D.map Nd.av,y.cells.length=12:=by
         intro y hy
         obtain ⟨z,_,rfl⟩:=List.mem_map.1 hy
         exact Nd.av_len z
        by_cases hdl:D.length<cnt
        ·have hdl':(D.length:Int)<cnt:=by omega
         have hU3:=U3 (rd s pp 0) (some (.obj Z12)) (some (.obj (ndV op n s' a b' v)))
         have hcall:=ih pp (by omega) g2 s2 ⟨hO.at hU3.1,hO.at hU3.2⟩ hbb
         have hfacts:=treeR_facts s k pp g2
         rw [show cnt-D.length=(cnt-(D.length+1))+1 by omega,kidsR] at g3
         rw [<-hd1] at hcall
         obtain ⟨x,hxx⟩:∃ x,(treeR s k pp).1=x:=⟨_,rfl⟩
         obtain ⟨e',hee⟩:∃ x,(treeR s k pp).2.1=x:=⟨_,rfl⟩
         obtain ⟨pp',hpp⟩:∃ x,(treeR s k pp).2.2.1=x:=⟨_,rfl⟩
         obtain ⟨er,her⟩:∃ x,(treeR s k pp).2.2.2=x:=⟨_,rfl⟩
         rw [hxx,hee,hpp,her] at hcall
         rw [hee,hpp,her] at hfacts
         rw [hxx,hee,hpp,her] at g3
         have hO1:=hO.put (t3b (rd s pp 0) (some (.obj Z12)) (some (.obj (ndV op n s' a b' v))):_=some _) (rd s pp' er)
         rw [s3b] at hO1
         have hDx:((D ++ [x]).map Nd.av)=D.map Nd.av ++ [x.av]:=by simp
         have hDl:(D ++ [x]).length=D.length+1:=by simp
         obtain ⟨xo,xm,xs,xa,xb,xk⟩:=x
         rw [Nd.av_cs] at hcall hDx
         generalize hXK:xk.map Nd.av=XK at *
         simp (disch:=first|assumption|omega) only [go_sem,hf2,hdl']
         refine hcall.mono ?_
         rintro w σ1 ⟨rfl,rfl⟩
         have hb71:=hO1.at (x:=b7) (t37 _ _ _)
         have hb41:=hO1.at (x:=b4) (t34 _ _ _)
         generalize hs3:s2.set b (rd s pp' er)=s3 at *
         simp (disch:=first|assumption|omega) only [go_sem]
         refine aBq fun e he=>?_
         have he7:b7≠e:=by rintro rfl;rw [hb71] at he;cases he
         have he4:b4≠e:=by rintro rfl;rw [hb41] at he;cases he
         by_cases h0:e'=0
         ·subst h0
          have her0:=hfacts.2 rfl
          subst her0
          rw [if_neg (by simp)] at g3
          have he0:T3 (rd s pp' 0) (some (.obj Z12)) (some (.obj (ndV op n s' a b' v))) e=none:=hO1.fresh he
          have hOe:=hO1.add (r:=some (.obj (Nd.cs xo xm xs xa xb XK))) he
          have hb7e:(s3.set e (some (.obj (Nd.cs xo xm xs xa xb XK)))) b7=some (.obj (ndV op n s' a b' v)):=by rw [ASt.set_ne he7];exact hb71
          simp (disch:=first|assumption|omega) only [go_sem,hf2,hb7e,ASt.set_set]
          refine OwnSl.app hOe hlD rfl rfl (by rw [hDm];simp only [List.length_cons,List.length_nil];omega) (by rw [hDm];simp only [List.length_cons,List.length_nil];omega) (by simp) fun v' σ' ⟨σ2,hd,hO2⟩=>?_
          have h70:((T3 (rd s pp' 0) (some (.obj Z12)) (some (.obj (ndV op n s' a b' v)))).set e (some (.obj (Nd.cs xo xm xs xa xb XK)))) b7=some (.obj (ndV op n s' a b' v)):=by rw [ASt.set_ne he7,t37]
          have hb7':=hd.had (hO2.at h70)
          have hO3:=hO2.put h70 (some (.obj (ndV op n s' a b' v')))
          rw [set_swap (Ne.symm he7),s37] at hO3
          have he0':T3 (rd s pp' 0) (some (.obj Z12)) (some (.obj (ndV op n s' a b' v'))) e=none:=by
           rw [<-s37 _ _ (some (.obj (ndV op n s' a b' v))),ASt.set_ne (Ne.symm he7)];exact he0
          obtain ⟨σ5,hd5,hO5⟩:=hO3.less he0'
          have hvl:=hO2.leaf
          have hvc:=hvl.2
          have hvv:leaves [v']=true:=by rw [leaf1];exact hvl.1
          have hD5:Drop (σ'.set b7 (some (.obj (ndV op n s' a b' v')))) σ5:=hd.set_cong.trans hd5
          simp (disch:=first|assumption|omega) only [go_sem,hf2,hb7',hvc,hvv]
          refine ⟨(D ++ [Nd.mk xo xm xs xa xb xk],pp'),by dsimp only;rw [hDl];omega,Dr.drop hD5 ⟨⟨by dsimp only;omega,hfacts.1,?_⟩,?_,v',?_⟩⟩
          ·dsimp only;rw [hDl];exact g3
          ·dsimp only
           rw [hDl]
           simp (disch:=first|assumption|omega) only [go_sem,hf2]
          ·dsimp only
           rw [hDx];exact hO5
         ·rw [if_pos h0] at g3
          subst g3
          have hb4e:(s3.set e (some (.obj (Nd.cs xo xm xs xa xb XK)))) b4=some (.obj Z12):=by rw [ASt.set_ne he4];exact hb41
          have hO4:=hO1.put (t34 _ _ _) (some (.obj Z12))
          rw [s34] at hO4
          have hfin:∀ X:Option Role,Drop ((s3.set e X).set b4 (some (.obj Z12))) (σ.set b (rd s pp' er)):=fun X=>by
           rw [set_swap (Ne.symm he4)]
           exact ((Drop.set (by rw [ASt.set_ne (Ne.symm he4)];exact he)).trans hO4.drop).trans (d3 _ _ _)
          have hs4:∀ X:Option Role,((s3.set e X).set b4 (some (.obj Z12))) b4=some (.obj Z12):=fun X=>ASt.set_same _ _ _
          rw [hZ12] at hb4e hfin
          unfold zero12 at hb4e hfin
          rw [hQ]
          simp (disch:=first|assumption|omega) only [go_sem,hf2,hb4e,h0,ASt.set_set]
          exact retC_by (hfin _) (.refl _) ⟨rfl,rfl⟩
        ·have hdl':¬ (D.length:Int)<cnt:=by omega
         rw [show cnt-D.length=0 by omega,kidsR] at g3
         subst g3
         have hnl:=nv_leaves (o:=op) (m:=n) (s:=s') (a:=a) (b:=b') hO.leaf.1
         have hO2:=hO.put (t34 _ _ _) (some (.obj (ndV op n s' a b' v)))
         rw [s34] at hO2
         have hDz:=d3 (rd s pp 0) (some (.obj (ndV op n s' a b' v))) (some (.obj (ndV op n s' a b' v)))
         have hz:=hO2.fz hlD (fun x hx=>hDz.nil hx)
         rw [hZ12] at hb4
         unfold zero12 at hb4
         rw [hQ]
         have hdv:Go.A.deep (.tuple [.agg (ndV op n s' a b' (.sl .shr (D.map Nd.av))),.int .i64 0]) = .tuple [(Nd.mk op n s' a b' D).av,.int .i64 0]:=by
          rw [Nd.av_cs]
          show AV.tuple [.agg (Nd.cs op n s' a b' (Go.A.deeps (D.map Nd.av))),.int .i64 0]=_
          rw [deeps_map]
         simp (disch:=first|assumption|omega) only [go_sem,hf2,hdl',hb7,hb4,hnl]
         refine retC_by (r := .tuple [.agg (ndV op n s' a b' (.sl .shr (D.map Nd.av))),.int .i64 0]) (hO2.drop.trans hDz) ?_ ⟨hdv,rfl⟩
         exact .tuple (.cons (.agg (.cons (.refl _) (.cons (.refl _) (.cons (.refl _) (.cons (.refl _) (.cons (.refl _) (.cons (.refl _) (.cons (.refl _) (.cons (.refl _) (.cons (.refl _) (.cons (.refl _) (.cons (.refl _) (.cons hz .nil))))))))))))) (.cons (.refl _) .nil))
     ·rw [if_pos hE] at hR
      subst hR
      simp (disch:=first|assumption|omega) only [go_sem,hf,hE]
      refine (rerr_ok s P E b _ (t3b _ _ _)).mono ?_
      rintro v σ1 ⟨rfl,rfl⟩
      rw [hQ,hZ12]
      unfold zero12
      simp (disch:=first|assumption|omega) only [go_sem,hf,t34,s34]
      exact retC_by (d3 _ _ _) (.refl _) ⟨rfl,rfl⟩
    obtain ⟨B,hB⟩:∃ B,B=ACode.wp Tryz.prog c146_97:=⟨_,rfl⟩
    have brs:∀ (a1:AFr),(a1 0 = .ptr b 0/\a1 1 = .int .i64 dp/\a1 4 = .ptr b4 0/\a1 7 = .ptr b7 0/\a1 8 = .int .i64 (arity op:Nat)/\a1 9 = .bool true) →
      B Q a1 (T3 (rd s p1 0) (some (.obj Z12)) (some (.obj [.int .i64 op,.int .i64 0,.str [],.int .i64 0,.int .i64 0,.bool false,.bool false,.int .i64 0,.int .i64 0,.bool false,.bool false,.sl .full []]))):=by
     intro a1 hf
     rw [hB]
     clear hB hQ ih
     have hs2:s.length<=4611686018427387904:=by omega
     have e2000:((2000:Nat):Int)=2000:=rfl
     by_cases h134:op=1\/op=3\/op=4
     ·have hh:headR s op p1=⟨unfI (readU s p1 0).1,[],.zero,.zero,0,valueP op (unfI (readU s p1 0).1),(readU s p1 0).2.1,(readU s p1 0).2.2⟩:=if_pos h134
      have ha:arity op=0:=by unfold arity;rw [if_neg (by omega),if_neg (by omega)]
      rw [ha] at hf
      have hI:=fun τ h=>rint_ok s p1 0 b τ h hs2 f2
      obtain ⟨w1,_⟩:=rUq s p1 0 f2
      generalize readU s p1 0=V at *
      obtain ⟨v,P,E⟩:=V
      dsimp only at hh hI w1
      have hv : -9223372036854775808<=unfI v/\unfI v<=9223372036854775807:=by unfold unfI;split<;>omega
      generalize unfI v=n at *
      have hV:=evalue_ok op n [] .zero .zero [] hv.1 hv.2
      generalize valueP op n=ok at *
      rcases h134 with h1|h1|h1
      all_goals
       simp (disch:=first|assumption|omega) only [go_sem,hf,h1,t37,←hF]
       refine (hI _ (t3b _ _ _)).mono ?_
       rintro w σ1 ⟨rfl,rfl⟩
       rw [s3b]
       simp (disch:=first|assumption|omega) only [go_sem,hf,t37,s37]
       refine ACalls.deep (args' := [(Nd.mk op n [] .zero .zero []).av]) (by rw [Nd.av_cs];subst h1;rfl) (hV.use ?_)
       simp (disch:=first|assumption|omega) only [go_sem]
       first|(refine fin n [] .zero .zero 0 ok P E _ hh ?_)|(subst h1;refine fin n [] .zero .zero 0 ok P E _ hh ?_)
       simp (disch:=first|assumption|omega) only [go_sem,hf]
     have g1:op≠1:=by omega
     have g3:op≠3:=by omega
     have g4:op≠4:=by omega
     by_cases h2:op=2
     ·have hh:headR s op p1=⟨0,(rtxP s p1 0 2000).1,.zero,.zero,0,(sgT (rtxP s p1 0 2000).1).isSome,(rtxP s p1 0 2000).2.1,(rtxP s p1 0 2000).2.2⟩:=by unfold headR;rw [if_neg h134,if_pos h2]
      have ha:arity op=0:=by unfold arity;rw [if_neg (by omega),if_neg (by omega)]
      rw [ha] at hf
      have hI:=fun τ h=>rtext_ok s p1 0 2000 b τ h hs2 f2 (by omega)
      obtain ⟨w1,w2⟩:=rtxP_facts s p1 2000 f2
      rw [e2000] at hI
      generalize rtxP s p1 0 2000=V at *
      obtain ⟨t,P,E⟩:=V
      dsimp only at hh hI w1 w2
      have hS:=fun τ h=>tsigns_ok (σ:=τ) h t (by omega)
      subst h2
      simp (disch:=first|assumption|omega) only [go_sem,hf,t37,←hF]
      refine (hI _ (t3b _ _ _)).mono ?_
      rintro w σ1 ⟨rfl,rfl⟩
      rw [s3b]
      simp (disch:=first|assumption|omega) only [go_sem,hf,t37,s37]
      refine (hS _ (U3 _ _ _)).mono ?_
      rintro w σ1 ⟨rfl,rfl⟩
      unfold sgAV
      cases hsg:sgT t with
      | some m=>
        rw [hsg] at hh
        dsimp only
        simp (disch:=first|assumption|omega) only [go_sem]
        refine fin 0 t .zero .zero 0 true P E _ hh ?_
        simp (disch:=first|assumption|omega) only [go_sem,hf]
      | none=>
        rw [hsg] at hh
        dsimp only
        simp (disch:=first|assumption|omega) only [go_sem]
        refine fin 0 t .zero .zero 0 false P E _ hh ?_
        simp (disch:=first|assumption|omega) only [go_sem,hf]
     by_cases h5:op=5
     ·have hh:headR s op p1=⟨0,[],(refR s p1 0).1.1,.zero,0,(refR s p1 0).1.2,(refR s p1 0).2.1,(refR s p1 0).2.2⟩:=by unfold headR;rw [if_neg h134,if_neg h2,if_pos h5]
      have ha:arity op=0:=by unfold arity;rw [if_neg (by omega),if_neg (by omega)]
      rw [ha] at hf
      have hI:=fun τ h=>getref_ok s p1 0 b τ h hs f2
      generalize refR s p1 0=V at *
      obtain ⟨⟨r,ok⟩,P,E⟩:=V
      dsimp only at hh hI
      unfold refAV at hI
      subst h5
      simp (disch:=first|assumption|omega) only [go_sem,hf,t37,←hF]
      refine (hI _ (t3b _ _ _)).mono ?_
      rintro w σ1 ⟨rfl,rfl⟩
      rw [s3b]
      simp (disch:=first|assumption|omega) only [go_sem,hf,t37,s37]
      refine fin 0 [] r .zero 0 ok P E _ hh ?_
      simp (disch:=first|assumption|omega) only [go_sem,hf]
     by_cases h6:op=6
     ·have hh:headR s op p1=⟨0,[],(refR s p1 0).1.1,(refR s (refR s p1 0).2.1 (refR s p1 0).2.2).1.1,0,(refR s (refR s p1 0).2.1 (refR s p1 0).2.2).1.2 && (refR s p1 0).1.2,(refR s (refR s p1 0).2.1 (refR s p1 0).2.2).2.1,(refR s (refR s p1 0).2.1 (refR s p1 0).2.2).2.2⟩:=by
       unfold headR;rw [if_neg h134,if_neg h2,if_neg h5,if_pos h6]
      have ha:arity op=0:=by unfold arity;rw [if_neg (by omega),if_neg (by omega)]
      rw [ha] at hf
      have hI:=fun τ h=>getref_ok s p1 0 b τ h hs f2
      have r1:=refR_facts s p1 0 f2
      generalize refR s p1 0=V at *
      obtain ⟨⟨r,ok⟩,P,E⟩:=V
      dsimp only at hh hI r1
      have hJ:=fun τ h=>getref_ok s P E b τ h hs r1
      generalize refR s P E=V at *
      obtain ⟨⟨r',ok'⟩,P',E'⟩:=V
      dsimp only at hh hJ
      unfold refAV at hI hJ
      subst h6
      simp (disch:=first|assumption|omega) only [go_sem,hf,t37,←hF]
      refine (hI _ (t3b _ _ _)).mono ?_
      rintro w σ1 ⟨rfl,rfl⟩
      rw [s3b]
      simp (disch:=first|assumption|omega) only [go_sem,hf,t37,s37]
      refine (hJ _ (t3b _ _ _)).mono ?_
      rintro w σ1 ⟨rfl,rfl⟩
      rw [s3b]
      cases ok'
      all_goals
       simp (disch:=first|assumption|omega) only [go_sem,hf,t37,s37]
       refine fin 0 [] r r' 0 _ P' E' _ hh ?_
       simp (disch:=first|assumption|omega) only [go_sem,hf]
     by_cases h22:op=22
     ·have hh:headR s op p1=⟨0,(rtxP s p1 0 2000).1,.zero,.zero,min (readU s (rtxP s p1 0 2000).2.1 (rtxP s p1 0 2000).2.2).1 2001,nameOkP (rtxP s p1 0 2000).1 && decide (min (readU s (rtxP s p1 0 2000).2.1 (rtxP s p1 0 2000).2.2).1 2001<=2000),
        (readU s (rtxP s p1 0 2000).2.1 (rtxP s p1 0 2000).2.2).2.1,(readU s (rtxP s p1 0 2000).2.1 (rtxP s p1 0 2000).2.2).2.2⟩:=by
       unfold headR;rw [if_neg h134,if_neg h2,if_neg h5,if_neg h6,if_pos h22]
      have hI:=fun τ h=>rtext_ok s p1 0 2000 b τ h hs2 f2 (by omega)
      obtain ⟨w1,w2⟩:=rtxP_facts s p1 2000 f2
      rw [e2000] at hI
      generalize rtxP s p1 0 2000=V at *
      obtain ⟨t,P,E⟩:=V
      dsimp only at hh hI w1 w2
      have hS:=fun τ h=>ename_ok (σ:=τ) h t (by omega)
      have hJ:=fun τ h=>ruint_ok s P E b τ h hs2 w1
      obtain ⟨w3,_⟩:=rUq s P E w1
      generalize readU s P E=V at *
      obtain ⟨c,P',E'⟩:=V
      dsimp only at hh hJ w3
      have hmn:min (c:Int) 2001=((min c 2001:Nat):Int):=by omega
      generalize hc:min c 2001=cnt at *
      have hcw:IntKind.wrap .i64 (cnt:Int)=cnt:=by rw [IntKind.wrap_i64];omega
      have hdc:decide ((cnt:Int)<=2000)=decide (cnt<=2000):=decide_eq_decide.2 (by omega)
      subst h22
      simp (disch:=first|assumption|omega) only [go_sem,hf,t37,←hF]
      refine (hI _ (t3b _ _ _)).mono ?_
      rintro w σ1 ⟨rfl,rfl⟩
      rw [s3b]
      simp (disch:=first|assumption|omega) only [go_sem,hf,t37,s37]
      refine (hJ _ (t3b _ _ _)).mono ?_
      rintro w σ1 ⟨rfl,rfl⟩
      rw [s3b]
      simp (disch:=first|assumption|omega) only [go_sem,hf,t37,hmn]
      refine (hS _ (U3 _ _ _)).mono ?_
      rintro w σ1 ⟨rfl,rfl⟩
      cases hno:nameOkP t with
      | false=>
        rw [hno] at hh
        simp (disch:=first|assumption|omega) only [go_sem]
        refine fin 0 t .zero .zero cnt false P' E' _ hh ?_
        simp (disch:=first|assumption|omega) only [go_sem,hf]
      | true=>
        rw [hno,Bool.true_and] at hh
        simp (disch:=first|assumption|omega) only [go_sem,hdc]
        refine fin 0 t .zero .zero cnt (decide (cnt<=2000)) P' E' _ hh ?_
        simp (disch:=first|assumption|omega) only [go_sem,hf]
     have hh:headR s op p1=⟨0,[],.zero,.zero,arity op,true,p1,0⟩:=by unfold headR;rw [if_neg h134,if_neg h2,if_neg h5,if_neg h6,if_neg h22]
     simp (disch:=first|assumption|omega) only [go_sem,hf,g1,g3,g4,h2,h5,h6,h22,t37,←hF]
     refine fin 0 [] .zero .zero (arity op) true p1 0 _ hh ?_
     simp (disch:=first|assumption|omega) only [go_sem,hf]
    clear fin
    rw [hZ12] at brs
    unfold zero12 at brs
    simp (disch:=first|assumption|omega) only [go_sem,hT3,s37,t37,←hB]
    refine hki.use ?_
    simp (disch:=first|assumption|omega) only [go_sem]
    refine brs _ ?_
    simp (disch:=first|assumption|omega) only [go_sem]
   ·rw [if_pos he] at hR
    subst hR
    simp (disch:=first|assumption|omega) only [go_sem,he]
    refine (rerr_ok s p1 e1 b _ (t2b _ _)).mono ?_
    rintro v σ1 ⟨rfl,rfl⟩
    rw [hQ]
    simp (disch:=first|assumption|omega) only [go_sem,t24,s24]
    exact retC_by (d2 _ _) (.refl _) ⟨rfl,rfl⟩
end Go.A
namespace Go.A
open Go.Proofs Go.Lib Go.Vint
theorem arity_0 {op:Int} (h:op=1\/op=2\/op=3\/op=4\/op=5\/op=6):arity op=0:=by
 unfold arity
 rw [if_neg (by omega),if_neg (by omega)]
theorem drop_len {s l r:List UInt8} {p:Nat} (h:s.drop p=l++r):s.length-p=l.length+r.length:=by
 have:=congrArg List.length h
 rwa [List.length_drop,List.length_append] at this
theorem rtx_back {s t r:List UInt8} {p most:Nat} (h:s.drop p=textB t++r) (ht:t.length<=most) (hm:most<=1000000):rtxP s p 0 most=(t,p+(textB t).length,0):=by
 unfold textB at h ⊢
 rw [List.append_assoc] at h
 have hU:=readU_uint h (by omega)
 have hd:=drop_app h
 have hl:=drop_len h
 rw [List.length_append] at hl
 have hp:=uintB_pos t.length
 unfold rtxP
 rw [hU]
 dsimp only
 rw [if_neg (by simp),if_neg (by omega),if_neg (by omega),hd,List.take_left,List.length_append,Nat.add_assoc]
theorem ref_back {s q:List UInt8} {r:Ref} {p:Nat} (h:s.drop p=rfB r++q) (hr:r.good=true):refR s p 0=((r,true),p+(rfB r).length,0):=by
 obtain ⟨r1,r2,r3,r4⟩:=good_bd hr
 obtain ⟨row,col,ar,ac⟩:=r
 dsimp only at r1 r2 r3 r4
 obtain ⟨w,hw⟩:∃ w,absN ⟨row,col,ar,ac⟩+4*row.toNat=w:=⟨_,rfl⟩
 have hw3:absN ⟨row,col,ar,ac⟩<=3:=by unfold absN;split<;>split<;>omega
 unfold rfB at h ⊢
 rw [hw] at h ⊢
 dsimp only at h ⊢
 rw [List.append_assoc] at h
 have hU:=readU_uint h (by omega)
 have hd:=drop_app h
 have hV:=readU_uint hd (by omega)
 unfold refR
 rw [hU]
 dsimp only
 rw [hV]
 dsimp only
 rw [if_neg (by omega),List.length_append,Nat.add_assoc]
 have e1:((w / 4:Nat):Int)=row:=by omega
 have e2:((col.toNat:Nat):Int)=col:=by omega
 have e3:decide (w % 2=1)=ar:=by
  unfold absN at hw
  cases ar<;>cases ac<;>simp only [Bool.false_eq_true,if_false,if_true] at hw<;>simp<;>omega
 have e4:decide (w / 2 % 2=1)=ac:=by
  unfold absN at hw
  cases ar<;>cases ac<;>simp only [Bool.false_eq_true,if_false,if_true] at hw<;>simp<;>omega
 rw [e1,e2,e3,e4]
theorem value_back {op n:Int} {s:List UInt8} {a b:Ref} {k:Nat} (h:GdN op n s a b k) (h1:op=1\/op=3\/op=4):valueP op n=true:=by
 have n1:=h.n1
 have n3:=h.n3
 have n4:=h.n4
 unfold valueP
 by_cases c3:op=3
 ·rw [if_pos c3]
  have:=n3 c3
  simpa using this
 rw [if_neg c3]
 by_cases c4:op=4
 ·rw [if_pos c4]
  obtain ⟨m1,m2,m3⟩:=n4 c4
  have hm:=Int.mul_tdiv_add_tmod n 10000
  have hf:failT 4 n ≠ []:=by
   unfold failT
   rw [if_neg (by omega)]
   have hc:n.tdiv 10000=1\/n.tdiv 10000=2\/n.tdiv 10000=3\/n.tdiv 10000=4\/n.tdiv 10000=5\/n.tdiv 10000=6\/n.tdiv 10000=7:=by omega
   rcases hc with hc|hc|hc|hc|hc|hc|hc<;>(rw [hc];decide)
  simp [m1,hf]
 rw [if_neg c4]
 have:=n1 (by omega)
 simp;omega
theorem head_back {s r:List UInt8} {op n:Int} {s':List UInt8} {a b:Ref} {k p:Nat} (hg:GdN op n s' a b k) (h:s.drop p=restB op n s' a b k++r):headR s op p=⟨n,s',a,b,k,true,p+(restB op n s' a b k).length,0⟩:=by
 have hn:=hg.num
 unfold headR
 unfold restB at h ⊢
 by_cases c1:op=1\/op=3\/op=4
 ·rw [if_pos c1] at h ⊢
  rw [if_pos c1]
  have hfb:=foldI_bd (n:=n) (by omega) (by omega)
  rw [readU_uint h (by omega)]
  dsimp only
  rw [unf_fold (by omega) (by omega),value_back hg c1,hg.s0 (by omega) (by omega),hg.a0 (by omega) (by omega),hg.b0 (by omega),hg.ar (by omega),arity_0 (by omega)]
 rw [if_neg c1] at h ⊢
 rw [if_neg c1]
 by_cases c2:op=2
 ·rw [if_pos c2] at h ⊢
  rw [if_pos c2,rtx_back h (hg.s2 c2).1 (by omega)]
  dsimp only
  rw [(hg.s2 c2).2,hg.n0 (by omega) (by omega) (by omega),hg.a0 (by omega) (by omega),hg.b0 (by omega),hg.ar (by omega),arity_0 (by omega)]
 rw [if_neg c2] at h ⊢
 rw [if_neg c2]
 by_cases c5:op=5
 ·rw [if_pos c5] at h ⊢
  rw [if_pos c5,ref_back h (hg.ga (.inl c5))]
  dsimp only
  rw [hg.n0 (by omega) (by omega) (by omega),hg.s0 (by omega) (by omega),hg.b0 (by omega),hg.ar (by omega),arity_0 (by omega)]
 rw [if_neg c5] at h ⊢
 rw [if_neg c5]
 by_cases c6:op=6
 ·rw [if_pos c6] at h ⊢
  rw [List.append_assoc] at h
  rw [if_pos c6,ref_back h (hg.ga (.inr c6))]
  dsimp only
  rw [ref_back (drop_app h) (hg.gb c6)]
  dsimp only
  rw [hg.n0 (by omega) (by omega) (by omega),hg.s0 (by omega) (by omega),hg.ar (by omega),arity_0 (by omega),List.length_append,Nat.add_assoc]
  rfl
 rw [if_neg c6] at h ⊢
 rw [if_neg c6]
 by_cases c22:op=22
 ·rw [if_pos c22] at h ⊢
  obtain ⟨g1,g2,g3⟩:=hg.s22 c22
  rw [List.append_assoc] at h
  rw [if_pos c22,rtx_back h g1 (by omega)]
  dsimp only
  rw [readU_uint (drop_app h) (by omega)]
  dsimp only
  have hmn:min k 2001=k:=by omega
  rw [hmn,g2,decide_eq_true g3,hg.n0 (by omega) (by omega) (by omega),hg.a0 (by omega) (by omega),hg.b0 (by omega),List.length_append,Nat.add_assoc]
  rfl
 rw [if_neg c22]
 rw [if_neg c22]
 rw [hg.n0 (by omega) (by omega) (by omega),hg.s0 c2 c22,hg.a0 c5 c6,hg.b0 c6,← hg.ar c22]
 rfl
theorem kids_back {s:List UInt8} {g:Nat->Nd×Int×Nat×Int} (mk:List Nd->Nd):∀ (ks D:List Nd) (p:Nat) (r:List UInt8),(∀ x∈ks,∀ p r,s.drop p=x.bytes++r->g p=(x,0,p+x.bytes.length,0)) →
  s.drop p=Nd.bytess ks++r->kidsR g mk ks.length D p=(mk (D++ks),0,p+(Nd.bytess ks).length,0)
 | [],D,p,r,_,_=>by rw [List.length_nil,kidsR,List.append_nil];rfl
 | x::ks,D,p,r,hg,h=>by
   rw [Nd.bytess,List.append_assoc] at h
   rw [List.length_cons,kidsR,hg x (by simp) p _ h]
   dsimp only
   rw [if_neg (by simp),kids_back mk ks (D ++ [x]) _ r (fun y hy=>hg y (by simp [hy])) (drop_app h),Nd.bytess,List.length_append,Nat.add_assoc,List.append_assoc]
   rfl
theorem tree_back {s:List UInt8}:∀ (k:Nat) (n:Nd),n.wd->n.depth<=k->∀ (p:Nat) (r:List UInt8),s.drop p=n.bytes++r->treeR s k p=(n,0,p+n.bytes.length,0)
 | 0,n,_,hd=>by cases n;rw [Nd.depth] at hd;omega
 | k+1,n,hg,hd=>by
   intro p r h
   obtain ⟨op,m,s',a,b,ks⟩:=n
   rw [Nd.wd] at hg
   obtain ⟨hg,hgs⟩:=hg
   rw [Nd.depth] at hd
   have hk:∀ x∈ks,x.depth<=k:=by
    have key:∀ l:List Nd,Nd.depths l<=k->∀ x∈l,x.depth<=k:=by
     intro l
     induction l with
     | nil=>intro _ x hx;cases hx
     | cons y l ih=>
       intro hl x hx
       rw [Nd.depths] at hl
       rcases List.mem_cons.1 hx with rfl|hx
       ·omega
       ·exact ih (by omega) x hx
    exact key ks (by omega)
   have o1:=hg.op1
   have o2:=hg.op2
   obtain ⟨u,rfl⟩:∃ u:Nat,op=u:=⟨op.toNat,by omega⟩
   rw [Nd.bytes,Int.toNat_natCast] at h ⊢
   rw [List.append_assoc,List.append_assoc] at h
   have hU:=readU_uint h (by omega)
   have h2:=drop_app h
   have hH:=head_back hg h2
   have h3:=drop_app h2
   have hK:=kids_back (g:=treeR s k) (fun ks=>Nd.mk (u:Int) m s' a b ks) ks [] _ r (fun x hx p r hp=>tree_back k x (Nd.wds_mem.1 hgs x hx) (hk x hx) p r hp) h3
   rw [treeR,hU]
   dsimp only
   rw [hH]
   dsimp only
   rw [if_neg (by simp),if_neg (by omega),if_neg (by simp),if_neg (by simp),hK,List.length_append,List.length_append,List.nil_append,← Nat.add_assoc,← Nat.add_assoc]
end Go.A
namespace Go.A
open Go.Proofs
/-! 96: tabular/expr.Read -/
def c96_3:ACode := .seq (.ops [ oe 2 (.alloc [(.int .i64 0),(.int .i64 0),(.str []),(.int .i64 0),(.int .i64 0),(.bool false),(.bool false),(.int .i64 0),(.int .i64 0),(.bool false),(.bool false),(.sl .full [])]),oq 3 (.mv (.v (.int .i64 0)))]) (.seq (.ops [ oq 4 (.mv (.t 0)),oe 5 (.call 146 [(.t 4),(.v (.int .i64 0))]),oq 6 (.ext 0 (.t 5)),oq 7 (.ext 1 (.t 5)),oz (.store 12 (.t 2) (.t 6)),oq 3 (.mv (.t 7))]) .ret)
@[go_sem] def c96_3_wp:=wp_of c96_3.eq_1
def c96:AFn:=⟨8,[.c 2 (some 12),.t 3],c96_3⟩
theorem c96_ok:compF Tryz.prog Tryz.f96=some c96:=by kernel_rfl
theorem a96 {args:List AV} {σ:ASt} {R:AV->ASt->Prop} (hl:args.length<=8) (h:c96_3.wp Tryz.prog (RetQ [.c 2 (some 12),.t 3] R) (init args) σ):ACalls Tryz.prog 96 args σ R:=aFq Tryz.func96 c96_ok hl h
end Go.A
namespace Go.A
open Go.Proofs Go.Lib Go.Vint
theorem eReadP_ok (s:List UInt8) (hs:s.length<=10000000) (b p:Nat) (hp:p<=s.length) (σ:ASt) (hU:U8 σ) (hb:σ b=rd s p 0) :
  ACalls Tryz.prog 96 [.ptr b 0] σ fun v σ'=>v = .tuple [(treeR s 2101 p).1.av,.int .i64 (treeR s 2101 p).2.1]/\σ'=σ.set b (rd s (treeR s 2101 p).2.2.1 (treeR s 2101 p).2.2.2):=by
 have hR:=read_le s hs b 2101 p (Nat.le_refl _) hp
 rw [show (2101:Int)-((2101:Nat):Int)=0 by decide] at hR
 generalize treeR s 2101 p=R at *
 obtain ⟨n,e,P,E⟩:=R
 dsimp only at *
 obtain ⟨o,m,t,x,y,ks⟩:=n
 rw [Nd.av_cs] at *
 generalize ks.map Nd.av=KL at *
 refine a96 (by simp) ?_
 simp (disch:=first|assumption|omega) only [go_sem]
 refine aBq fun d hd=>?_
 have hbd:b≠d:=by rintro rfl;rw [hb] at hd;cases hd
 have hsw2:∀ (X Y Z:Option Role),((σ.set d X).set b Y).set d Z=(σ.set b Y).set d Z:=fun X Y Z=>by rw [set_swap (Ne.symm hbd),ASt.set_set]
 have hdd:∀ X Y:Option Role,Drop ((σ.set b X).set d Y) (σ.set b X):=fun X Y=>Drop.set (by rw [ASt.set_ne (Ne.symm hbd)];exact hd)
 have hdr:∀ X Y:Option Role,((σ.set d X).set b Y) d=X:=fun X Y=>by rw [ASt.set_ne (Ne.symm hbd),ASt.set_same]
 simp (disch:=first|assumption|omega) only [go_sem]
 refine (hR _ (hU.set hd) (by rw [ASt.set_ne hbd];exact hb)).mono ?_
 rintro v σ1 ⟨rfl,rfl⟩
 simp (disch:=first|assumption|omega) only [go_sem,hdr,hsw2]
 exact retC_by (hdd _ _) (.refl _) ⟨rfl,rfl⟩
theorem W.new {σ:ASt} {b:Nat} (hb:σ b=none):W σ b [] (σ.set b (some (.obj [.sl .full []]))):=⟨.full,.inl ⟨rfl,rfl,rfl⟩⟩
theorem W.at {σ0 σ:ASt} {b x:Nat} {l:List UInt8} {r:Role} (h:W σ0 b l σ) (hx:x≠b) (h0:σ0 x=some r):σ x=some r:=by
 obtain ⟨k,hg⟩:=h
 exact hg.at (by rw [ASt.set_ne hx];exact h0)
theorem W.drop {σ0 σ:ASt} {b:Nat} {l:List UInt8} (h:W σ0 b l σ) (hb:σ0 b=none):Drop σ σ0:=by
 obtain ⟨k,hg⟩:=h
 exact Drop.trans hg.drop (Drop.set hb)
end Go.A
namespace Go.A
open Go.Proofs
/-! 20: (*tabular/tile.Tile).Write -/
def c20_14:ACode := .seq (.ops [ oq 17 (.bin .lss (.t 16) (.v (.int .i64 32)))]) (.seq (.cond (.t 17) .skip (.exit 0)) (.seq (.block 1 (.seq (.ops [ oq 18 (.mv (.t 16)),oq 6 (.mv (.t 18))]) (.ops [ oq 19 (.mv (.t 0)),oq 20 (.mv (.t 1)),oq 21 (.mv (.t 6)),oq 23 (.nc (.t 19)),oe 22 (.call 42 [(.t 20),(.t 21)]),oq 24 (.iaa 32 13 (.t 23) (.t 22)),oq 25 (.ld (some 13) (.t 24)),oe 26 (.call 41 [(.t 5),(.t 25)])]))) (.ops [ oq 27 (.bin .add (.t 16) (.v (.int .i64 1))),oq 16 (.mv (.t 27))])))
def c20_37:ACode := .seq (.ops [ oq 30 (.bin .lss (.t 29) (.v (.int .i64 32)))]) (.seq (.cond (.t 30) .skip (.exit 2)) (.seq (.block 3 (.seq (.ops [ oq 31 (.mv (.t 29)),oq 8 (.mv (.t 31))]) (.seq (.ops [ oq 32 (.mv (.t 0)),oq 33 (.mv (.t 8)),oq 34 (.nc (.t 32)),oq 35 (.iaa 32 13 (.t 34) (.t 33)),oq 36 (.ld (some 13) (.t 35)),oe 37 (.call 12 [(.t 36)]),oq 38 (.un .not (.t 37))]) (.cond (.t 38) (.ops [ oq 39 (.mv (.t 7)),oq 40 (.mv (.t 8)),oq 41 (.conv .u64 (.t 40)),oq 42 (.bsl 1 [(.t 41)]),oe 43 (.app 94 1 8 [(.int .u64 0)] (.t 39) (.t 42)),oq 7 (.mv (.t 43))]) .skip)))) (.ops [ oq 44 (.bin .add (.t 29) (.v (.int .i64 1))),oq 29 (.mv (.t 44))])))
def c20_52:ACode := .seq (.ops [ oq 50 (.bin .lss (.t 49) (.t 48))]) (.seq (.cond (.t 50) .skip (.exit 4)) (.seq (.block 5 (.seq (.ops [ oq 51 (.ia 1 (.t 47) (.t 49)),oq 52 (.ld none (.t 51)),oq 10 (.mv (.t 52))]) (.ops [ oq 53 (.mv (.t 0)),oq 54 (.mv (.t 10)),oq 55 (.nc (.t 53)),oq 56 (.iaa 32 13 (.t 55) (.t 54)),oq 57 (.ld (some 13) (.t 56)),oe 58 (.call 41 [(.t 5),(.t 57)])]))) (.ops [ oq 59 (.bin .add (.t 49) (.v (.int .i64 1))),oq 49 (.mv (.t 59))])))
def c20_65:ACode := .seq (.ops [ oq 4 (.mv (.v (.str [])))]) (.seq (.ops [ oe 5 (.alloc [(.sl .full [])])]) (.seq (.ops [ oq 11 (.mv (.t 1)),oq 12 (.conv .u64 (.t 11)),oe 13 (.call 40 [(.t 5),(.t 12)])]) (.seq (.seq (.ops [ oq 14 (.mv (.t 1)),oq 15 (.bin .neq (.t 14) (.v (.int .i64 3)))]) (.cond (.t 15) (.seq (.seq (.ops [ oq 16 (.mv (.v (.int .i64 0)))]) (.block 0 (.loop c20_14))) (.seq (.ops [ oe 28 (.call 43 [(.t 5)]),oq 4 (.mv (.t 28))]) .ret)) .skip)) (.seq (.ops [ oq 7 (.mv (.v (.sl .full [])))]) (.seq (.seq (.ops [ oq 29 (.mv (.v (.int .i64 0)))]) (.block 2 (.loop c20_37))) (.seq (.ops [ oq 45 (.mv (.t 7)),oe 46 (.call 44 [(.t 5),(.t 45)])]) (.seq (.seq (.ops [ oq 47 (.mv (.t 7)),oq 48 (.len (.t 47)),oq 49 (.mv (.v (.int .i64 0)))]) (.block 4 (.loop c20_52))) (.seq (.ops [ oe 60 (.call 43 [(.t 5)]),oq 4 (.mv (.t 60))]) .ret))))))))
@[go_sem] def c20_14_wp:=wp_of c20_14.eq_1
@[go_sem] def c20_37_wp:=wp_of c20_37.eq_1
@[go_sem] def c20_52_wp:=wp_of c20_52.eq_1
@[go_sem] def c20_65_wp:=wp_of c20_65.eq_1
def c20:AFn:=⟨61,[.t 4],c20_65⟩
theorem c20_ok:compF Tryz.prog Tryz.f20=some c20:=by kernel_rfl
theorem a20 {args:List AV} {σ:ASt} {R:AV->ASt->Prop} (hl:args.length<=61) (h:c20_65.wp Tryz.prog (RetQ [.t 4] R) (init args) σ):ACalls Tryz.prog 20 args σ R:=aFq Tryz.func20 c20_ok hl h
end Go.A
end
