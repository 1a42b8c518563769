/- Part 10 of what TabularSpelled leans on: Qe Qf Qd Qg Qh Su CodeVd Vd CodeVe Ve CodeVf Vf Vke CodeEm. -/
import Derived.Test.YthdpkgfdjmeaiaaGreatDoorProg
import Derived.KernelRfl
import Derived.Test.YthdpkgfdjmeaiaaGreatDoorZTabularSpelledi
set_option linter.defProp false
set_option linter.unusedSimpArgs false
set_option linter.unusedVariables false
set_option maxRecDepth 100000
namespace Go.A
open Go.Proofs Go.Lib
abbrev KT:=Int×List UInt8
def kt (t:Tok):KT:=(t.kind,t.text)
def kts:Rel->Option (List KT)
 | .inl _=>none
 | .inr (ts,_)=>some (ts.map kt)
theorem kts_step {x y:List UInt8} (hx:x ≠ []) {k:Int} {t:List UInt8} (h:stepP (x++y) = .tok k t x.length):kts (relP (x++y))=(kts (relP y)).map ([(k,t)] ++ ·):=by
 rw [relP_step (by simp [hx]),h]
 dsimp only
 rw [List.drop_left]
 cases hr:relP y with
 | inl j=>rfl
 | inr v=>simp [Rel.sh,kts,Function.comp_def,Tok.sh,kt]
def Lx (P:List UInt8->Prop) (x:List UInt8) (ts:List KT):Prop:=∀ y,P y->kts (relP (x++y))=(kts (relP y)).map (ts ++ ·)
theorem Lx.nil (P:List UInt8->Prop):Lx P [] []:=fun y _=>by
 cases h:kts (relP y)<;>simp [h]
theorem Lx.app {P Q:List UInt8->Prop} {x y:List UInt8} {ts us:List KT} (h:Lx P x ts) (k:Lx Q y us) (hp:∀ z,Q z->P (y++z)):Lx Q (x++y) (ts++us):=fun z hz=>by
 rw [List.append_assoc,h _ (hp z hz),k z hz,Option.map_map]
 congr 1
 funext l
 simp
theorem Lx.one {P:List UInt8->Prop} {x:List UInt8} {k:Int} {t:List UInt8} (hx:x ≠ []) (h:∀ y,P y->stepP (x++y) = .tok k t x.length):Lx P x [(k,t)]:=fun y hy=>kts_step hx (h y hy)
theorem Lx.weak {P Q:List UInt8->Prop} {x:List UInt8} {ts:List KT} (h:Lx P x ts) (hp:∀ z,Q z->P z):Lx Q x ts:=fun z hz=>h z (hp z hz)
def Bd (y:List UInt8):Prop:=y = []\/∃ c t,y=c::t/\c∈opChars
def Any (_:List UInt8):Prop:=True
def NoW (y:List UInt8):Prop:=∀ c t,y=c::t->wordB c=false
def OpSt (y:List UInt8):Prop:=∃ c t,y=c::t/\c≠61/\c≠62
theorem ops_now:∀ c∈opChars,wordB c=false/\c≠34:=by decide
theorem Bd.nw {y:List UInt8} (h:Bd y):NoW y:=by
 intro c t e
 rcases h with rfl|⟨d,u,rfl,hd⟩
 ·cases e
 ·injection e with e1 _;subst e1;exact (ops_now d hd).1
theorem bd_cons {c:UInt8} (h:c∈opChars) (z:List UInt8):Bd (c::z) := .inr ⟨c,z,rfl,h⟩
/-! Single steps. -/
theorem step_sg (c:UInt8) (r:List UInt8) (h:c ∈ [(43:UInt8),45,42,47,94,38,61,37,40,41,58,44]):stepP (c::r) = .tok 6 [c] 1:=by
 have hd:decodeL (c::r)=(c.toNat,1):=dec_one c r (by revert c;decide)
 unfold stepP opS
 rw [hd]
 simp only [List.mem_cons,List.not_mem_nil,or_false] at h
 rcases h with rfl|rfl|rfl|rfl|rfl|rfl|rfl|rfl|rfl|rfl|rfl|rfl<;>simp (config := { decide:=true }) [twoS,twos,List.isPrefixOf,opChars]
theorem step_lt (r:List UInt8) (h:OpSt r):stepP (60::r) = .tok 6 [60] 1:=by
 obtain ⟨c,t,rfl,h1,h2⟩:=h
 have hd:decodeL (60::c::t)=(60,1):=dec_one 60 _ (by decide)
 unfold stepP opS
 rw [hd]
 have e1:(61==c)=false:=by simpa using fun e:(61:UInt8)=c=>h1 e.symm
 have e2:(62==c)=false:=by simpa using fun e:(62:UInt8)=c=>h2 e.symm
 simp (config := { decide:=true }) [twoS,twos,List.isPrefixOf,opChars,e1,e2]
theorem step_gt (r:List UInt8) (h:OpSt r):stepP (62::r) = .tok 6 [62] 1:=by
 obtain ⟨c,t,rfl,h1,h2⟩:=h
 have hd:decodeL (62::c::t)=(62,1):=dec_one 62 _ (by decide)
 unfold stepP opS
 rw [hd]
 have e1:(61==c)=false:=by simpa using fun e:(61:UInt8)=c=>h1 e.symm
 simp (config := { decide:=true }) [twoS,twos,List.isPrefixOf,opChars,e1]
theorem step_two (e r:List UInt8) (h:e∈twos):stepP (e++r) = .tok 6 e 2:=by
 simp only [twos,List.mem_cons,List.not_mem_nil,or_false] at h
 rcases h with rfl|rfl|rfl
 ·have hd:decodeL (60::61::r)=(60,1):=dec_one 60 _ (by decide)
  show stepP (60::61::r)=_
  unfold stepP opS
  rw [hd]
  simp (config := { decide:=true }) [twoS,twos,List.isPrefixOf]
 ·have hd:decodeL (62::61::r)=(62,1):=dec_one 62 _ (by decide)
  show stepP (62::61::r)=_
  unfold stepP opS
  rw [hd]
  simp (config := { decide:=true }) [twoS,twos,List.isPrefixOf]
 ·have hd:decodeL (60::62::r)=(60,1):=dec_one 60 _ (by decide)
  show stepP (60::62::r)=_
  unfold stepP opS
  rw [hd]
  simp (config := { decide:=true }) [twoS,twos,List.isPrefixOf]
theorem lx_sg (c:UInt8) (h:c ∈ [(43:UInt8),45,42,47,94,38,61,37,40,41,58,44]):Lx Any [c] [(6,[c])]:=Lx.one (by simp) fun y _=>step_sg c y h
theorem lx_sign (i:Nat) (h:i<12):Lx OpSt (signL.getD i []) [(6,signL.getD i [])]:=by
 have two:∀ e∈twos,Lx OpSt e [(6,e)]:=fun e he=>Lx.one (by revert e;decide) fun y _=>by
  rw [step_two e y he]
  congr 1
  revert e;decide
 have one:∀ c ∈ [(43:UInt8),45,42,47,94,38,61,37,40,41,58,44],Lx OpSt [c] [(6,[c])]:=fun c hc=>(lx_sg c hc).weak fun _ _=>trivial
 match i,h with
 | 0,_=>exact one 43 (by decide)
 | 1,_=>exact one 45 (by decide)
 | 2,_=>exact one 42 (by decide)
 | 3,_=>exact one 47 (by decide)
 | 4,_=>exact one 94 (by decide)
 | 5,_=>exact one 38 (by decide)
 | 6,_=>exact one 61 (by decide)
 | 7,_=>exact two _ (by decide)
 | 8,_=>exact Lx.one (by decide) fun y hy=>step_lt y hy
 | 9,_=>exact two _ (by decide)
 | 10,_=>exact Lx.one (by decide) fun y hy=>step_gt y hy
 | 11,_=>exact two _ (by decide)
 | i+12,h=>omega
theorem sign_bd (i:Nat) (h:i<12) (z:List UInt8):Bd (signL.getD i []++z):=by
 match i,h with
 | 0,_|1,_|2,_|3,_|4,_|5,_|6,_|7,_|8,_|9,_|10,_|11,_=>exact .inr ⟨_,_,rfl,by decide⟩
 | i+12,h=>omega
/-! Words. -/
theorem word_lt (c:UInt8) (h:wordB c=true):c.toNat<128/\c.toNat≠32/\c.toNat≠9/\c.toNat≠10:=by
 unfold wordB at h
 simp only [decide_eq_true_eq] at h
 omega
theorem step_word {w y:List UInt8} (hw:w ≠ []) (ha:∀ c∈w,wordB c=true) (hy:NoW y):stepP (w++y)=if numB w then .tok 1 w w.length else if refB w then .tok 4 (greatP w) w.length else if nameB w then .tok 3 (greatP w) w.length else .bad 0:=by
 obtain ⟨c,v,rfl⟩:∃ c v,w=c::v:=by
  cases w with
  | nil=>exact absurd rfl hw
  | cons c v=>exact ⟨c,v,rfl⟩
 have hc:=ha c (by simp)
 obtain ⟨h1,h2,h3,h4⟩:=word_lt c hc
 have hd:decodeL (c::v++y)=(c.toNat,1):=dec_one c _ h1
 have hr:runL wordB (c::v++y)=(c::v).length:=runL_app (fun d hd=>by
  cases y with
  | nil=>cases hd
  | cons e t=>injection hd with hd;subst hd;exact hy e t rfl) ha
 have hu:UInt8.ofNat c.toNat=c:=by simp
 have ht:(c::v++y).take (c::v).length=c::v:=List.take_left
 unfold stepP wordsS
 rw [hd]
 dsimp only
 rw [if_neg (by intro e;injection e with e _;omega),if_neg (by omega),hu,if_pos ⟨h1,hc⟩,hr,ht]
theorem lx_num {w:List UInt8} (hw:w ≠ []) (ha:∀ c∈w,wordB c=true) (h:numB w=true):Lx NoW w [(1,w)]:=Lx.one hw fun y hy=>by rw [step_word hw ha hy,if_pos h]
theorem lx_ref {w:List UInt8} (hw:w ≠ []) (ha:∀ c∈w,wordB c=true) (h:numB w=false) (h2:refB w=true) (h3:greatP w=w):Lx NoW w [(4,w)]:=Lx.one hw fun y hy=>by rw [step_word hw ha hy,if_neg (by simp [h]),if_pos h2,h3]
structure NameOk (w:List UInt8):Prop where
 word:∀ c∈w,wordB c=true
 name:nameB w=true
 num:numB w=false
 ref:refB w=false
 great:greatP w=w
theorem lx_name {w:List UInt8} (h:NameOk w):Lx NoW w [(3,w)]:=Lx.one (nameB_ne h.name) fun y hy=>by rw [step_word (nameB_ne h.name) h.word hy,if_neg (by simp [h.num]),if_neg (by simp [h.ref]),if_pos h.name,h.great]
theorem true_name:NameOk [84,82,85,69]:=⟨by decide,by decide +kernel,by decide +kernel,by decide +kernel,by decide +kernel⟩
theorem false_name:NameOk [70,65,76,83,69]:=⟨by decide,by decide +kernel,by decide +kernel,by decide +kernel,by decide +kernel⟩
/-! Numbers. -/
theorem dig_word {c:UInt8} (h:48<=c.toNat/\c.toNat<=57):wordB c=true/\digB c=true/\c≠46:=by
 refine ⟨decide_eq_true (.inl h),decide_eq_true h,?_⟩
 rintro rfl
 exact absurd h (by decide)
theorem cutDot_no:∀ l:List UInt8,(∀ c∈l,c≠46)->cutDot l=(l,none)
 | [],_=>rfl
 | c::l,h=>by
   have hc:c.toNat≠46:=fun e=>h c (by simp) (UInt8.toNat_inj.1 e)
   rw [cutDot,if_neg hc,cutDot_no l fun d hd=>h d (by simp [hd])]
theorem cutDot_at:∀ (l p:List UInt8),(∀ c∈l,c≠46)->cutDot (l++46::p)=(l,some p)
 | [],p,_=>by rw [List.nil_append,cutDot,if_pos (by decide)]
 | c::l,p,h=>by
   have hc:c.toNat≠46:=fun e=>h c (by simp) (UInt8.toNat_inj.1 e)
   rw [List.cons_append,cutDot,if_neg hc,cutDot_at l p fun d hd=>h d (by simp [hd])]
theorem text_num {a:Int} (h0:0<=a):textD a ≠ []/\(∀ c∈textD a,wordB c=true)/\numB (textD a)=true:=by
 obtain ⟨d1,d2⟩:=dd_all (a.natAbs / 10000)
 have hp:a.natAbs % 10000<10000:=by omega
 unfold textD
 rw [if_neg (by omega),List.nil_append]
 by_cases hz:a.natAbs % 10000=0
 ·have e:placesP (a.natAbs % 10000) = []:=by rw [placesP,if_pos hz]
  rw [e,List.append_nil]
  refine ⟨d2,fun c hc=>(dig_word (d1 c hc)).1,?_⟩
  unfold numB
  rw [cutDot_no _ fun c hc=>(dig_word (d1 c hc)).2.2]
  dsimp only
  rw [decide_eq_true d2,Bool.true_and,List.all_eq_true]
  exact fun c hc=>(dig_word (d1 c hc)).2.1
 ·have e:placesP (a.natAbs % 10000)=46::Lib.trimRightB (fourP (a.natAbs % 10000)) 48:=by rw [placesP,if_neg hz,dd_four hp]
  rw [e]
  have hf:∀ c∈fourP (a.natAbs % 10000),48<=c.toNat/\c.toNat<=57:=by
   unfold fourP
   intro c hc
   simp only [List.mem_cons,List.not_mem_nil,or_false] at hc
   rcases hc with rfl|rfl|rfl|rfl<;>rw [dig_nat (by omega)]<;>omega
  have t1:=trim_back 48 (fourP (a.natAbs % 10000))
  have t2:(Lib.trimRightB (fourP (a.natAbs % 10000)) 48).length<=4:=by
   have:=congrArg List.length t1
   rw [List.length_append] at this
   have e4:(fourP (a.natAbs % 10000)).length=4:=rfl
   omega
  have t3:Lib.trimRightB (fourP (a.natAbs % 10000)) 48 ≠ []:=by
   intro h
   have h1:=trim_nil h
   unfold fourP at h1
   have g1:=congrArg UInt8.toNat (h1 (UInt8.ofNat (48+a.natAbs % 10000 / 1000)) (by simp))
   have g2:=congrArg UInt8.toNat (h1 (UInt8.ofNat (48+a.natAbs % 10000 / 100 % 10)) (by simp))
   have g3:=congrArg UInt8.toNat (h1 (UInt8.ofNat (48+a.natAbs % 10000 / 10 % 10)) (by simp))
   have g4:=congrArg UInt8.toNat (h1 (UInt8.ofNat (48+a.natAbs % 10000 % 10)) (by simp))
   rw [dig_nat (by omega)] at g1 g2 g3 g4
   have e48:(48:UInt8).toNat=48:=rfl
   rw [e48] at g1 g2 g3 g4
   omega
  have ht:∀ c∈Lib.trimRightB (fourP (a.natAbs % 10000)) 48,48<=c.toNat/\c.toNat<=57:=fun c hc=>hf c (trim_sub _ _ c hc)
  generalize Lib.trimRightB (fourP (a.natAbs % 10000)) 48=q at *
  refine ⟨by simp,fun c hc=>?_,?_⟩
  ·rcases List.mem_append.1 hc with hc|hc
   ·exact (dig_word (d1 c hc)).1
   ·rcases List.mem_cons.1 hc with rfl|hc
    ·decide
    ·exact (dig_word (ht c hc)).1
  ·unfold numB
   rw [cutDot_at _ _ fun c hc=>(dig_word (d1 c hc)).2.2]
   dsimp only
   rw [decide_eq_true d2,decide_eq_true t3,decide_eq_true t2,Bool.true_and,Bool.true_and,Bool.true_and,List.all_eq_true]
   intro c hc
   rcases List.mem_append.1 hc with hc|hc
   ·exact (dig_word (d1 c hc)).2.1
   ·exact (dig_word (ht c hc)).2.1
/-! References. -/
theorem lets_all:(List.range 700).all (fun i=>(lettersP i).all (fun c=>decide (65<=c.toNat/\c.toNat<=90)) && decide (1<=(lettersP i).length))=true:=by decide +kernel
theorem lets_facts {col:Int} (h0:0<=col) (h1:col<700):(∀ c∈lettersP col,65<=c.toNat/\c.toNat<=90)/\1<=(lettersP col).length:=by
 obtain ⟨k,rfl⟩:∃ k:Nat,col=k:=⟨col.toNat,by omega⟩
 have:=List.all_eq_true.1 lets_all k (List.mem_range.2 (by omega))
 simp only [Bool.and_eq_true,List.all_eq_true,decide_eq_true_eq] at this
 exact this
theorem great_same:∀ l:List UInt8,(∀ c∈l,¬ (97<=c.toNat/\c.toNat<=122))->greatP l=l
 | [],_=>rfl
 | c::l,h=>by
   have h1:=great_same l fun d hd=>h d (by simp [hd])
   have h2:=h c (by simp)
   unfold greatP at h1 ⊢
   rw [List.map_cons,h1]
   congr 1
   unfold greatC
   rw [if_neg h2]
theorem text_ref {r:Ref} (hg:r.good=true):textP r ≠ []/\(∀ c∈textP r,wordB c=true/\¬ (97<=c.toNat/\c.toNat<=122))/\numB (textP r)=false/\refB (textP r)=true:=by
 have hgd:=hg
 unfold Ref.good at hgd
 simp only [decide_eq_true_eq] at hgd
 have hl:=text_len hg
 have hp:=parse_text hg
 obtain ⟨l1,l2⟩:=lets_facts (col:=r.col) (by omega) (by omega)
 obtain ⟨n1,n2,n3,n4,n5⟩:=num_facts (row:=r.row) (by omega) (by omega)
 have hdol:∀ b,∀ c∈dolP b,c=36:=by intro b c hc;cases b<;>simp [dolP] at hc;exact hc
 refine ⟨fun e=>by rw [e] at hl;simp at hl,?_,?_,by unfold refB;rw [hp]⟩
 ·intro c hc
  unfold textP at hc
  rcases List.mem_append.1 hc with hc|hc
  ·rcases List.mem_append.1 hc with hc|hc
   ·rcases List.mem_append.1 hc with hc|hc
    ·rw [hdol _ c hc];decide
    ·have:=l1 c hc
     exact ⟨decide_eq_true (.inr (.inr (.inl this))),by omega⟩
   ·rw [hdol _ c hc];decide
  ·have:=n2 c hc
   unfold isD at this
   rw [decide_eq_true_eq] at this
   exact ⟨(dig_word this).1,by omega⟩
 ·-- it begins with no digit
  obtain ⟨c,t,ht,hc⟩:∃ c t,textP r=c::t/\digB c=false/\c.toNat≠46:=by
   unfold textP
   cases r.absCol with
   | true=>exact ⟨36,_,rfl,by decide,by decide⟩
   | false=>
     cases hL:lettersP r.col with
     | nil=>rw [hL] at l2;simp at l2
     | cons c t=>
       refine ⟨c,t++(dolP r.absRow++numT r.row),by simp [dolP],?_⟩
       have:=l1 c (by rw [hL];simp)
       exact ⟨decide_eq_false (by omega),by omega⟩
  rw [ht]
  unfold numB
  have e:(cutDot (c::t)).1=c::(cutDot t).1:=by rw [cutDot,if_neg hc.2]
  generalize cutDot (c::t)=Q at *
  obtain ⟨w,o⟩:=Q
  dsimp only at e
  subst e
  cases o with
  | none=>simp [hc.1]
  | some p=>simp [hc.1]
/-! Errors. -/
theorem step_err (k:Nat) (hk:k<7) (y:List UInt8):stepP (errL.getD k []++y) = .tok 5 (errL.getD k []) (errL.getD k []).length:=by
 match k,hk with
 | 0,_|1,_|2,_|3,_|4,_|5,_|6,_=>
   simp only [errL,List.getD_cons_zero,List.getD_cons_succ,List.cons_append,List.nil_append]
   unfold stepP
   rw [show ∀ t,decodeL ((35:UInt8)::t)=(35,1) from fun t=>dec_one 35 t (by decide)]
   simp (config := { decide:=true }) [failS,errTexts,greatP,greatC]
 | k+7,h=>omega
/-! Texts between quotes. -/
theorem quoted_tail {y:List UInt8} (hy:∀ c t,y=c::t->c≠34):∀ (n k:Nat) (s:List UInt8) (p:Nat) (acc:List UInt8),s.length<=n->(dbl s++34::y).length<=k->sgP s≠none->quotedF k (dbl s++34::y) p acc = .tok 2 (acc++s) (p+(dbl s).length+2)
 | n,0,s,p,acc,_,h,_=>by simp at h
 | n,k+1,[],p,acc,_,_,_=>by
   simp only [dbl_nil,List.nil_append,List.append_nil,List.length_nil,Nat.add_zero]
   unfold quotedF
   rw [if_neg (by simp),dec_one 34 _ (by decide),if_neg (by decide),if_neg (by decide),if_neg]
   intro e
   cases y with
   | nil=>cases e
   | cons c t=>injection e with e;exact hy c t rfl e
 | 0,_,_::_,_,_,h,_,_=>by simp at h
 | n+1,k+1,d::s0,p,acc,hn,hk,hsg=>by
   obtain ⟨s,hs⟩:∃ s,d::s0=s:=⟨_,rfl⟩
   rw [hs] at hn hk hsg ⊢
   have hne:s ≠ []:=by rw [<-hs];simp
   have hw:=decodeL_width s
   have hle:=decodeL_le s hne
   by_cases hd:d=34
   ·subst hd
    have hdec:decodeL s=(34,1):=by rw [<-hs];exact dec_one 34 s0 (by decide)
    have hdr:s.drop 1=s0:=by rw [<-hs];rfl
    have hdb:dbl s++34::y=34::34::(dbl s0++34::y):=by rw [<-hs,dbl_q];rfl
    have hl:s0.length<=n:=by rw [<-hs] at hn;simp at hn;exact hn
    have hdl:(dbl s).length=(dbl s0).length+2:=by rw [<-hs,dbl_q];simp
    rw [sgP_step hne,hdec,if_neg (by decide),hdr] at hsg
    have ih:=quoted_tail hy n k s0 (p+2) (acc ++ [34]) hl (by rw [hdb] at hk;simp at hk ⊢;omega) (fun e=>hsg (by rw [e];rfl))
    rw [hdb]
    have hstep:quotedF (k+1) (34::34::(dbl s0++34::y)) p acc=quotedF k (dbl s0++34::y) (p+2) (acc ++ [34]):=by
     conv=>lhs;unfold quotedF
     rw [if_neg (by simp),dec_one 34 _ (by decide),if_neg (by decide),if_neg (by decide),if_pos (by rfl)]
     rfl
    rw [hstep,ih,hdl,← hs]
    simp
    omega
   ·obtain ⟨u,v,huv,hu,hv⟩:=split_q s
    have hune:u ≠ []:=by
     rintro rfl
     rcases hv with rfl|⟨v',rfl⟩
     ·rw [huv] at hne;exact hne rfl
     ·rw [<-hs] at huv
      injection huv with h1 _
      exact hd h1
    have hdu:decodeL s=decodeL u:=by rw [huv];exact decode_local hune (stop_q hv)
    have hX:dbl s++34::y=u++(dbl v++34::y):=by rw [huv,dbl_app,dbl_same u hu,List.append_assoc]
    have hstop:Stop (dbl v++34::y):=by
     refine stop_q (.inr ?_)
     rcases hv with rfl|⟨v',rfl⟩
     ·exact ⟨y,rfl⟩
     ·exact ⟨34::(dbl v'++34::y),by rw [dbl_q];rfl⟩
    have hdX:decodeL (dbl s++34::y)=decodeL s:=by rw [hX,hdu];exact decode_local hune hstop
    have hule:=decodeL_le u hune
    rw [<-hdu] at hule
    have hXne:dbl s++34::y ≠ []:=by simp
    have h34:(decodeL s).1≠34:=by
     intro h
     obtain ⟨c,t,h1,h2,_⟩:=dec_ascii hne (by omega)
     rw [<-hs] at h1
     injection h1 with h1 _
     apply hd
     apply UInt8.toNat_inj.1
     rw [h1,h2,h]
     rfl
    have hsd:∀ m,m<=u.length->s.drop m=u.drop m++v:=fun m hm=>by rw [huv];exact List.drop_append_of_le_length hm
    have hXd:(dbl s++34::y).drop (decodeL s).2=dbl (s.drop (decodeL s).2)++34::y:=by
     rw [hX,hsd _ hule,dbl_app,dbl_same (u.drop _) (fun h=>hu (List.mem_of_mem_drop h)),List.drop_append_of_le_length hule,List.append_assoc]
    have hbad:decodeL s≠(65533,1):=fun e=>hsg (by rw [sgP_step hne,if_pos e])
    have hstep:quotedF (k+1) (dbl s++34::y) p acc=quotedF k (dbl (s.drop (decodeL s).2)++34::y) (p+(decodeL s).2) (acc++s.take (decodeL s).2):=by
     conv=>lhs;unfold quotedF
     rw [if_neg hXne,hdX]
     have henc:=encode_decode s hne (by rintro ⟨h1,h2⟩;exact hbad (by rw [<-h1,← h2]))
     rw [if_neg hbad,if_pos h34,hXd,henc]
    have hlen:(dbl s).length=(decodeL s).2+(dbl (s.drop (decodeL s).2)).length:=by
     have h1:=congrArg List.length hXd
     rw [List.length_drop] at h1
     simp only [List.length_append,List.length_cons] at h1
     have h2:=congrArg List.length hX
     simp only [List.length_append,List.length_cons] at h2
     omega
    rw [sgP_step hne,if_neg hbad] at hsg
    have ih:=quoted_tail hy n k (s.drop (decodeL s).2) (p+(decodeL s).2) (acc++s.take (decodeL s).2) (by rw [List.length_drop];omega) (by
     rw [<-hXd,List.length_drop]
     omega) (fun e=>hsg (by rw [e];rfl))
    rw [hstep,ih,List.append_assoc,List.take_append_drop,hlen]
    congr 1
    omega
theorem lx_quote {s:List UInt8} (h:sgP s≠none):Lx Bd (quotT s) [(2,s)]:=by
 refine Lx.one (by simp [quotT]) fun y hy=>?_
 have hq:quotT s++y=34::(dbl s++34::y):=by unfold quotT dbl;simp
 have hy':∀ c t,y=c::t->c≠34:=by
  intro c t e
  rcases hy with rfl|⟨d,u,rfl,hd⟩
  ·cases e
  ·injection e with e1 _;subst e1;exact (ops_now d hd).2
 have hl:(quotT s).length=(dbl s).length+2:=by unfold quotT dbl;simp
 rw [hq]
 unfold stepP
 dsimp only
 rw [dec_one 34 _ (by decide)]
 dsimp only
 have law:=quoted_tail hy' s.length (34::(dbl s++34::y)).length s 0 [] (Nat.le_refl _) (by simp) h
 rw [if_neg (by decide),if_neg (by decide),if_neg (by decide),if_pos (by rfl),List.drop_succ_cons,List.drop_zero,law,hl]
 simp
end Go.A
namespace Go.A
open Go.Proofs Go.Lib
inductive Nf:Nd->Prop
 | num {n:Int}:0<=n->n<=999999999999999999->Nf (.mk 1 n [] .zero .zero [])
 | text {s:List UInt8}:sgP s≠none->s.length<=8100->Nf (.mk 2 0 s .zero .zero [])
 | truth {b:Int}:b=0\/b=1->Nf (.mk 3 b [] .zero .zero [])
 | fail {k:Nat}:k<7->Nf (.mk 4 (((k:Int)+1)*10000) [] .zero .zero [])
 | cell {r:Ref}:r.good=true->Nf (.mk 5 0 [] r .zero [])
 | area {r q:Ref}:r.good=true->q.good=true->Nf (.mk 6 0 [] r q [])
 | sign {op:Int} {x:Nd}:op=7\/op=8->Nf x->x.op≠23->Nf (.mk op 0 [] .zero .zero [x])
 | hund {x:Nd}:Nf x->x.op≠23->Nf (.mk 9 0 [] .zero .zero [x])
 | bin {i:Nat} {x y:Nd}:i<12->Nf x->x.op≠23->Nf y->y.op≠23->Nf (.mk (10+(i:Int)) 0 [] .zero .zero [x,y])
 | call {s:List UInt8} {ks:List Nd}:NameOk s->s.length<=8100->(∀ k∈ks,Nf k)->(∀ k,ks = [k]->k.op≠23)->Nf (.mk 22 0 s .zero .zero ks)
 | miss:Nf (.mk 23 0 [] .zero .zero [])
def insK (least op:Int) (t:List KT):List KT:=if least<=levelP op then t else (6,[40])::t ++ [(6,[41])]
def joinK:List (Int×List KT)->List KT
 | [] => []
 | p::r=>p.2++r.flatMap fun q=>(6,[44])::q.2
def toksK (op n:Int) (s:List UInt8) (a b:Ref) (ks:List (Int×List KT)):List KT:=
 if op=1 then [(1,textD n)] else if op=2 then [(2,s)] else if op=3 then [(3,truthP (!decide (n=0)))] else if op=4 then [(5,failT op n)] else if op=5 then [(4,textP a)] else if op=6 then [(4,textP a),(6,[58]),(4,textP b)]
 else if op=7\/op=8 then (6,[if op=7 then 45 else 43])::insK 6 (ks.getD 0 (0,[])).1 (ks.getD 0 (0,[])).2
 else if op=9 then insK 7 (ks.getD 0 (0,[])).1 (ks.getD 0 (0,[])).2 ++ [(6,[37])]
 else if op=22 then (3,s)::(6,[40])::joinK ks ++ [(6,[41])]
 else if op=23 then []
 else insK (levelP op) (ks.getD 0 (0,[])).1 (ks.getD 0 (0,[])).2 ++ [(6,signL.getD (op-10).toNat [])]++insK (levelP op+1) (ks.getD 1 (0,[])).1 (ks.getD 1 (0,[])).2
mutual
def Nd.toks:Nd->List KT
 | .mk op n s a b kids=>toksK op n s a b (Nd.toksL kids)
def Nd.toksL:List Nd->List (Int×List KT)
 | [] => []
 | x::xs=>(x.op,x.toks)::Nd.toksL xs
end
theorem Nd.toksL_map:∀ l:List Nd,Nd.toksL l=l.map fun x=>(x.op,x.toks)
 | []=>rfl
 | x::xs=>by rw [Nd.toksL,Nd.toksL_map xs];rfl
theorem flat_snd {α:Type} (c:α) (f:Nd->List α) (l:List Nd):(l.map fun x=>(x.op,f x)).flatMap (fun q=>c::q.2)=l.flatMap fun x=>c::f x:=by
 rw [List.flatMap_map]
def insD (least op:Int) (d:Nat):Nat:=if least<=levelP op then d else d+1
def nestK (op:Int) (ks:List (Int×Nat)):Nat:=
 if op=7\/op=8 then 1+insD 6 (ks.getD 0 (0,0)).1 (ks.getD 0 (0,0)).2
 else if op=9 then insD 7 (ks.getD 0 (0,0)).1 (ks.getD 0 (0,0)).2
 else if op=22 then 1+(ks.map (·.2)).foldr max 0
 else if 10<=op/\op<=21 then max (insD (levelP op) (ks.getD 0 (0,0)).1 (ks.getD 0 (0,0)).2) (insD (levelP op+1) (ks.getD 1 (0,0)).1 (ks.getD 1 (0,0)).2) else 0
mutual
def Nd.nest:Nd->Nat
 | .mk op _ _ _ _ kids=>nestK op (Nd.nests kids)
def Nd.nests:List Nd->List (Int×Nat)
 | [] => []
 | x::xs=>(x.op,x.nest)::Nd.nests xs
end
theorem Nd.nests_map:∀ l:List Nd,Nd.nests l=l.map fun x=>(x.op,x.nest)
 | []=>rfl
 | x::xs=>by rw [Nd.nests,Nd.nests_map xs];rfl
theorem lev_bin (i:Nat) (h:i<12):1<=levelP (10+(i:Int))/\levelP (10+(i:Int))<=5:=by
 unfold levelP
 rw [if_neg (by omega),if_neg (by omega),if_neg (by omega)]
 repeat' split
 all_goals decide
theorem spell_bin {i:Nat} (h:i<12) (x y:Nd):(Nd.mk (10+(i:Int)) 0 [] .zero .zero [x,y]).spell=insT (levelP (10+i)) x.op x.spell++signL.getD i []++insT (levelP (10+i)+1) y.op y.spell:=by
 rw [Nd.spell,Nd.spells,Nd.spells,Nd.spells,spellK]
 rw [if_neg (by omega),if_neg (by omega),if_neg (by omega),if_neg (by omega),if_neg (by omega),if_neg (by omega),if_neg (by omega),if_neg (by omega),if_neg (by omega),if_neg (by omega),show (10+(i:Int)-10).toNat=i by omega]
 rfl
theorem toks_bin {i:Nat} (h:i<12) (x y:Nd):(Nd.mk (10+(i:Int)) 0 [] .zero .zero [x,y]).toks=insK (levelP (10+i)) x.op x.toks ++ [(6,signL.getD i [])]++insK (levelP (10+i)+1) y.op y.toks:=by
 rw [Nd.toks,Nd.toksL,Nd.toksL,Nd.toksL,toksK]
 rw [if_neg (by omega),if_neg (by omega),if_neg (by omega),if_neg (by omega),if_neg (by omega),if_neg (by omega),if_neg (by omega),if_neg (by omega),if_neg (by omega),if_neg (by omega),show (10+(i:Int)-10).toNat=i by omega]
 rfl
theorem nest_bin {i:Nat} (h:i<12) (x y:Nd):(Nd.mk (10+(i:Int)) 0 [] .zero .zero [x,y]).nest=max (insD (levelP (10+i)) x.op x.nest) (insD (levelP (10+i)+1) y.op y.nest):=by
 rw [Nd.nest,Nd.nests,Nd.nests,Nd.nests,nestK]
 rw [if_neg (by omega),if_neg (by omega),if_neg (by omega),if_pos (by omega)]
 rfl
theorem spell_sign {op:Int} (h:op=7\/op=8) (x:Nd):(Nd.mk op 0 [] .zero .zero [x]).spell = [if op=7 then 45 else 43]++insT 6 x.op x.spell:=by
 rcases h with rfl|rfl<;>rfl
theorem toks_sign {op:Int} (h:op=7\/op=8) (x:Nd):(Nd.mk op 0 [] .zero .zero [x]).toks=(6,[if op=7 then 45 else 43])::insK 6 x.op x.toks:=by
 rcases h with rfl|rfl<;>rfl
theorem nest_sign {op:Int} (h:op=7\/op=8) (x:Nd):(Nd.mk op 0 [] .zero .zero [x]).nest=1+insD 6 x.op x.nest:=by
 rcases h with rfl|rfl<;>rfl
theorem spell_hund (x:Nd):(Nd.mk 9 0 [] .zero .zero [x]).spell=insT 7 x.op x.spell ++ [37]:=rfl
theorem toks_hund (x:Nd):(Nd.mk 9 0 [] .zero .zero [x]).toks=insK 7 x.op x.toks ++ [(6,[37])]:=rfl
theorem nest_hund (x:Nd):(Nd.mk 9 0 [] .zero .zero [x]).nest=insD 7 x.op x.nest:=rfl
def joinT (ks:List Nd):List KT:=match ks with
 | [] => []
 | x::xs=>x.toks++xs.flatMap fun k=>(6,[44])::k.toks
def joinS (ks:List Nd):List UInt8:=match ks with
 | [] => []
 | x::xs=>x.spell++xs.flatMap fun k=>44::k.spell
theorem spell_call (s:List UInt8) (ks:List Nd):(Nd.mk 22 0 s .zero .zero ks).spell=s++([40]++(joinS ks ++ [41])):=by
 rw [Nd.spell,Nd.spells_map]
 show s++40::joinC _ ++ [41]=_
 cases ks with
 | nil=>simp [joinC,joinS]
 | cons x xs=>
   rw [List.map_cons,joinC,flat_snd]
   simp [joinS]
theorem toks_call (s:List UInt8) (ks:List Nd):(Nd.mk 22 0 s .zero .zero ks).toks=(3,s)::(6,[40])::(joinT ks ++ [(6,[41])]):=by
 rw [Nd.toks,Nd.toksL_map]
 show (3,s)::(6,[40])::joinK _ ++ [(6,[41])]=_
 cases ks with
 | nil=>simp [joinK,joinT]
 | cons x xs=>
   rw [List.map_cons,joinK,flat_snd]
   simp [joinT]
theorem nest_call (s:List UInt8) (ks:List Nd):(Nd.mk 22 0 s .zero .zero ks).nest=1+(ks.map Nd.nest).foldr max 0:=by
 rw [Nd.nest,Nd.nests_map]
 show 1+((ks.map fun x=>(x.op,x.nest)).map (·.2)).foldr max 0=_
 rw [List.map_map]
 rfl
theorem fail_text {k:Nat} (h:k<7):failT 4 (((k:Int)+1)*10000)=errL.getD k []:=by
 unfold failT
 rw [Int.mul_tdiv_cancel _ (by decide),if_neg (by omega),show ((k:Int)+1-1).toNat=k by omega]
def OpB (x:List UInt8):Prop:=∃ c t,x=c::t/\c≠61/\c≠62
theorem OpB.app {x:List UInt8} (h:OpB x) (y:List UInt8):OpSt (x++y):=by
 obtain ⟨c,t,rfl,h1,h2⟩:=h
 exact ⟨c,t++y,rfl,h1,h2⟩
theorem OpB.word {x:List UInt8} (hn:x ≠ []) (h:∀ c∈x,wordB c=true):OpB x:=by
 cases x with
 | nil=>exact absurd rfl hn
 | cons c t=>
   have:=h c (by simp)
   refine ⟨c,t,rfl,?_,?_⟩<;>(rintro rfl;exact absurd this (by decide))
theorem insT_opb {least op:Int} {x:List UInt8} (h:OpB x):OpB (insT least op x):=by
 unfold insT
 split
 ·exact h
 ·exact ⟨40,_,rfl,by decide,by decide⟩
theorem insT_lx {least op:Int} {x:List UInt8} {t:List KT} (h:Lx Bd x t):Lx Bd (insT least op x) (insK least op t):=by
 unfold insT insK
 split
 ·exact h
 ·have e1:(40::x ++ [41]:List UInt8) = [40]++(x ++ [41]):=rfl
  have e2:((6,[40])::t ++ [(6,[41])]:List KT) = [(6,[40])]++(t ++ [(6,[41])]):=rfl
  rw [e1,e2]
  exact (lx_sg 40 (by decide)).app (h.app ((lx_sg 41 (by decide)).weak (Q:=Bd) fun _ _=>trivial) fun z _=>bd_cons (by decide) z) fun _ _=>trivial
theorem bd_flat (xs:List Nd) {z:List UInt8} (hz:Bd z):Bd ((xs.flatMap fun k=>44::k.spell)++z):=by
 cases xs with
 | nil=>exact hz
 | cons x xs=>exact bd_cons (by decide) _
theorem err_opb (k:Nat) (hk:k<7):OpB (errL.getD k []):=by
 match k,hk with
 | 0,_|1,_|2,_|3,_|4,_|5,_|6,_=>exact ⟨35,_,rfl,by decide,by decide⟩
 | k+7,h=>omega
set_option maxHeartbeats 1000000 in
theorem nf_lex {n:Nd} (h:Nf n):Lx Bd n.spell n.toks/\(n.op≠23->OpB n.spell):=by
 induction h with
 | @num n h0 h1=>
   obtain ⟨t1,t2,t3⟩:=text_num h0
   exact ⟨(lx_num t1 t2 t3).weak fun _ h=>h.nw,fun _=>OpB.word t1 t2⟩
 | @text s hs _=>exact ⟨lx_quote hs,fun _=>⟨34,_,rfl,by decide,by decide⟩⟩
 | @truth b hb=>
   rcases hb with rfl|rfl
   ·exact ⟨(lx_name false_name).weak fun _ h=>h.nw,fun _=>⟨70,_,rfl,by decide,by decide⟩⟩
   ·exact ⟨(lx_name true_name).weak fun _ h=>h.nw,fun _=>⟨84,_,rfl,by decide,by decide⟩⟩
 | @fail k hk=>
   have e1:(Nd.mk 4 (((k:Int)+1)*10000) [] .zero .zero []).spell=errL.getD k []:=fail_text hk
   have e2:(Nd.mk 4 (((k:Int)+1)*10000) [] .zero .zero []).toks = [(5,errL.getD k [])]:=by
    show [((5:Int),failT 4 _)]=_
    rw [fail_text hk]
   rw [e1,e2]
   have hb:OpB (errL.getD k []):=err_opb k hk
   refine ⟨Lx.one ?_ fun y _=>step_err k hk y,fun _=>hb⟩
   obtain ⟨c,t,e,_⟩:=hb
   rw [e];simp
 | @cell r hr=>
   obtain ⟨t1,t2,t3,t4⟩:=text_ref hr
   exact ⟨(lx_ref t1 (fun c hc=>(t2 c hc).1) t3 t4 (great_same _ fun c hc=>(t2 c hc).2)).weak fun _ h=>h.nw,fun _=>OpB.word t1 fun c hc=>(t2 c hc).1⟩
 | @area r q hr hq=>
   obtain ⟨t1,t2,t3,t4⟩:=text_ref hr
   obtain ⟨u1,u2,u3,u4⟩:=text_ref hq
   have l1:=lx_ref t1 (fun c hc=>(t2 c hc).1) t3 t4 (great_same _ fun c hc=>(t2 c hc).2)
   have l2:=lx_ref u1 (fun c hc=>(u2 c hc).1) u3 u4 (great_same _ fun c hc=>(u2 c hc).2)
   have e1:(Nd.mk 6 0 [] r q []).spell=textP r++([58]++textP q):=by
    show textP r ++ [58]++textP q=_
    rw [List.append_assoc]
   rw [e1]
   refine ⟨?_,fun _=>?_⟩
   ·show Lx Bd _ ([(4,textP r)]++([(6,[58])] ++ [(4,textP q)]))
    exact l1.app ((lx_sg 58 (by decide)).app (l2.weak (Q:=Bd) fun _ h=>h.nw) fun _ _=>trivial) fun z _=>(bd_cons (by decide) _).nw
   ·obtain ⟨c,t,e,h1,h2⟩:=OpB.word t1 fun c hc=>(t2 c hc).1
    exact ⟨c,t++([58]++textP q),by rw [e];rfl,h1,h2⟩
 | @sign op x ho hx hne ih=>
   rw [spell_sign ho,toks_sign ho]
   refine ⟨?_,fun _=>⟨_,_,rfl,?_⟩⟩
   ·exact (lx_sg (if op=7 then 45 else 43) (by split<;>decide)).app (insT_lx ih.1) fun _ _=>trivial
   ·split<;>exact ⟨by decide,by decide⟩
 | @hund x hx hne ih=>
   rw [spell_hund,toks_hund]
   refine ⟨(insT_lx ih.1).app ((lx_sg 37 (by decide)).weak fun _ _=>trivial) fun z _=>bd_cons (by decide) z,fun _=>?_⟩
   obtain ⟨c,t,e,h1,h2⟩:=insT_opb (least:=7) (op:=x.op) (ih.2 hne)
   exact ⟨c,t ++ [37],by rw [e];rfl,h1,h2⟩
 | @bin i x y hi hx hnx hy hny ihx ihy=>
   rw [spell_bin hi,toks_bin hi]
   refine ⟨?_,fun _=>?_⟩
   ·exact ((insT_lx ihx.1).app (lx_sign i hi) fun z _=>sign_bd i hi z).app (insT_lx ihy.1) fun z _=>(insT_opb (ihy.2 hny)).app z
   ·obtain ⟨c,t,e,h1,h2⟩:=insT_opb (least:=levelP (10+i)) (op:=x.op) (ihx.2 hnx)
    exact ⟨c,_,by rw [e];rfl,h1,h2⟩
 | @call s ks hs _ hk hm ih=>
   rw [spell_call,toks_call]
   refine ⟨?_,fun _=>?_⟩
   ·have hj:Lx Bd (joinS ks) (joinT ks):=by
     cases ks with
     | nil=>exact Lx.nil _
     | cons x xs=>
       have hf:∀ l:List Nd,(∀ k∈l,k∈x::xs)->Lx Bd (l.flatMap fun k=>44::k.spell) (l.flatMap fun k=>(6,[44])::k.toks):=by
        intro l
        induction l with
        | nil=>intro _;exact Lx.nil _
        | cons k l ihl=>
          intro hl
          rw [List.flatMap_cons,List.flatMap_cons]
          have e1:(44::k.spell)++(l.flatMap fun k=>44::k.spell) = [44]++(k.spell++l.flatMap fun k=>44::k.spell):=rfl
          have e2:(((6:Int),[(44:UInt8)])::k.toks)++(l.flatMap fun k=>(6,[44])::k.toks) = [(6,[44])]++(k.toks++l.flatMap fun k=>(6,[44])::k.toks):=rfl
          rw [e1,e2]
          exact (lx_sg 44 (by decide)).app ((ih k (hl k (by simp))).1.app (ihl fun q hq=>hl q (by simp [hq])) fun z hz=>bd_flat l hz) fun _ _=>trivial
       exact (ih x (by simp)).1.app (hf xs fun k hk=>by simp [hk]) fun z hz=>bd_flat xs hz
    show Lx Bd _ ([(3,s)]++([(6,[40])]++(joinT ks ++ [(6,[41])])))
    exact (lx_name hs).app ((lx_sg 40 (by decide)).app (hj.app ((lx_sg 41 (by decide)).weak (Q:=Bd) fun _ _=>trivial) fun z _=>bd_cons (by decide) z) fun _ _=>trivial) fun z _=>(bd_cons (by decide) _).nw
   ·obtain ⟨c,t,e,h1,h2⟩:=OpB.word (nameB_ne hs.name) hs.word
    exact ⟨c,_,by rw [e];rfl,h1,h2⟩
 | miss=>exact ⟨Lx.nil _,fun h=>absurd rfl h⟩
theorem map_kt_sh (ts:List Tok) (a c:Nat):(ts.map (Tok.sh a c)).map kt=ts.map kt:=by
 rw [List.map_map]
 rfl
theorem lex_print {n:Nd} (h:Nf n) (hl:n.spell.length<=2000):(lexP n.spell).2.2=0/\(lexP n.spell).1.map kt=n.toks ++ [(0,[])]:=by
 have h1:=(nf_lex h).1 [] (.inl rfl)
 rw [List.append_nil,relP_nil] at h1
 rw [lexP_rel hl]
 generalize relP n.spell=R at *
 cases R with
 | inl j=>simp [kts] at h1
 | inr x=>
   obtain ⟨ts,m⟩:=x
   simp only [kts,List.map_nil,Option.map_some,List.append_nil,Option.some.injEq] at h1
   refine ⟨rfl,?_⟩
   show (([]:List Tok)++ts.map (Tok.sh 0 0) ++ [_]).map kt=_
   rw [List.nil_append,List.map_append,map_kt_sh,h1]
   rfl
end Go.A
namespace Go.A
open Go.Proofs Go.Lib
section
variable {T:List Tok}
theorem cur_bad {s:PSt} (h:s.err≠0):curT T s=endT:=if_pos h
theorem isOp_bad {s:PSt} (h:s.err≠0) (x:List UInt8):isOp T s x=false:=by unfold isOp;rw [cur_bad h];simp [endT]
theorem sgn_bad {s:PSt} (h:s.err≠0) (l:Nat):sgn T s l=false:=by unfold sgn;rw [cur_bad h];simp [endT]
theorem fail_bad {s:PSt} (h:s.err≠0) (e:Int):failP T s e=s:=if_neg h
theorem must_bad {s:PSt} (h:s.err≠0) (x:List UInt8):mustP T s x=s:=by unfold mustP;rw [isOp_bad h,fail_bad h];simp
structure StayF (T:List Tok) (f:Nat):Prop where
 betw:∀ lvl s r,betwP T f lvl s=some r->s.err≠0->r.2=s
 loop:∀ lvl n s r,loopP T f lvl n s=some r->s.err≠0->r.2=s
 signed:∀ s r,signedP T f s=some r->s.err≠0->r.2=s
 hundred:∀ s r,hundredP T f s=some r->s.err≠0->r.2=s
 hloop:∀ n s r,hloopP T f n s=some r->s.err≠0->r.2=s
 prim:∀ s r,primP T f s=some r->s.err≠0->r.2=s
theorem stayF:∀ f,StayF T f
 | 0=>by
   constructor
   all_goals intros
   all_goals (rename_i h _;simp only [betwP,loopP,signedP,hundredP,hloopP,primP,reduceCtorEq] at h)
 | f+1=>by
   have ih:=stayF f
   constructor
   ·intro lvl s r h he
    rw [betwP] at h
    split at h
    ·exact ih.signed s r h he
    ·split at h
     ·cases h
     ·rename_i r1 h1
      have e1:=ih.betw _ _ _ h1 he
      have:=ih.loop _ _ _ _ h (by rw [e1];exact he)
      rw [this,e1]
   ·intro lvl n s r h he
    rw [loopP,sgn_bad he] at h
    simp only [Bool.false_eq_true,if_false,Option.some.injEq] at h
    rw [<-h]
   ·intro s r h he
    rw [signedP,isOp_bad he,isOp_bad he] at h
    simp only [Bool.false_eq_true,if_false] at h
    exact ih.hundred s r h he
   ·intro s r h he
    rw [hundredP] at h
    split at h
    ·cases h
    ·rename_i r1 h1
     have e1:=ih.prim _ _ h1 he
     have:=ih.hloop _ _ _ h (by rw [e1];exact he)
     rw [this,e1]
   ·intro n s r h he
    rw [hloopP,isOp_bad he] at h
    simp only [Bool.false_eq_true,if_false,Option.some.injEq] at h
    rw [<-h]
   ·intro s r h he
    rw [primP,cur_bad he,isOp_bad he,fail_bad he] at h
    simp [endT] at h
    rw [<-h]
end
/-! Such texts' tokens. -/
end Go.A
namespace Go.A
open Go.Proofs Go.Lib
def PSt.adv (s:PSt) (n:Nat):PSt := { s with i:=s.i+n }
theorem adv_adv (s:PSt) (n m:Nat):(s.adv n).adv m=s.adv (n+m):=by simp [PSt.adv,Nat.add_assoc]
theorem adv_next (s:PSt):s.next=s.adv 1:=rfl
def Fol (p:KT):Prop:=p≠(6,[40])/\p≠(6,[58])
def NoPct (p:KT):Prop:=p≠(6,[37])
def StopL (l:Nat) (p:KT):Prop:=∀ j,l<=j->j<5->¬ (p.1=6/\p.2∈levelsL.getD j [])
structure Okk (l:Nat) (p:KT):Prop where
 fol:Fol p
 pct:NoPct p
 stop:StopL l p
theorem Okk.up {l m:Nat} {p:KT} (h:Okk l p) (hm:l<=m):Okk m p:=⟨h.fol,h.pct,fun j hj=>h.stop j (Nat.le_trans hm hj)⟩
theorem okk_end:Okk 0 (0,[]):=⟨⟨by decide,by decide⟩,by unfold NoPct;decide,fun j _ _ h=>absurd h.1 (by decide)⟩
theorem okk_one (c:UInt8) (h:c=41\/c=44):Okk 0 (6,[c]):=by
 refine ⟨?_,?_,?_⟩
 ·rcases h with rfl|rfl<;>exact ⟨by decide,by decide⟩
 ·rcases h with rfl|rfl<;>(unfold NoPct;decide)
 ·intro j _ hj hh
  have:=hh.2
  rcases h with rfl|rfl<;>(match j,hj with|0,_|1,_|2,_|3,_|4,_=>revert this;decide)
theorem sign_level (i:Nat) (h:i<12):∃ l:Nat,l<5/\levelP (10+(i:Int))=l+1/\signL.getD i []∈levelsL.getD l []/\Okk (l+1) (6,signL.getD i [])/\idxP signL (signL.getD i [])=i:=by
 have key:∀ (l:Nat),(signL.getD i []∈levelsL.getD l []/\l<5/\levelP (10+(i:Int))=l+1/\(∀ j<5,l+1<=j->signL.getD i [] ∉ levelsL.getD j [])/\signL.getD i [] ≠ [40]/\signL.getD i [] ≠ [58]/\signL.getD i [] ≠ [37]/\idxP signL (signL.getD i [])=i)->∃ l:Nat,l<5/\levelP (10+(i:Int))=l+1/\signL.getD i []∈levelsL.getD l []/\Okk (l+1) (6,signL.getD i [])/\idxP signL (signL.getD i [])=i:=fun l hl=>⟨l,hl.2.1,hl.2.2.1,hl.1,⟨⟨fun e=>hl.2.2.2.2.1 (by injection e),fun e=>hl.2.2.2.2.2.1 (by injection e)⟩,fun e=>hl.2.2.2.2.2.2.1 (by injection e),fun j h1 h2 h3=>hl.2.2.2.1 j h2 h1 h3.2⟩,hl.2.2.2.2.2.2.2⟩
 match i,h with
 | 0,_|1,_=>exact key 2 (by decide)
 | 2,_|3,_=>exact key 3 (by decide)
 | 4,_=>exact key 4 (by decide)
 | 5,_=>exact key 1 (by decide)
 | 6,_|7,_|8,_|9,_|10,_|11,_=>exact key 0 (by decide)
 | i+12,h=>omega
section
variable {T:List Tok}
theorem at_cons {i:Nat} {p:KT} {us:List KT} (h:(T.map kt).drop i=p::us):(T.getD i endT).kind=p.1/\(T.getD i endT).text=p.2/\(T.map kt).drop (i+1)=us:=by
 have hi:i<(T.map kt).length:=by
  rcases Nat.lt_or_ge i (T.map kt).length with h1|h1
  ·exact h1
  ·rw [List.drop_eq_nil_of_le h1] at h;cases h
 rw [List.drop_eq_getElem_cons hi] at h
 injection h with h1 h2
 rw [List.getElem_map] at h1
 have hT:i<T.length:=by simpa using hi
 have e:T.getD i endT=T[i]:=by rw [List.getD_eq_getElem?_getD,List.getElem?_eq_getElem hT];rfl
 rw [e,← h1]
 exact ⟨rfl,rfl,h2⟩
theorem cur_cons {s:PSt} {p:KT} {us:List KT} (h0:s.err=0) (h:(T.map kt).drop s.i=p::us):(curT T s).kind=p.1/\(curT T s).text=p.2:=by
 rw [cur_at h0]
 exact ⟨(at_cons h).1,(at_cons h).2.1⟩
theorem cur_pair {s:PSt} {a:Int} {b:List UInt8} {us:List KT} (h0:s.err=0) (h:(T.map kt).drop s.i=(a,b)::us):(curT T s).kind=a/\(curT T s).text=b:=cur_cons h0 h
theorem op_cons {s:PSt} {p:KT} {us:List KT} (h0:s.err=0) (h:(T.map kt).drop s.i=p::us) (x:List UInt8):isOp T s x=decide (p=(6,x)):=by
 obtain ⟨h1,h2⟩:=cur_cons h0 h
 unfold isOp
 rw [h1,h2]
 obtain ⟨a,b⟩:=p
 by_cases ha:a=6<;>by_cases hb:b=x<;>simp [ha,hb]
theorem sgn_cons {s:PSt} {p:KT} {us:List KT} (h0:s.err=0) (h:(T.map kt).drop s.i=p::us) (l:Nat):sgn T s l=decide (p.1=6/\p.2∈levelsL.getD l []):=by
 obtain ⟨h1,h2⟩:=cur_cons h0 h
 unfold sgn
 rw [h1,h2,Bool.decide_and]
theorem drop_adv {s:PSt} {ts us:List KT} (h:(T.map kt).drop s.i=ts++us):(T.map kt).drop (s.adv ts.length).i=us:=by
 show (T.map kt).drop (s.i+ts.length)=us
 rw [<-List.drop_drop,h,List.drop_left]
def Res (n:Nd) (len d:Nat) (s:PSt) (r:Nd×PSt):Prop:=(r.1=n/\r.2=s.adv len/\s.deep+d<=40)\/(r.2.err=12/\40<s.deep+d)
structure Here (T:List Tok) (s:PSt) (ts:List KT) (p:KT) (us:List KT):Prop where
 err:s.err=0
 d1:s.deep<=40
 at':(T.map kt).drop s.i=ts++p::us
theorem Here.adv {s:PSt} {ts:List KT} {p:KT} {us:List KT} (h:Here T s ts p us):(s.adv ts.length).err=0/\(s.adv ts.length).deep=s.deep/\(T.map kt).drop (s.adv ts.length).i=p::us:=⟨h.err,rfl,drop_adv h.at'⟩
variable (T)
def RP (n:Nd) (ts:List KT) (d:Nat):Prop:=∀ f s r p us,primP T f s=some r->Here T s ts p us->Fol p->Res n ts.length d s r
def RHu (n:Nd) (ts:List KT) (d:Nat):Prop:=∀ f s r p us,hundredP T f s=some r->Here T s ts p us->Fol p->(∃ f',hloopP T f' n (s.adv ts.length)=some r/\s.deep+d<=40)\/(r.2.err=12/\40<s.deep+d)
def RSg (n:Nd) (ts:List KT) (d:Nat):Prop:=∀ f s r p us,signedP T f s=some r->Here T s ts p us->Fol p->NoPct p->Res n ts.length d s r
def RLo (l:Nat) (n:Nd) (ts:List KT) (d:Nat):Prop:=∀ f s r p us,betwP T f l s=some r->Here T s ts p us->Okk (l+1) p->(∃ f',loopP T f' l n (s.adv ts.length)=some r/\s.deep+d<=40)\/(r.2.err=12/\40<s.deep+d)
def RBe (l:Nat) (n:Nd) (ts:List KT) (d:Nat):Prop:=∀ f s r p us,betwP T f l s=some r->Here T s ts p us->Okk l p->Res n ts.length d s r
def NoSg (ts:List KT):Prop:=∃ p us,ts=p::us/\p≠(6,[45])/\p≠(6,[43])
variable {T}
theorem NoSg.app {ts:List KT} (h:NoSg ts) (us:List KT):NoSg (ts++us):=by
 obtain ⟨p,vs,rfl,h1,h2⟩:=h
 exact ⟨p,vs++us,rfl,h1,h2⟩
theorem RP.hu {n:Nd} {ts:List KT} {d:Nat} (h:RP T n ts d):RHu T n ts d:=by
 intro f s r p us hr hh hp
 cases f with
 | zero=>simp [hundredP] at hr
 | succ f=>
   rw [hundredP] at hr
   split at hr
   ·cases hr
   ·rename_i r1 h1
    rcases h f s r1 p us h1 hh hp with ⟨e1,e2,e3⟩|⟨e1,e2⟩
    ·rw [e1,e2] at hr
     exact .inl ⟨f,hr,e3⟩
    ·have:=(stayF f).hloop _ _ _ hr (by rw [e1];decide)
     exact .inr ⟨by rw [this];exact e1,e2⟩
theorem RHu.sg {n:Nd} {ts:List KT} {d:Nat} (h:RHu T n ts d) (hs:NoSg ts):RSg T n ts d:=by
 intro f s r p us hr hh hp hn
 cases f with
 | zero=>simp [signedP] at hr
 | succ f=>
   obtain ⟨q,vs,hts,q1,q2⟩:=hs
   have hat:=hh.at'
   rw [hts,List.cons_append] at hat
   rw [signedP,op_cons hh.err hat,op_cons hh.err hat,decide_eq_false q1,decide_eq_false q2] at hr
   simp only [Bool.false_eq_true,if_false] at hr
   rcases h f s r p us hr hh hp with ⟨f',e1,e2⟩|e
   ·cases f' with
    | zero=>simp [hloopP] at e1
    | succ f'=>
      obtain ⟨a1,a2,a3⟩:=hh.adv
      rw [hloopP,op_cons a1 a3,decide_eq_false hn] at e1
      simp only [Bool.false_eq_true,if_false,Option.some.injEq] at e1
      rw [<-e1]
      exact .inl ⟨rfl,rfl,e2⟩
   ·exact .inr e
theorem RSg.be {n:Nd} {ts:List KT} {d:Nat} (h:RSg T n ts d):RBe T 5 n ts d:=by
 intro f s r p us hr hh hp
 cases f with
 | zero=>simp [betwP] at hr
 | succ f=>
   rw [betwP,if_pos rfl] at hr
   exact h f s r p us hr hh hp.fol hp.pct
theorem RBe.lo {l:Nat} {n:Nd} {ts:List KT} {d:Nat} (h:RBe T (l+1) n ts d) (hl:l<5):RLo T l n ts d:=by
 intro f s r p us hr hh hp
 cases f with
 | zero=>simp [betwP] at hr
 | succ f=>
   rw [betwP,if_neg (by omega)] at hr
   split at hr
   ·cases hr
   ·rename_i r1 h1
    rcases h f s r1 p us h1 hh hp with ⟨e1,e2,e3⟩|⟨e1,e2⟩
    ·rw [e1,e2] at hr
     exact .inl ⟨f,hr,e3⟩
    ·have:=(stayF f).loop _ _ _ _ hr (by rw [e1];decide)
     exact .inr ⟨by rw [this];exact e1,e2⟩
theorem RLo.be {l:Nat} {n:Nd} {ts:List KT} {d:Nat} (h:RLo T l n ts d) (hl:l<5):RBe T l n ts d:=by
 intro f s r p us hr hh hp
 rcases h f s r p us hr hh (hp.up (Nat.le_succ _)) with ⟨f',e1,e2⟩|e
 ·cases f' with
  | zero=>simp [loopP] at e1
  | succ f'=>
    obtain ⟨a1,a2,a3⟩:=hh.adv
    rw [loopP,sgn_cons a1 a3,decide_eq_false (hp.stop l (Nat.le_refl _) hl)] at e1
    simp only [Bool.false_eq_true,if_false,Option.some.injEq] at e1
    rw [<-e1]
    exact .inl ⟨rfl,rfl,e2⟩
 ·exact .inr e
theorem RBe.down {m:Nat} {n:Nd} {ts:List KT} {d:Nat} (h:RBe T m n ts d) (hm:m<=5):∀ l,l<=m->RBe T l n ts d:=by
 induction m with
 | zero=>
   intro l hl
   obtain rfl:l=0:=by omega
   exact h
 | succ m ih=>
   intro l hl
   rcases Nat.lt_or_ge l (m+1) with h1|h1
   ·exact ih ((h.lo (by omega)).be (by omega)) (by omega) l (by omega)
   ·obtain rfl:l=m+1:=by omega
    exact h
structure Top (T:List Tok) (n:Nd):Prop where
 hu:7<=levelP n.op->RHu T n n.toks n.nest/\NoSg n.toks
 sg:levelP n.op=6->RSg T n n.toks n.nest
 lo:∀ l:Nat,levelP n.op=l+1->l<5->RLo T l n n.toks n.nest
theorem lev_rng (op:Int):1<=levelP op/\levelP op<=8:=by
 unfold levelP
 repeat' split
 all_goals decide
theorem Top.be {n:Nd} (h:Top T n) {l:Nat} (hl:l<=5) (hlv:(l:Int)+1<=levelP n.op):RBe T l n n.toks n.nest:=by
 have hr:=lev_rng n.op
 by_cases h7:7<=levelP n.op
 ·obtain ⟨h1,h2⟩:=h.hu h7
  exact (h1.sg h2).be.down (by omega) l hl
 by_cases h6:levelP n.op=6
 ·exact (h.sg h6).be.down (by omega) l hl
 ·obtain ⟨m,hm⟩:∃ m:Nat,levelP n.op=m+1:=⟨(levelP n.op-1).toNat,by omega⟩
  exact ((h.lo m hm (by omega)).be (by omega)).down (by omega) l (by omega)
theorem fail_deep {s:PSt} (h0:s.err=0) (hd:40<s.deep+1):(stepP1 (enterP T s)).err=12:=by
 unfold enterP
 rw [if_pos hd]
 unfold failP stepP1
 dsimp only
 rw [if_pos h0]
 rfl
theorem enter_ok {s:PSt} (h0:s.err=0) (hd:¬ 40<s.deep+1):stepP1 (enterP T s)=⟨s.i+1,s.deep+1,s.err,s.bad⟩:=by
 unfold enterP
 rw [if_neg hd]
 unfold stepP1
 dsimp only
 rw [if_pos h0]
 rfl
theorem must_ok {s:PSt} {x:List UInt8} {us:List KT} (h0:s.err=0) (h:(T.map kt).drop s.i=(6,x)::us):mustP T s x=s.next:=by
 unfold mustP
 rw [op_cons h0 h,decide_eq_true rfl,if_pos rfl]
theorem bracket {n:Nd} (h:RBe T 0 n n.toks n.nest):RP T n ((6,[40])::n.toks ++ [(6,[41])]) (n.nest+1):=by
 intro f s r p us hr hh hp
 cases f with
 | zero=>simp [primP] at hr
 | succ f=>
   have hat:=hh.at'
   rw [List.cons_append,List.cons_append] at hat
   obtain ⟨c1,c2⟩:=cur_pair hh.err hat
   have c3:=op_cons hh.err hat [40]
   rw [primP,c1,c3] at hr
   simp only [Int.reduceEq,if_false,decide_true,if_true] at hr
   split at hr
   ·cases hr
   ·rename_i r1 h1
    injection hr with hr
    rw [<-hr]
    have hat2:=(at_cons hat).2.2
    rw [List.append_assoc] at hat2
    by_cases hd:40<s.deep+1
    ·have he:=fail_deep (T:=T) hh.err hd
     have e1:=(stayF f).betw _ _ _ h1 (by rw [he];decide)
     refine .inr ⟨?_,by omega⟩
     show (mustP T r1.2 [41]).err=12
     rw [e1,must_bad (by rw [he];decide)]
     exact he
    ·rw [enter_ok hh.err hd] at h1
     have h2:=h f _ r1 (6,[41]) (p::us) h1 ⟨hh.err,by show s.deep+1<=40;omega,hat2⟩ (okk_one 41 (.inl rfl))
     rcases h2 with ⟨e1,e2,e3⟩|⟨e1,e2⟩
     ·refine .inl ⟨e1,?_,by have e3:s.deep+1+(n.nest:Int)<=40:=e3;omega⟩
      have a3:=drop_adv (s:=⟨s.i+1,s.deep+1,s.err,s.bad⟩) hat2
      show leaveP (mustP T r1.2 [41])=_
      rw [e2,must_ok (s:=(⟨s.i+1,s.deep+1,s.err,s.bad⟩:PSt).adv n.toks.length) (us:=p::us) hh.err a3]
      unfold leaveP PSt.next PSt.adv
      dsimp only
      rw [List.length_append,List.length_cons,List.length_cons,List.length_nil]
      congr 1
      ·omega
      ·omega
     ·refine .inr ⟨?_,by have e2:40<s.deep+1+(n.nest:Int):=e2;omega⟩
      show (mustP T r1.2 [41]).err=12
      rw [must_bad (by rw [e1];decide)]
      exact e1
theorem bracket_ns (ts:List KT):NoSg ((6,[40])::ts ++ [(6,[41])]):=⟨_,_,rfl,by decide,by decide⟩
/-! A kid,in brackets if it binds less closely. -/
theorem Top.item_be {n:Nd} (h:Top T n) {l:Nat} (hl:l<=5):RBe T l n (insK ((l:Int)+1) n.op n.toks) (insD ((l:Int)+1) n.op n.nest):=by
 unfold insK insD
 split
 ·rename_i hlv
  exact h.be hl hlv
 ·have h0:=h.be (l:=0) (by omega) (by have:=lev_rng n.op;omega)
  exact ((bracket h0).hu.sg (bracket_ns _)).be.down (by omega) l hl
theorem Top.item_lo {n:Nd} (h:Top T n) {l:Nat} (hl:l<5):RLo T l n (insK ((l:Int)+1) n.op n.toks) (insD ((l:Int)+1) n.op n.nest):=by
 by_cases he:levelP n.op=(l:Int)+1
 ·unfold insK insD
  rw [if_pos (by omega),if_pos (by omega)]
  exact h.lo l he hl
 ·unfold insK insD
  split
  ·rename_i hlv
   exact (h.be (l:=l+1) (by omega) (by have:=lev_rng n.op;omega)).lo hl
  ·have h0:=h.be (l:=0) (by omega) (by have:=lev_rng n.op;omega)
   exact (((bracket h0).hu.sg (bracket_ns _)).be.down (by omega) (l+1) (by omega)).lo hl
theorem Top.item_sg {n:Nd} (h:Top T n):RSg T n (insK 6 n.op n.toks) (insD 6 n.op n.nest):=by
 unfold insK insD
 split
 ·by_cases h6:levelP n.op=6
  ·exact h.sg h6
  ·obtain ⟨h1,h2⟩:=h.hu (by omega)
   exact h1.sg h2
 ·have h0:=h.be (l:=0) (by omega) (by have:=lev_rng n.op;omega)
  exact (bracket h0).hu.sg (bracket_ns _)
theorem Top.item_hu {n:Nd} (h:Top T n):RHu T n (insK 7 n.op n.toks) (insD 7 n.op n.nest)/\NoSg (insK 7 n.op n.toks):=by
 unfold insK insD
 split
 ·exact h.hu (by omega)
 ·have h0:=h.be (l:=0) (by omega) (by have:=lev_rng n.op;omega)
  exact ⟨(bracket h0).hu,bracket_ns _⟩
/-! Leaves. -/
theorem leaf_top {n:Nd} (hl:levelP n.op=8) (hn:n.nest=0) (hs:NoSg n.toks) (h:RP T n n.toks 0):Top T n:=
 ⟨fun _=>⟨by rw [hn];exact h.hu,hs⟩,fun e=>by omega,fun l e hl5=>by omega⟩
theorem res_leaf {n:Nd} {s:PSt} {r:Nd×PSt} {len:Nat} (hd:s.deep<=40) (h:some (n,s.adv len)=some r):Res n len 0 s r:=by
 injection h with h
 rw [<-h]
 exact .inl ⟨rfl,rfl,by omega⟩
theorem par_num {n:Int} (h0:0<=n) (h1:n<=999999999999999999):Top T (.mk 1 n [] .zero .zero []):=by
 refine leaf_top rfl rfl ⟨_,_,rfl,by simp,by simp⟩ ?_
 intro f s r p us hr hh hp
 cases f with
 | zero=>simp [primP] at hr
 | succ f=>
   obtain ⟨c1,c2⟩:=cur_pair hh.err (show (T.map kt).drop s.i=(1,textD n)::p::us from hh.at')
   rw [primP,c1,c2,if_pos rfl,parse_text_d (by omega)] at hr
   exact res_leaf hh.d1 hr
theorem par_text (s':List UInt8):Top T (.mk 2 0 s' .zero .zero []):=by
 refine leaf_top rfl rfl ⟨_,_,rfl,by simp,by simp⟩ ?_
 intro f s r p us hr hh hp
 cases f with
 | zero=>simp [primP] at hr
 | succ f=>
   obtain ⟨c1,c2⟩:=cur_pair hh.err (show (T.map kt).drop s.i=(2,s')::p::us from hh.at')
   rw [primP,c1,c2,if_neg (by decide),if_pos rfl] at hr
   exact res_leaf hh.d1 hr
theorem err_idx:∀ k<7,idxP errL (errL.getD k [])=k:=by decide
theorem par_fail {k:Nat} (hk:k<7):Top T (.mk 4 (((k:Int)+1)*10000) [] .zero .zero []):=by
 refine leaf_top rfl rfl ⟨_,_,rfl,by simp,by simp⟩ ?_
 intro f s r p us hr hh hp
 cases f with
 | zero=>simp [primP] at hr
 | succ f=>
   obtain ⟨c1,c2⟩:=cur_pair hh.err (show (T.map kt).drop s.i=(5,failT 4 (((k:Int)+1)*10000))::p::us from hh.at')
   have hi:=err_idx k hk
   rw [primP,c1,c2,if_neg (by decide),if_neg (by decide),if_pos rfl,fail_text hk,hi] at hr
   exact res_leaf hh.d1 hr
theorem par_truth {b:Int} (hb:b=0\/b=1):Top T (.mk 3 b [] .zero .zero []):=by
 refine leaf_top rfl rfl ⟨_,_,rfl,by simp,by simp⟩ ?_
 intro f s r p us hr hh hp
 cases f with
 | zero=>simp [primP] at hr
 | succ f=>
   have hat:(T.map kt).drop s.i=(3,truthP (!decide (b=0)))::p::us:=hh.at'
   obtain ⟨c1,c2⟩:=cur_pair hh.err hat
   obtain ⟨n1,n2,_⟩:=at_cons (at_cons hat).2.2
   rw [primP,c1,if_neg (by decide),if_neg (by decide),if_neg (by decide),if_neg (by decide),if_pos rfl] at hr
   cases f with
   | zero=>simp [nameP] at hr
   | succ f=>
     rw [nameP,n1,n2,c2,if_neg (fun e=>hp.1 (Prod.ext e.1 e.2))] at hr
     rcases hb with rfl|rfl
     ·rw [if_neg (by decide),if_pos (by decide)] at hr
      exact res_leaf hh.d1 hr
     ·rw [if_pos (by decide)] at hr
      exact res_leaf hh.d1 hr
theorem par_cell {r':Ref} (hg:r'.good=true):Top T (.mk 5 0 [] r' .zero []):=by
 refine leaf_top rfl rfl ⟨_,_,rfl,by simp,by simp⟩ ?_
 intro f s r p us hr hh hp
 cases f with
 | zero=>simp [primP] at hr
 | succ f=>
   have hat:(T.map kt).drop s.i=(4,textP r')::p::us:=hh.at'
   obtain ⟨c1,c2⟩:=cur_pair hh.err hat
   have hn:=op_cons (s:=s.next) hh.err (at_cons hat).2.2 [58]
   rw [decide_eq_false hp.2] at hn
   rw [primP,c1,if_neg (by decide),if_neg (by decide),if_neg (by decide),if_pos rfl] at hr
   unfold areaP refT at hr
   rw [if_pos hn,c2,parse_text hg] at hr
   exact res_leaf hh.d1 hr
theorem par_area {r' q':Ref} (hg:r'.good=true) (hq:q'.good=true):Top T (.mk 6 0 [] r' q' []):=by
 refine leaf_top rfl rfl ⟨_,_,rfl,by simp,by simp⟩ ?_
 intro f s r p us hr hh hp
 cases f with
 | zero=>simp [primP] at hr
 | succ f=>
   have hat:(T.map kt).drop s.i=(4,textP r')::(6,[58])::(4,textP q')::p::us:=hh.at'
   obtain ⟨c1,c2⟩:=cur_pair hh.err hat
   have hat1:=(at_cons hat).2.2
   have hat2:=(at_cons hat1).2.2
   have hn:=op_cons (s:=s.next) hh.err hat1 [58]
   rw [decide_eq_true rfl] at hn
   obtain ⟨d1,d2⟩:=cur_pair (s:=s.next.next) hh.err hat2
   rw [primP,c1,if_neg (by decide),if_neg (by decide),if_neg (by decide),if_pos rfl] at hr
   unfold areaP refT at hr
   rw [if_neg (by rw [hn];decide),d1,if_neg (by decide),c2,d2,parse_text hg,parse_text hq] at hr
   exact res_leaf hh.d1 hr
/-! Nodes with kids. -/
theorem par_sign {op:Int} {x:Nd} (ho:op=7\/op=8) (h:Top T x):Top T (.mk op 0 [] .zero .zero [x]):=by
 have hl:levelP op=6:=by rcases ho with rfl|rfl<;>rfl
 refine ⟨fun e=>by have:7<=levelP op:=e;omega,fun _=>?_,fun l e hl5=>by have:levelP op=l+1:=e;omega⟩
 rw [toks_sign ho,nest_sign ho]
 have hi:=h.item_sg
 generalize insK 6 x.op x.toks=ts at *
 generalize insD 6 x.op x.nest=d at *
 intro f s r p us hr hh hp hn
 cases f with
 | zero=>simp [signedP] at hr
 | succ f=>
   have hat:=hh.at'
   rw [List.cons_append] at hat
   have hat2:=(at_cons hat).2.2
   have go:∀ r1,signedP T f (stepP1 (enterP T s))=some r1->Res (.mk op 0 [] .zero .zero [x]) (ts.length+1) (1+d) s (.mk op 0 [] .zero .zero [r1.1],leaveP r1.2):=by
    intro r1 h1
    by_cases hd:40<s.deep+1
    ·have he:=fail_deep (T:=T) hh.err hd
     have e1:=(stayF f).signed _ _ h1 (by rw [he];decide)
     refine .inr ⟨?_,by omega⟩
     show r1.2.err=12
     rw [e1]
     exact he
    ·rw [enter_ok hh.err hd] at h1
     rcases hi f _ r1 p us h1 ⟨hh.err,by show s.deep+1<=40;omega,hat2⟩ hp hn with ⟨e1,e2,e3⟩|⟨e1,e2⟩
     ·refine .inl ⟨by rw [e1],?_,by have e3:s.deep+1+(d:Int)<=40:=e3;omega⟩
      show leaveP r1.2=_
      rw [e2]
      unfold leaveP PSt.adv
      dsimp only
      congr 1
      ·omega
      ·omega
     ·exact .inr ⟨e1,by have e2:40<s.deep+1+(d:Int):=e2;omega⟩
   rw [List.length_cons]
   rw [signedP,op_cons hh.err hat,op_cons hh.err hat] at hr
   rcases ho with rfl|rfl
   ·simp only [if_true,decide_true] at hr
    split at hr
    ·cases hr
    ·rename_i r1 h1
     injection hr with hr
     rw [<-hr]
     exact go r1 h1
   ·rw [if_neg (by decide)] at hr
    simp only [Int.reduceEq,if_false,decide_true,if_true] at hr
    split at hr
    ·cases hr
    ·rename_i r1 h1
     injection hr with hr
     rw [<-hr]
     exact go r1 h1
theorem par_hund {x:Nd} (h:Top T x):Top T (.mk 9 0 [] .zero .zero [x]):=by
 refine ⟨fun _=>?_,fun e=>absurd e (show levelP 9≠6 by decide),fun l e hl5=>by have:(7:Int)=l+1:=e;omega⟩
 obtain ⟨hi,hs⟩:=h.item_hu
 rw [toks_hund,nest_hund]
 generalize insK 7 x.op x.toks=ts at *
 generalize insD 7 x.op x.nest=d at *
 refine ⟨?_,hs.app _⟩
 intro f s r p us hr hh hp
 have hat:=hh.at'
 rw [List.append_assoc] at hat
 rcases hi f s r (6,[37]) (p::us) hr ⟨hh.err,hh.d1,hat⟩ ⟨by decide,by decide⟩ with ⟨f',e1,e2⟩|e
 ·cases f' with
  | zero=>simp [hloopP] at e1
  | succ f'=>
    have a3:=drop_adv hat
    rw [hloopP,op_cons (s:=s.adv ts.length) hh.err a3,decide_eq_true rfl,if_pos rfl,adv_next,adv_adv] at e1
    exact .inl ⟨f',by rw [List.length_append];exact e1,e2⟩
 ·exact .inr e
theorem par_bin {i:Nat} {x y:Nd} (hi:i<12) (hx:Top T x) (hy:Top T y):Top T (.mk (10+(i:Int)) 0 [] .zero .zero [x,y]):=by
 obtain ⟨l,hl5,hlv,hmem,hok,hidx⟩:=sign_level i hi
 refine ⟨fun e=>by have:7<=levelP (10+(i:Int)):=e;omega,fun e=>by have:levelP (10+(i:Int))=6:=e;omega,fun m e hm5=>?_⟩
 have e:levelP (10+(i:Int))=m+1:=e
 obtain rfl:m=l:=by omega
 have hxi:=hx.item_lo hl5
 have hyi:=hy.item_be (l:=m+1) (by omega)
 rw [toks_bin hi,nest_bin hi,hlv]
 rw [show ((m+1:Nat):Int)+1=(m:Int)+1+1 by omega] at hyi
 generalize insK ((m:Int)+1) x.op x.toks=ts at *
 generalize insD ((m:Int)+1) x.op x.nest=d at *
 generalize insK ((m:Int)+1+1) y.op y.toks=us' at *
 generalize insD ((m:Int)+1+1) y.op y.nest=d' at *
 generalize signL.getD i []=sg at *
 intro f s r p us hr hh hp
 have hat:=hh.at'
 rw [List.append_assoc,List.append_assoc] at hat
 rcases hxi f s r (6,sg) (us'++p::us) hr ⟨hh.err,hh.d1,hat⟩ hok with ⟨f',e1,e2⟩|⟨e1,e2⟩
 ·cases f' with
  | zero=>simp [loopP] at e1
  | succ f'=>
    have a3:=drop_adv hat
    have a4:(T.map kt).drop (s.adv ts.length).i=(6,sg)::(us'++p::us):=a3
    obtain ⟨c1,c2⟩:=cur_pair (s:=s.adv ts.length) hh.err a4
    rw [loopP,sgn_cons (s:=s.adv ts.length) hh.err a4,decide_eq_true ⟨rfl,hmem⟩,if_pos rfl] at e1
    split at e1
    ·cases e1
    ·rename_i r1 h1
     have a5:=(at_cons a4).2.2
     rcases hyi f' (s.adv ts.length).next r1 p us h1 ⟨hh.err,hh.d1,a5⟩ hp with ⟨g1,g2,g3⟩|⟨g1,g2⟩
     ·rw [c2,hidx,g1,g2,adv_next,adv_adv,adv_adv] at e1
      refine .inl ⟨f',?_,?_⟩
      ·rw [List.length_append,List.length_append,List.length_singleton,Nat.add_assoc]
       exact e1
      ·have g3:s.deep+(d':Int)<=40:=g3
       omega
     ·have:=(stayF f').loop _ _ _ _ e1 (by rw [g1];decide)
      refine .inr ⟨by rw [this];exact g1,?_⟩
      have g2:40<s.deep+(d':Int):=g2
      omega
 ·exact .inr ⟨e1,by omega⟩
/-! Calls. -/
theorem nf_start {n:Nd} (h:Nf n):n.op≠23->∃ p us,n.toks=p::us/\p≠(6,[41])/\p≠(6,[44]):=by
 have ins:∀ (least:Int) (op:Int) (t:List KT),(∃ p us,t=p::us/\p≠(6,[41])/\p≠(6,[44]))->∃ p us,insK least op t=p::us/\p≠(6,[41])/\p≠(6,[44]):=by
  intro least op t ht
  unfold insK
  split
  ·exact ht
  ·exact ⟨_,_,rfl,by decide,by decide⟩
 induction h with
 | num _ _=>exact fun _=>⟨_,_,rfl,by simp,by simp⟩
 | text _ _=>exact fun _=>⟨_,_,rfl,by simp,by simp⟩
 | truth _=>exact fun _=>⟨_,_,rfl,by simp,by simp⟩
 | fail _=>exact fun _=>⟨_,_,rfl,by simp,by simp⟩
 | cell _=>exact fun _=>⟨_,_,rfl,by simp,by simp⟩
 | area _ _=>exact fun _=>⟨_,_,rfl,by simp,by simp⟩
 | sign ho _ _ _=>
   intro _
   rw [toks_sign ho]
   exact ⟨_,_,rfl,by split<;>decide,by split<;>decide⟩
 | hund _ hne ih=>
   intro _
   rw [toks_hund]
   obtain ⟨p,us,e,h1,h2⟩:=ins 7 _ _ (ih hne)
   exact ⟨p,us ++ [(6,[37])],by rw [e];rfl,h1,h2⟩
 | @bin i x y hi _ hne _ _ ih _=>
   intro _
   rw [toks_bin hi]
   obtain ⟨p,us,e,h1,h2⟩:=ins (levelP (10+i)) _ _ (ih hne)
   exact ⟨p,_,by rw [e];rfl,h1,h2⟩
 | call _ _ _ _ _=>
   intro _
   rw [toks_call]
   exact ⟨_,_,rfl,by simp,by simp⟩
 | miss=>exact fun h=>absurd rfl h
def maxN (ks:List Nd):Nat:=(ks.map Nd.nest).foldr max 0
theorem args_loop (ks:List Nd):∀ (f:Nat) (acc:List Nd) (s:PSt) (r:List Nd×PSt) (p:KT) (us:List KT),ks ≠ []->(∀ k∈ks,Nf k/\(k.op≠23->Top T k)) →
  aloopP T f acc s=some r->Here T s (joinT ks ++ [(6,[41])]) p us->(acc++ks ≠ [.mk 23 0 [] .zero .zero []]) →
  (r.1=acc++ks/\r.2=s.adv ((joinT ks).length+1)/\s.deep+maxN ks<=40)\/(r.2.err=12/\40<s.deep+maxN ks):=by
 induction ks with
 | nil=>intro f acc s r p us h;exact absurd rfl h
 | cons k ks ih=>
   intro f acc s r p us _ hk hr hh hne
   cases f with
   | zero=>simp [aloopP] at hr
   | succ f=>
     obtain ⟨hnf,htop⟩:=hk k (by simp)
     obtain ⟨q,vs,hq,hq41⟩:∃ q vs,(ks.flatMap fun k=>(6,[44])::k.toks)++(6,[41])::p::us=q::vs/\((ks = []/\q=(6,[41])/\vs=p::us)\/(ks ≠ []/\q=(6,[44])/\vs=joinT ks++(6,[41])::p::us)):=by
      cases ks with
      | nil=>exact ⟨_,_,rfl,.inl ⟨rfl,rfl,rfl⟩⟩
      | cons k2 ks=>
        refine ⟨(6,[44]),joinT (k2::ks)++(6,[41])::p::us,?_,.inr ⟨by simp,rfl,rfl⟩⟩
        rw [List.flatMap_cons,joinT,List.cons_append,List.cons_append]
     have hat:(T.map kt).drop s.i=k.toks++q::vs:=by
      rw [hh.at',← hq]
      simp [joinT]
     have hqok:Okk 0 q:=by
      rcases hq41 with ⟨_,rfl,_⟩|⟨_,rfl,_⟩
      ·exact okk_one 41 (.inl rfl)
      ·exact okk_one 44 (.inr rfl)
     rw [aloopP,if_neg (by simp [hh.err])] at hr
     have hkid:∀ r1,(if isOp T s [44]=true\/isOp T s [41]=true then some (missN,s) else betwP T f 0 s)=some r1->Res k k.toks.length k.nest s r1:=by
      intro r1 h1
      by_cases hm:k.op=23
      ·have ek:k=missN:=by
        cases hnf with
        | miss=>rfl
        | sign ho _ _=>exfalso;have hm:_=(23:Int):=hm;simp only [Nd.op] at hm;omega
        | bin hi _ _ _ _=>exfalso;simp only [Nd.op] at hm;omega
        | _=>exfalso;simp [Nd.op] at hm
       subst ek
       have hat0:(T.map kt).drop s.i=q::vs:=hat
       have hop:isOp T s [44]=true\/isOp T s [41]=true:=by
        rw [op_cons hh.err hat0,op_cons hh.err hat0]
        rcases hq41 with ⟨_,rfl,_⟩|⟨_,rfl,_⟩
        ·exact .inr (by decide)
        ·exact .inl (by decide)
       rw [if_pos hop] at h1
       exact res_leaf (len:=0) hh.d1 h1
      ·obtain ⟨p0,us0,e0,h41,h44⟩:=nf_start hnf hm
       have hat0:=hat
       rw [e0,List.cons_append] at hat0
       rw [op_cons hh.err hat0,op_cons hh.err hat0,decide_eq_false h41,decide_eq_false h44,if_neg (by simp)] at h1
       have hb:=(htop hm).be (l:=0) (by omega) (by have:=lev_rng k.op;omega)
       exact hb f s r1 q vs h1 ⟨hh.err,hh.d1,hat⟩ hqok
     split at hr
     ·cases hr
     ·rename_i r1 h1
      rcases hkid r1 h1 with ⟨g1,g2,g3⟩|⟨g1,g2⟩
      ·have a3:=drop_adv hat
       rw [g1,g2] at hr
       rcases hq41 with ⟨rfl,rfl,rfl⟩|⟨hks,rfl,rfl⟩
       ·rw [op_cons (s:=s.adv k.toks.length) hh.err a3,if_neg (by decide),must_ok (s:=s.adv k.toks.length) hh.err a3] at hr
        injection hr with hr
        rw [<-hr]
        refine .inl ⟨rfl,?_,?_⟩
        ·rw [adv_next,adv_adv]
         simp [joinT]
        ·simp only [maxN,List.map_cons,List.map_nil,List.foldr_cons,List.foldr_nil]
         omega
       ·rw [op_cons (s:=s.adv k.toks.length) hh.err a3,if_pos (by decide),adv_next,adv_adv] at hr
        have a4:=(at_cons a3).2.2
        have hh2:Here T (s.adv (k.toks.length+1)) (joinT ks ++ [(6,[41])]) p us:=⟨hh.err,hh.d1,by
         rw [List.append_assoc]
         exact a4⟩
        have:=ih f (acc ++ [k]) _ r p us hks (fun k' hk'=>hk k' (by simp [hk'])) hr hh2 (by rw [List.append_assoc];exact hne)
        have hlen:(joinT (k::ks)).length+1=(k.toks.length+1)+((joinT ks).length+1):=by
         cases ks with
         | nil=>exact absurd rfl hks
         | cons k2 ks=>simp [joinT];omega
        rcases this with ⟨b1,b2,b3⟩|⟨b1,b2⟩
        ·refine .inl ⟨by rw [b1,List.append_assoc];rfl,by rw [b2,adv_adv,hlen],?_⟩
         have b3:s.deep+(maxN ks:Int)<=40:=b3
         unfold maxN at b3 ⊢
         rw [List.map_cons,List.foldr_cons]
         omega
        ·refine .inr ⟨b1,?_⟩
         have b2:40<s.deep+(maxN ks:Int):=b2
         unfold maxN at b2 ⊢
         rw [List.map_cons,List.foldr_cons]
         omega
      ·have hb:r1.2.err≠0:=by rw [g1];decide
       rw [isOp_bad hb,if_neg (by simp),must_bad hb] at hr
       injection hr with hr
       rw [<-hr]
       refine .inr ⟨g1,?_⟩
       unfold maxN
       rw [List.map_cons,List.foldr_cons]
       omega
theorem par_call {s':List UInt8} {ks:List Nd} (hs:NameOk s') (hk:∀ k∈ks,Nf k/\(k.op≠23->Top T k)) (hm:∀ k,ks = [k]->k.op≠23):Top T (.mk 22 0 s' .zero .zero ks):=by
 have hns:NoSg (Nd.mk 22 0 s' .zero .zero ks).toks:=by rw [toks_call];exact ⟨_,_,rfl,by simp,by simp⟩
 refine ⟨fun _=>⟨RP.hu ?_,hns⟩,fun e=>absurd e (show levelP 22≠6 by decide),fun l e hl5=>by have:(8:Int)=l+1:=e;omega⟩
 rw [toks_call,nest_call]
 intro f s r p us hr hh hp
 cases f with
 | zero=>simp [primP] at hr
 | succ f=>
   have hat:(T.map kt).drop s.i=(3,s')::(6,[40])::(joinT ks ++ [(6,[41])]++p::us):=hh.at'
   obtain ⟨c1,c2⟩:=cur_pair hh.err hat
   have hat1:=(at_cons hat).2.2
   obtain ⟨n1,n2,hat2⟩:=at_cons hat1
   rw [primP,c1,if_neg (by decide),if_neg (by decide),if_neg (by decide),if_neg (by decide),if_pos rfl] at hr
   cases f with
   | zero=>simp [nameP] at hr
   | succ f=>
     rw [nameP,n1,n2,c2,if_pos ⟨rfl,rfl⟩] at hr
     by_cases hd:40<s.deep+1
     ·have he:(enterP T s).err=12:=by
       unfold enterP
       rw [if_pos hd]
       unfold failP
       dsimp only
       rw [if_pos hh.err]
      rw [if_pos (by rw [he];decide)] at hr
      injection hr with hr
      rw [<-hr]
      exact .inr ⟨he,by omega⟩
     ·have hen:enterP T s=⟨s.i,s.deep+1,s.err,s.bad⟩:=by unfold enterP;rw [if_neg hd]
      rw [hen,if_neg (by simp [hh.err])] at hr
      split at hr
      ·cases hr
      ·rename_i r1 h1
       injection hr with hr
       rw [<-hr]
       have hgo:(r1.1=ks/\r1.2=(⟨s.i+2,s.deep+1,s.err,s.bad⟩:PSt).adv ((joinT ks).length+1)/\s.deep+1+maxN ks<=40)\/(r1.2.err=12/\40<s.deep+1+maxN ks):=by
        have hst:(⟨s.i,s.deep+1,s.err,s.bad⟩:PSt).next.next=⟨s.i+2,s.deep+1,s.err,s.bad⟩:=rfl
        rw [hst] at h1
        have hat3:(T.map kt).drop (⟨s.i+2,s.deep+1,s.err,s.bad⟩:PSt).i=joinT ks ++ [(6,[41])]++p::us:=hat2
        cases f with
        | zero=>simp [argsP] at h1
        | succ f=>
          rw [argsP] at h1
          cases ks with
          | nil=>
            rw [op_cons (s:=⟨s.i+2,s.deep+1,s.err,s.bad⟩) hh.err hat3,decide_eq_true rfl,if_pos rfl] at h1
            injection h1 with h1
            rw [<-h1]
            exact .inl ⟨rfl,rfl,by show s.deep+1+((0:Nat):Int)<=40;omega⟩
          | cons k ks=>
            obtain ⟨q,vs,e0,hq⟩:∃ q vs,joinT (k::ks) ++ [(6,[41])]++p::us=q::vs/\q≠(6,[41]):=by
             by_cases hmk:k.op=23
             ·have ek:k.toks = []:=by
               have hnf:=(hk k (by simp)).1
               cases hnf with
               | miss=>rfl
               | sign ho _ _=>exfalso;simp only [Nd.op] at hmk;omega
               | bin hi _ _ _ _=>exfalso;simp only [Nd.op] at hmk;omega
               | _=>exfalso;simp [Nd.op] at hmk
              cases ks with
              | nil=>exact absurd hmk (hm k rfl)
              | cons k2 ks=>exact ⟨(6,[44]),_,by rw [joinT,ek];rfl,by decide⟩
             ·obtain ⟨p0,us0,e0,h41,_⟩:=nf_start (hk k (by simp)).1 hmk
              exact ⟨p0,_,by rw [joinT,e0];rfl,h41⟩
            rw [e0] at hat3
            rw [op_cons (s:=⟨s.i+2,s.deep+1,s.err,s.bad⟩) hh.err hat3,decide_eq_false hq,if_neg (by simp)] at h1
            rw [<-e0] at hat3
            have:=args_loop (k::ks) f [] _ r1 p us (by simp) hk h1 ⟨hh.err,by show s.deep+1<=40;omega,hat3⟩ (fun e=>by
             rw [List.nil_append] at e
             injection e with e1 e2
             exact hm k (by rw [e2]) (by rw [e1];rfl))
            exact this
       rcases hgo with ⟨g1,g2,g3⟩|⟨g1,g2⟩
       ·refine .inl ⟨by rw [g1],?_,?_⟩
        ·show leaveP r1.2=_
         rw [g2]
         unfold leaveP PSt.adv
         dsimp only
         simp only [List.length_cons,List.length_append,List.length_nil]
         congr 1
         ·omega
         ·omega
        ·unfold maxN at g3
         omega
       ·refine .inr ⟨g1,?_⟩
        unfold maxN at g2
        omega
theorem nf_top {n:Nd} (h:Nf n):n.op≠23->Top T n:=by
 induction h with
 | num h0 h1=>exact fun _=>par_num h0 h1
 | text _ _=>exact fun _=>par_text _
 | truth hb=>exact fun _=>par_truth hb
 | fail hk=>exact fun _=>par_fail hk
 | cell hr=>exact fun _=>par_cell hr
 | area hr hq=>exact fun _=>par_area hr hq
 | sign ho _ hne ih=>exact fun _=>par_sign ho (ih hne)
 | hund _ hne ih=>exact fun _=>par_hund (ih hne)
 | bin hi _ hnx _ hny ihx ihy=>exact fun _=>par_bin hi (ihx hnx) (ihy hny)
 | call hs _ hk hm ih=>exact fun _=>par_call hs (fun k hk'=>⟨hk k hk',ih k hk'⟩) hm
 | miss=>exact fun h=>absurd rfl h
end
theorem parse_print {n:Nd} (h:Nf n) (hne:n.op≠23) (hl:n.spell.length<=2000):(parseR n.spell=(n,0,0)/\n.nest<=40)\/((parseR n.spell).2.2=12/\40<n.nest):=by
 obtain ⟨h0,hT⟩:=lex_print h hl
 obtain ⟨r,hr⟩:=betw_some h0
 have hat:((lexP n.spell).1.map kt).drop st0.i=n.toks++(0,[]) :: []:=by
  show ((lexP n.spell).1.map kt).drop 0=_
  rw [List.drop_zero,hT]
 have hb:=(nf_top (T:=(lexP n.spell).1) h hne).be (l:=0) (by omega) (by have:=lev_rng n.op;omega)
 have hres:=hb _ _ r (0,[]) [] hr ⟨rfl,by decide,hat⟩ okk_end
 have hr':betwP (lexP n.spell).1 (30*(lexP n.spell).1.length+30) 0 ⟨0,0,0,0⟩=some r:=hr
 have hd0:st0.deep=0:=rfl
 unfold parseR parseT
 rw [if_neg (by simp [h0]),hr']
 dsimp only
 rcases hres with ⟨e1,e2,e3⟩|⟨e1,e2⟩
 ·have a3:=drop_adv hat
  rw [e2]
  have hc:=(cur_pair (T:=(lexP n.spell).1) (s:=st0.adv n.toks.length) rfl a3).1
  have hk':(if (curT (lexP n.spell).1 (st0.adv n.toks.length)).kind≠0 then failP (lexP n.spell).1 (st0.adv n.toks.length) 10 else st0.adv n.toks.length)=st0.adv n.toks.length:=if_neg (by rw [hc];decide)
  rw [hk',if_neg (show ¬ (st0.adv n.toks.length).err≠0 from fun h=>h rfl),e1]
  exact .inl ⟨rfl,by rw [hd0] at e3;omega⟩
 ·have hne0:r.2.err≠0:=by rw [e1];decide
  have hk:(if (curT (lexP n.spell).1 r.2).kind≠0 then failP (lexP n.spell).1 r.2 10 else r.2)=r.2:=by rw [cur_bad hne0];exact if_neg (by simp [endT])
  rw [hk,if_pos hne0]
  exact .inr ⟨e1,by rw [hd0] at e2;omega⟩
theorem parse_big {s:List UInt8} (h:2000<s.length):(parseR s).2.2=11:=by
 unfold parseR parseT lexP
 rw [if_pos h]
 rfl
end Go.A
namespace Go.A
open Go.Proofs Go.Lib
/-! Great letters. -/
theorem byte_all {P:UInt8->Prop} [∀ c,Decidable (P c)] (h:(List.range 256).all (fun n=>decide (P (UInt8.ofNat n)))=true) (c:UInt8):P c:=by
 have:=List.all_eq_true.1 h c.toNat (List.mem_range.2 c.toNat_lt)
 simpa using this
theorem gr_letter (c:UInt8):letterP (greatC c).toNat=letterP c.toNat:=byte_all (P:=fun c=>letterP (greatC c).toNat=letterP c.toNat) (by decide +kernel) c
theorem gr_isL (c:UInt8):isL (greatC c)=isL c:=byte_all (P:=fun c=>isL (greatC c)=isL c) (by decide +kernel) c
theorem gr_isD (c:UInt8):isD (greatC c)=isD c/\(isD c=true->greatC c=c):=byte_all (P:=fun c=>isD (greatC c)=isD c/\(isD c=true->greatC c=c)) (by decide +kernel) c
theorem gr_sign (c:UInt8):((greatC c).toNat=48↔c.toNat=48)/\((greatC c).toNat=36↔c.toNat=36)/\((greatC c).toNat=46↔c.toNat=46)/\(((greatC c).toNat:Int)=95↔(c.toNat:Int)=95):=byte_all (P:=fun c=>((greatC c).toNat=48↔c.toNat=48)/\((greatC c).toNat=36↔c.toNat=36)/\((greatC c).toNat=46↔c.toNat=46)/\(((greatC c).toNat:Int)=95↔(c.toNat:Int)=95)) (by decide +kernel) c
theorem gr_word (c:UInt8):wordB (greatC c)=wordB c/\digB (greatC c)=digB c/\greatC (greatC c)=greatC c:=byte_all (P:=fun c=>wordB (greatC c)=wordB c/\digB (greatC c)=digB c/\greatC (greatC c)=greatC c) (by decide +kernel) c
theorem great_idem (l:List UInt8):greatP (greatP l)=greatP l:=by
 unfold greatP
 rw [List.map_map]
 exact List.map_congr_left fun c _=>(gr_word c).2.2
theorem runL_great (p:UInt8->Bool) (hp:∀ c,p (greatC c)=p c):∀ l,runL p (greatP l)=runL p l
 | []=>rfl
 | c::l=>by
   show runL p (greatC c::greatP l)=_
   rw [runL,runL,hp,runL_great p hp l]
theorem numF_great:∀ (l:List UInt8) (n:Int),numF n (greatP l)=numF n l
 | [],n=>rfl
 | c::l,n=>by
   show numF n (greatC c::greatP l)=_
   rw [numF,numF,(gr_isD c).1]
   by_cases h:isD c=true
   ·rw [if_pos h,if_pos h,(gr_isD c).2 h,numF_great l]
   ·rw [if_neg h,if_neg h]
theorem atP_great (l:List UInt8) (i:Nat):(atP (greatP l) i=48↔atP l i=48)/\(atP (greatP l) i=36↔atP l i=36)/\(atP (greatP l) i=95↔atP l i=95)/\letterP (atP (greatP l) i)=letterP (atP l i):=by
 unfold atP greatP
 rw [List.getElem?_map]
 cases l[i]? with
 | none=>exact ⟨Iff.rfl,Iff.rfl,Iff.rfl,rfl⟩
 | some c=>
   obtain ⟨h1,h2,h3,h4⟩:=gr_sign c
   simp only [Option.map_some]
   exact ⟨by omega,by omega,h4,gr_letter c⟩
theorem great_drop (l:List UInt8) (i:Nat):(greatP l).drop i=greatP (l.drop i):=by unfold greatP;rw [List.map_drop]
theorem great_take (l:List UInt8) (i:Nat):(greatP l).take i=greatP (l.take i):=by unfold greatP;rw [List.map_take]
theorem colF_gr:∀ (l:List UInt8) (n:Int),colF n (greatP l)=colF n l
 | [],n=>rfl
 | c::l,n=>by
   show colF n (greatC c::greatP l)=_
   rw [colF,colF,gr_letter]
   split
   ·rfl
   ·exact colF_gr l _
theorem columnP_gr (l:List UInt8):columnP (greatP l)=columnP l:=by unfold columnP;rw [colF_gr]
theorem readQ_gr (l:List UInt8) (i:Nat) (col:Int) (ar ac:Bool):readQ (greatP l) i col ar ac=readQ l i col ar ac:=by
 unfold readQ
 rw [great_drop,numF_great,runL_great isD fun c=>(gr_isD c).1]
 obtain ⟨a1,_,_,_⟩:=atP_great l i
 obtain ⟨_,_,b3,b4⟩:=atP_great l (i+runL isD (l.drop i))
 rw [b4]
 simp only [a1,b3]
theorem readR_gr (l:List UInt8) (i:Nat) (ac:Bool):readR (greatP l) i ac=readR l i ac:=by
 unfold readR
 rw [great_drop,runL_great isL gr_isL,great_take,great_drop,columnP_gr,readQ_gr,readQ_gr]
 simp only [(atP_great l (i+runL isL (l.drop i))).2.1]
theorem readP_gr (l:List UInt8):readP (greatP l)=readP l:=by
 unfold readP
 rw [readR_gr,readR_gr]
 simp only [(atP_great l 0).2.1]
theorem refB_gr (l:List UInt8):refB (greatP l)=refB l:=by
 unfold refB parseP
 rw [readP_gr,greatP_len]
theorem cutDot_gr:∀ l:List UInt8,cutDot (greatP l)=(greatP (cutDot l).1,(cutDot l).2.map greatP)
 | []=>rfl
 | c::l=>by
   show cutDot (greatC c::greatP l)=_
   rw [cutDot,cutDot,cutDot_gr l]
   by_cases h:c.toNat=46
   ·rw [if_pos h,if_pos ((gr_sign c).2.2.1.2 h)];rfl
   ·rw [if_neg h,if_neg (fun e=>h ((gr_sign c).2.2.1.1 e))];rfl
theorem all_gr (l:List UInt8):(greatP l).all digB=l.all digB:=by
 unfold greatP
 rw [List.all_map]
 congr 1
 funext c
 exact (gr_word c).2.1
theorem ne_gr (l:List UInt8):decide (greatP l ≠ [])=decide (l ≠ []):=by
 cases l<;>rfl
theorem numB_gr (l:List UInt8):numB (greatP l)=numB l:=by
 unfold numB
 rw [cutDot_gr]
 cases h:cutDot l with
 | mk w o=>
   cases o with
   | none=>simp only [Option.map_none];rw [ne_gr,all_gr]
   | some p=>
     simp only [Option.map_some]
     have e:greatP w++greatP p=greatP (w++p):=by unfold greatP;rw [List.map_append]
     rw [ne_gr,ne_gr,greatP_len,e,all_gr]
theorem nameB_gr (l:List UInt8):nameB (greatP l)=nameB l:=by
 unfold nameB
 rw [ne_gr]
 have h1:(greatP l).all (fun c=>wordB c && decide (c.toNat≠36))=l.all (fun c=>wordB c && decide (c.toNat≠36)):=by
  unfold greatP
  rw [List.all_map]
  congr 1
  funext c
  show (wordB (greatC c) && _)=_
  rw [(gr_word c).1]
  congr 1
  exact decide_eq_decide.2 (not_congr (gr_sign c).2.1)
 rw [h1]
 congr 2
 cases l with
 | nil=>rfl
 | cons c l=>
   show (digB (greatC c) || decide ((greatC c).toNat=46))=(digB c || decide (c.toNat=46))
   rw [(gr_word c).2.1]
   congr 1
   exact decide_eq_decide.2 (gr_sign c).2.2.1
/-! What tokens hold. -/
theorem quotedF_whole:∀ (k:Nat) (r:List UInt8) (p:Nat) (acc:List UInt8) kd t n,quotedF k r p acc = .tok kd t n->(∃ c,Sg acc c)->∃ c,Sg t c
 | 0,r,p,acc,kd,t,n,h,_=>by simp [quotedF] at h
 | k+1,r,p,acc,kd,t,n,h,ha=>by
   obtain ⟨c0,ha⟩:=ha
   by_cases hr:r = []
   ·subst hr;rw [quotedF_nil] at h;simp at h
   unfold quotedF at h
   rw [if_neg hr] at h
   split at h
   ·simp at h
   rename_i hv
   split at h
   ·have henc:=encode_decode r hr (by rintro ⟨h1,h2⟩;exact hv (by rw [<-h1,← h2]))
    rw [henc] at h
    exact quotedF_whole k _ _ _ kd t n h ⟨_,ha.join (Sg.one hr hv)⟩
   split at h
   ·exact quotedF_whole k _ _ _ kd t n h ⟨_,ha.join (Sg.ascii [34] (by decide))⟩
   ·simp only [Step.tok.injEq] at h
    obtain ⟨_,rfl,_⟩:=h
    exact ⟨_,ha⟩
theorem Sg.some {t:List UInt8} {c:Nat} (h:Sg t c):sgP t≠none:=by
 have:=(h.app []).1
 rw [List.append_nil,sgP_nil] at this
 rw [this]
 simp
structure TokNf (t:Tok):Prop where
 text:t.kind=2->sgP t.text≠none
 name:t.kind=3->NameOk t.text
theorem TokNf.of {kd:Int} {t:List UInt8} {a c:Nat} (h2:kd=2->sgP t≠none) (h3:kd=3->NameOk t):TokNf ⟨kd,t,a,c⟩:=⟨h2,h3⟩
theorem stepP_nf (r:List UInt8) {kd:Int} {t:List UInt8} {n:Nat} (h:stepP r = .tok kd t n) (a c:Nat):TokNf ⟨kd,t,a,c⟩:=by
 unfold stepP at h
 dsimp only at h
 split at h
 ·simp at h
 split at h
 ·simp at h
 split at h
 ·unfold wordsS at h
  dsimp only at h
  have hall:=runL_all2 wordB r
  split at h
  ·simp only [Step.tok.injEq] at h
   obtain ⟨rfl,rfl,rfl⟩:=h
   exact .of (fun h=>no1 h (by decide)) (fun h=>no1 h (by decide))
  rename_i hnum
  split at h
  ·simp only [Step.tok.injEq] at h
   obtain ⟨rfl,rfl,rfl⟩:=h
   exact .of (fun h=>no1 h (by decide)) (fun h=>no1 h (by decide))
  rename_i href
  split at h
  ·rename_i hn
   simp only [Step.tok.injEq] at h
   obtain ⟨rfl,rfl,rfl⟩:=h
   refine .of (fun h=>no1 h (by decide)) fun _=>⟨?_,by rw [nameB_gr];exact hn,by rw [numB_gr];simpa using hnum,by rw [refB_gr];simpa using href,great_idem _⟩
   intro c hc
   obtain ⟨d,hd,rfl⟩:=List.mem_map.1 hc
   rw [(gr_word d).1]
   exact hall d hd
  ·simp at h
 split at h
 ·obtain ⟨rfl,h2⟩:=quotedF_len _ _ _ _ _ _ _ h
  obtain ⟨c,hc⟩:=quotedF_whole _ _ _ _ _ _ _ h ⟨0,.nil⟩
  exact .of (fun _=>hc.some) (fun h=>no1 h (by decide))
 split at h
 ·obtain ⟨rfl,h2⟩:=failS_gd _ _ _ _ _ h
  exact .of (fun h=>no1 h (by decide)) (fun h=>no1 h (by decide))
 ·have key:kd=6:=by
   unfold opS at h
   split at h
   ·simp only [Step.tok.injEq] at h
    exact h.1.symm
   ·split at h
    ·simp only [Step.tok.injEq] at h
     exact h.1.symm
    ·split at h
     ·simp only [Step.tok.injEq] at h
      exact h.1.symm
     ·simp at h
  subst key
  exact .of (fun h=>no1 h (by decide)) (fun h=>no1 h (by decide))
theorem lexF_nf:∀ (k:Nat) (r:List UInt8) (a c:Nat) (acc L:List Tok) (x:Nat),lexF k r a c acc=(L,x,0)->(∀ t∈acc,TokNf t)->∀ t∈L,TokNf t
 | 0,r,a,c,acc,L,x,h,hacc=>by simp [lexF] at h
 | k+1,r,a,c,acc,L,x,h,hacc=>by
   rw [lexF] at h
   split at h
   ·simp only [Prod.mk.injEq] at h
    obtain ⟨rfl,_⟩:=h
    intro t ht
    rcases List.mem_append.1 ht with ht|ht
    ·exact hacc t ht
    ·simp at ht;subst ht;exact .of (fun h=>no1 h (by decide)) (fun h=>no1 h (by decide))
   ·split at h
    ·simp at h
    ·exact lexF_nf k _ _ _ _ _ _ h hacc
    ·rename_i kd t n hst
     exact lexF_nf k _ _ _ _ _ _ h (fun u hu=>by
      rcases List.mem_append.1 hu with hu|hu
      ·exact hacc u hu
      ·simp at hu;subst hu;exact stepP_nf r hst a c)
theorem lex_nf {s:List UInt8} (h:(lexP s).2.2=0) (i:Nat):TokNf ((lexP s).1.getD i endT):=by
 have hall:∀ t∈(lexP s).1,TokNf t:=by
  unfold lexP at h ⊢
  split
  ·intro t ht;cases ht
  ·rename_i hl
   rw [if_neg hl] at h
   obtain ⟨R,hR⟩:∃ R,lexF (s.length+1) s 0 0 []=R:=⟨_,rfl⟩
   rw [hR] at h ⊢
   obtain ⟨L,x,e⟩:=R
   dsimp only at h ⊢
   subst h
   exact lexF_nf _ _ _ _ _ _ _ hR (by simp)
 rw [List.getD_eq_getElem?_getD]
 cases hi:(lexP s).1[i]? with
 | none=>exact .of (fun h=>no1 h (by decide)) (fun h=>no1 h (by decide))
 | some t=>exact hall t (List.mem_of_getElem? hi)
theorem numB_min {s:List UInt8} (h:numB s=true):s.head? ≠ some 45:=by
 intro e
 cases s with
 | nil=>cases e
 | cons c s=>
   injection e with e
   subst e
   unfold numB at h
   rw [cutDot,if_neg (by decide)] at h
   split at h
   ·rename_i w he
    injection he with h1 h2
    subst h1
    simp only [List.all_cons,Bool.and_eq_true] at h
    exact absurd h.2.1 (by decide)
   ·rename_i w p he
    injection he with h1 h2
    subst h1
    simp only [List.cons_append,List.all_cons,Bool.and_eq_true] at h
    exact absurd h.2.1 (by decide)
theorem parseD_pos {s:List UInt8} {v:Int} (hn:numB s=true) (h:parseD s=some v):0<=v:=by
 have hm:=numB_min hn
 unfold parseD at h
 dsimp only at h
 rw [if_neg hm,decide_eq_false hm] at h
 unfold parseQ at h
 split at h
 ·cases h
 ·obtain ⟨n,_,hn⟩:=Option.bind_eq_some_iff.1 h
  unfold madeP at hn
  split at hn
  ·injection hn with hn
   simp only [Bool.false_eq_true,if_false] at hn
   omega
  ·cases hn
/-! The parser's trees. -/
theorem insD_up {a b op:Int} {d:Nat} (h:a<=b):insD a op d<=insD b op d:=by
 unfold insD
 split<;>split<;>omega
theorem insD_le (a op:Int) (d:Nat):d<=insD a op d/\insD a op d<=d+1:=by
 unfold insD
 split<;>omega
theorem insD_top {a op:Int} {d:Nat} (h:a<=levelP op):insD a op d=d:=if_pos h
theorem sign_is {x:List UInt8} {l:Nat} (hl:l<5) (h:x∈levelsL.getD l []):levelP (10+idxP signL x)=l+1:=by
 have key:∀ l<5,∀ y∈levelsL.getD l [],levelP (10+idxP signL y)=l+1:=by decide
 exact key l hl x h
theorem op_mk (op n:Int) (s:List UInt8) (a b:Ref) (ks:List Nd):(Nd.mk op n s a b ks).op=op:=rfl
section
variable {T:List Tok}
def Okn (d:Int) (least:Int) (n:Nd):Prop:=Nf n/\n.op≠23/\d+insD least n.op n.nest<=40
structure NfF (T:List Tok) (f:Nat):Prop where
 betw:∀ (lvl:Nat) s r,betwP T f lvl s=some r->lvl<=5->Fit T s->r.2.err=0->Okn s.deep (lvl+1) r.1
 loop:∀ (lvl:Nat) n s r,loopP T f lvl n s=some r->lvl<5->Fit T s->r.2.err=0->Okn s.deep (lvl+1) n->Okn s.deep (lvl+1) r.1
 signed:∀ s r,signedP T f s=some r->Fit T s->r.2.err=0->Okn s.deep 6 r.1
 hundred:∀ s r,hundredP T f s=some r->Fit T s->r.2.err=0->Okn s.deep 7 r.1
 hloop:∀ n s r,hloopP T f n s=some r->Fit T s->r.2.err=0->Okn s.deep 7 n->Okn s.deep 7 r.1
 prim:∀ s r,primP T f s=some r->Fit T s->r.2.err=0->Okn s.deep 8 r.1
 name:∀ s r,nameP T f s=some r->Fit T s->(curT T s).kind=3->r.2.err=0->Okn s.deep 8 r.1
 args:∀ s r,argsP T f s=some r->Fit T s->r.2.err=0->(∀ x∈r.1,Nf x/\s.deep+x.nest<=40)/\∀ k,r.1 = [k]->k.op≠23
 aloop:∀ l s r,aloopP T f l s=some r->Fit T s->r.2.err=0->(∀ x∈l,Nf x/\s.deep+x.nest<=40)->(l = []->isOp T s [41]=false)->(∀ x∈r.1,Nf x/\s.deep+x.nest<=40)/\l.length<r.1.length/\∀ k,r.1 = [k]->k.op≠23
theorem Okn.leaf {d:Int} {n:Nd} (h:Nf n) (h2:levelP n.op=8) (h3:n.op≠23) (h0:n.nest=0) (hd:d<=40):Okn d 8 n:=⟨h,h3,by rw [insD_top (by omega),h0];omega⟩
theorem Okn.down {d a b:Int} {n:Nd} (h:Okn d b n) (hab:a<=b):Okn d a n:=⟨h.1,h.2.1,by have:=insD_up (op:=n.op) (d:=n.nest) hab;have:=h.2.2;omega⟩
theorem idx_sig {x:List UInt8} {l:Nat} (h:x∈levelsL.getD l []):∃ i:Nat,i<12/\idxP signL x=i:=by
 have:=sign_rng h
 exact ⟨(idxP signL x).toNat,by omega,by omega⟩
theorem nest_max (ks:List Nd) (m:Int) (h0:0<=m) (h:∀ x∈ks,(x.nest:Int)<=m):(((ks.map Nd.nest).foldr max 0:Nat):Int)<=m:=by
 induction ks with
 | nil=>simpa using h0
 | cons x ks ih=>
   have h1:=h x (by simp)
   have h2:=ih fun y hy=>h y (by simp [hy])
   rw [List.map_cons,List.foldr_cons]
   omega
theorem nfF (hT:Ends T) (hG:∀ i,(T.getD i endT).kind≠0->TokGd (T.getD i endT)) (hN:∀ i,TokNf (T.getD i endT)):∀ f,NfF T f
 | 0=>by
   constructor
   ·intro lvl s r h;simp only [betwP,reduceCtorEq] at h
   ·intro lvl n s r h;simp only [loopP,reduceCtorEq] at h
   ·intro s r h;simp only [signedP,reduceCtorEq] at h
   ·intro s r h;simp only [hundredP,reduceCtorEq] at h
   ·intro n s r h;simp only [hloopP,reduceCtorEq] at h
   ·intro s r h;simp only [primP,reduceCtorEq] at h
   ·intro s r h;simp only [nameP,reduceCtorEq] at h
   ·intro s r h;simp only [argsP,reduceCtorEq] at h
   ·intro l s r h;simp only [aloopP,reduceCtorEq] at h
 | f+1=>by
   have ih:=nfF hT hG hN f
   have W:=wentF hT f
   constructor
   ·intro lvl s r h hl hf h0
    rw [betwP] at h
    split at h
    ·rename_i h5;subst h5;exact ih.signed s r h hf h0
    ·split at h
     ·cases h
     ·rename_i h5 _ r1 h1
      have w1:=W.betw _ _ _ h1 hf
      have w2:=W.loop _ _ _ _ h w1.fit
      have g1:=ih.betw _ _ _ h1 (by omega) hf (w2.e0 h0)
      have g2:=ih.loop _ _ _ _ h (by omega) w1.fit h0 (by rw [w1.deep];exact g1.down (by omega))
      rw [w1.deep] at g2
      exact g2
   ·intro lvl n s r h hl hf h0 hn
    rw [loopP] at h
    split at h
    ·rename_i hk
     split at h
     ·cases h
     ·rename_i r1 h1
      have w0:=Went.next hT hf (sgn_kind hk)
      have w1:=W.betw _ _ _ h1 w0.fit
      have w2:=W.loop _ _ _ _ h w1.fit
      have g1:=ih.betw _ _ _ h1 (by omega) w0.fit (w2.e0 h0)
      have hs:(curT T s).text∈levelsL.getD lvl []:=by
       unfold sgn at hk
       simp only [Bool.and_eq_true,decide_eq_true_eq] at hk
       exact hk.2
      have hlv:=sign_is hl hs
      obtain ⟨i,hi,hix⟩:=idx_sig hs
      rw [hix] at h hlv
      have hd:r1.2.deep=s.deep:=by rw [w1.deep];rfl
      have hb:Okn s.deep (lvl+1) (.mk (10+(i:Int)) 0 [] .zero .zero [n,r1.1]):=by
       refine ⟨.bin hi hn.1 hn.2.1 g1.1 g1.2.1,by show 10+(i:Int)≠23;omega,?_⟩
       rw [nest_bin hi,op_mk,insD_top (show (lvl:Int)+1<=levelP (10+(i:Int)) by omega),hlv]
       have a1:=hn.2.2
       have a2:s.deep+insD ((lvl+1:Nat)+1) r1.1.op r1.1.nest<=40:=g1.2.2
       rw [show (((lvl+1:Nat):Int)+1)=(lvl:Int)+1+1 by omega] at a2
       omega
      have g2:=ih.loop _ _ _ _ h hl w1.fit h0 (by rw [hd];exact hb)
      rw [hd] at g2
      exact g2
    ·injection h with h;subst h;exact hn
   ·intro s r h hf h0
    rw [signedP] at h
    have one:∀ (op:Int) (r1:Nd×PSt),op=7\/op=8->isOp T s [if op=7 then 45 else 43]=true->signedP T f (stepP1 (enterP T s))=some r1->r1.2.err=0->Okn s.deep 6 (.mk op 0 [] .zero .zero [r1.1]):=by
     intro op r1 ho hk h1 he
     obtain ⟨e1,e2,e3⟩:=enter_fit hT hf (isOp_kind hk)
     have w1:=W.signed _ _ h1 e1
     have g1:=ih.signed _ _ h1 e1 he
     rw [e2] at g1
     refine ⟨.sign ho g1.1 g1.2.1,by show op≠23;omega,?_⟩
     rw [nest_sign ho,op_mk,insD_top (show (6:Int)<=levelP op by rcases ho with rfl|rfl<;>decide)]
     have:=g1.2.2
     omega
    split at h
    ·rename_i hk
     split at h
     ·cases h
     ·rename_i r1 h1
      injection h with h;subst h
      exact one 7 r1 (.inl rfl) hk h1 h0
    split at h
    ·rename_i hk
     split at h
     ·cases h
     ·rename_i r1 h1
      injection h with h;subst h
      exact one 8 r1 (.inr rfl) hk h1 h0
    ·exact (ih.hundred _ _ h hf h0).down (by decide)
   ·intro s r h hf h0
    rw [hundredP] at h
    split at h
    ·cases h
    ·rename_i r1 h1
     have w1:=W.prim _ _ h1 hf
     have w2:=W.hloop _ _ _ h w1.fit
     have g1:=ih.prim _ _ h1 hf (w2.e0 h0)
     have g2:=ih.hloop _ _ _ h w1.fit h0 (by rw [w1.deep];exact g1.down (by decide))
     rw [w1.deep] at g2
     exact g2
   ·intro n s r h hf h0 hn
    rw [hloopP] at h
    split at h
    ·rename_i hk
     have w0:=Went.next hT hf (isOp_kind hk)
     have g:=ih.hloop _ _ _ h w0.fit h0
     refine g ⟨.hund hn.1 hn.2.1,by show (9:Int)≠23;decide,?_⟩
     rw [nest_hund,op_mk,insD_top (show (7:Int)<=levelP 9 by decide)]
     exact hn.2.2
    ·injection h with h;subst h;exact hn
   ·intro s r h hf h0
    have hd:=hf.d2
    have hgd:(curT T s).kind≠0->TokGd (curT T s)/\TokNf (curT T s)/\s.deep<=40:=fun hk=>by
     have he:=cur_err hk
     rw [cur_at he] at hk ⊢
     exact ⟨hG _ hk,hN _,hd he⟩
    rw [primP] at h
    split at h
    ·rename_i hk
     obtain ⟨t1,t2,t3⟩:=hgd (by omega)
     split at h
     ·injection h with h;subst h;exact absurd h0 fun h=>fail_err (by decide) h
     ·rename_i v hv
      injection h with h;subst h
      have:=parseD_rng hv
      have:=parseD_pos (t1.num hk) hv
      exact Okn.leaf (.num (by omega) (by omega)) rfl (show (1:Int)≠23 by decide) rfl t3
    split at h
    ·rename_i hk
     obtain ⟨t1,t2,t3⟩:=hgd (by omega)
     injection h with h;subst h
     exact Okn.leaf (.text (t2.text hk) t1.len) rfl (show (2:Int)≠23 by decide) rfl t3
    split at h
    ·rename_i hk
     obtain ⟨t1,t2,t3⟩:=hgd (by omega)
     injection h with h;subst h
     have hr:=fault_rng (t1.err hk)
     obtain ⟨k,hk7,hke⟩:∃ k:Nat,k<7/\idxP errL (curT T s).text=k:=⟨(idxP errL (curT T s).text).toNat,by omega,by omega⟩
     rw [hke]
     exact Okn.leaf (.fail hk7) rfl (show (4:Int)≠23 by decide) rfl t3
    split at h
    ·rename_i hk
     obtain ⟨t1,t2,t3⟩:=hgd (by omega)
     injection h with h;subst h
     unfold areaP at h0 ⊢
     split at h0
     ·rename_i ho
      rw [if_pos ho]
      exact Okn.leaf (.cell (parseP_good _)) rfl (show (5:Int)≠23 by decide) rfl t3
     ·rename_i ho
      rw [if_neg ho]
      split at h0
      ·exact absurd h0 fun h=>fail_err (by decide) h
      ·rename_i hk2
       rw [if_neg hk2]
       exact Okn.leaf (.area (parseP_good _) (parseP_good _)) rfl (show (6:Int)≠23 by decide) rfl t3
    split at h
    ·rename_i hk
     exact ih.name _ _ h hf hk h0
    split at h
    ·rename_i hk
     split at h
     ·cases h
     ·rename_i r1 h1
      injection h with h;subst h
      obtain ⟨e1,e2,e3⟩:=enter_fit hT hf (isOp_kind hk)
      obtain ⟨m1,m2⟩:=must_i (T:=T) (s:=r1.2) (x := [41]) h0
      have g1:=ih.betw _ _ _ h1 (by omega) e1 m1
      rw [e2] at g1
      refine ⟨g1.1,g1.2.1,?_⟩
      have:=g1.2.2
      have:=(insD_le (((0:Nat):Int)+1) r1.1.op r1.1.nest).1
      have:=(insD_le 8 r1.1.op r1.1.nest).2
      dsimp only
      omega
    ·injection h with h;subst h;exact absurd h0 fun h=>fail_err (by decide) h
   ·intro s r h hf hk3 h0
    have he0:s.err=0:=cur_err (T:=T) (by omega)
    have hn:=hf.next hT (by omega)
    have hd:=hf.d2 he0
    have hnf:TokNf (curT T s):=by rw [cur_at he0];exact hN _
    have hgd:TokGd (curT T s):=by
     have hk:(curT T s).kind≠0:=by omega
     rw [cur_at he0] at hk ⊢
     exact hG _ hk
    rw [nameP] at h
    split at h
    ·rename_i hk
     split at h
     ·rename_i he
      injection h with h;subst h
      exact absurd h0 he
     ·rename_i he
      split at h
      ·cases h
      ·rename_i r1 h1
       injection h with h;subst h
       obtain ⟨g1,g2,g3,_⟩:=enter2 hT hf (by omega) (by simpa using he)
       have hl:=hT.more (s.i+1) hn.1.i (by omega)
       have g4:Fit T (enterP T s).next.next:=⟨by show (enterP T s).i+1+1<_;omega,g1.d0,g1.d1,g1.d2⟩
       obtain ⟨k1,k2⟩:=ih.args _ _ h1 g4 h0
       have hdd:(enterP T s).next.next.deep=s.deep+1:=by
        show (enterP T s).deep=_
        unfold enterP
        split
        ·unfold failP;split<;>rfl
        ·rfl
       rw [hdd] at k1
       have hen:s.deep+1<=40:=by
        rcases Int.lt_or_le 40 (s.deep+1) with h40|h40
        ·exfalso
         apply he
         unfold enterP
         rw [if_pos h40]
         unfold failP
         simp [he0]
        ·exact h40
       refine ⟨.call (hnf.name hk3) hgd.len (fun k hk'=>(k1 k hk').1) k2,by show (22:Int)≠23;decide,?_⟩
       rw [op_mk,insD_top (show (8:Int)<=levelP 22 by decide),nest_call]
       have:=nest_max r1.1 (40-(s.deep+1)) (by omega) (fun x hx=>by have:=(k1 x hx).2;omega)
       omega
    split at h
    ·injection h with h;subst h
     exact Okn.leaf (.truth (.inr rfl)) rfl (show (3:Int)≠23 by decide) rfl hd
    split at h
    ·injection h with h;subst h
     exact Okn.leaf (.truth (.inl rfl)) rfl (show (3:Int)≠23 by decide) rfl hd
    ·injection h with h;subst h;exact absurd h0 fun h=>fail_err (by decide) h
   ·intro s r h hf h0
    rw [argsP] at h
    split at h
    ·injection h with h;subst h
     exact ⟨fun x hx=>(by cases hx),fun k hk=>(by cases hk)⟩
    ·rename_i hk
     obtain ⟨k1,_,k3⟩:=ih.aloop _ _ _ h hf h0 (fun x hx=>(by cases hx)) (fun _=>by simpa using hk)
     exact ⟨k1,k3⟩
   ·intro l s r h hf h0 hl hb
    rw [aloopP] at h
    split at h
    ·rename_i he
     injection h with h;subst h;exact absurd h0 he
    ·rename_i he
     have hd:=hf.d2 (by simpa using he)
     split at h
     ·cases h
     ·rename_i r1 h1
      have w1:Went T s r1.2:=by
       split at h1
       ·injection h1 with h1;subst h1;exact Went.refl hf
       ·exact W.betw _ _ _ h1 hf
      have key:r1.2.err=0->(Nf r1.1/\s.deep+r1.1.nest<=40):=fun k0=>by
       split at h1
       ·injection h1 with h1;subst h1
        exact ⟨.miss,by show s.deep+((0:Nat):Int)<=40;omega⟩
       ·obtain ⟨k1,k2,k3⟩:=ih.betw _ _ _ h1 (by omega) hf k0
        have:=(insD_le (((0:Nat):Int)+1) r1.1.op r1.1.nest).1
        exact ⟨k1,by omega⟩
      have hmem:(Nf r1.1/\s.deep+r1.1.nest<=40)->∀ x∈l ++ [r1.1],Nf x/\s.deep+x.nest<=40:=fun k x hx=>by
       rcases List.mem_append.1 hx with hx|hx
       ·exact hl x hx
       ·simp at hx;subst hx;exact k
      split at h
      ·rename_i hk
       have w2:=Went.next hT w1.fit (isOp_kind hk)
       have w3:=W.aloop _ _ _ h w2.fit
       have k1:=key (w2.e0 (w3.e0 h0))
       have hdd:r1.2.next.deep=s.deep:=w1.deep
       obtain ⟨g1,g2,g3⟩:=ih.aloop _ _ _ h w2.fit h0 (by rw [hdd];exact hmem k1) (fun e=>by simp at e)
       rw [hdd] at g1
       rw [List.length_append,List.length_singleton] at g2
       refine ⟨g1,by omega,fun k hk'=>?_⟩
       rw [hk'] at g2
       simp at g2
      ·rename_i hk
       injection h with h;subst h
       obtain ⟨m1,m2⟩:=must_i (T:=T) (s:=r1.2) (x := [41]) h0
       have k1:=key m1
       refine ⟨hmem k1,by dsimp only;rw [List.length_append,List.length_singleton];omega,fun k hk'=>?_⟩
       dsimp only at hk'
       cases l with
       | cons y l=>
         have:=congrArg List.length hk'
         simp at this
       | nil=>
         simp only [List.nil_append,List.cons.injEq,and_true] at hk'
         subst hk'
         split at h1
         ·rename_i hor
          injection h1 with h1;subst h1
          exfalso
          rcases hor with hor|hor
          ·exact hk hor
          ·rw [hb rfl] at hor;cases hor
         ·exact (ih.betw _ _ _ h1 (by omega) hf m1).2.1
end
theorem parseR_nf {s:List UInt8} (h:(parseR s).2.2=0):Nf (parseR s).1/\(parseR s).1.op≠23/\(parseR s).1.nest<=40:=by
 unfold parseR parseT at h ⊢
 by_cases h1:(lexP s).2.2=0
 ·obtain ⟨hT,hL,hG⟩:=lex_toks h1
  obtain ⟨r,hr⟩:=betw_some h1
  have hr':=hr
  unfold st0 at hr
  rw [if_neg (by simp [h1]),hr] at h ⊢
  dsimp only at h ⊢
  obtain ⟨q,hq⟩:∃ q,(if (curT (lexP s).1 r.2).kind≠0 then failP (lexP s).1 r.2 10 else r.2)=q:=⟨_,rfl⟩
  rw [hq] at h ⊢
  by_cases he:q.err≠0
  ·rw [if_pos he] at h
   exact absurd h he
  ·rw [if_neg he]
   have h0:r.2.err=0:=by
    split at hq
    ·subst hq
     exact absurd (by simpa using he) fun h=>fail_err (T:=(lexP s).1) (s:=r.2) (e:=10) (by decide) h
    ·subst hq
     simpa using he
   obtain ⟨g1,g2,g3⟩:=(nfF hT.ends hG (lex_nf h1) _).betw _ _ _ hr' (by omega) (st0_fit hT.ends) h0
   have hd0:st0.deep=0:=rfl
   have:=(insD_le (((0:Nat):Int)+1) r.1.op r.1.nest).1
   exact ⟨g1,g2,by show r.1.nest<=40;omega⟩
 ·rw [if_pos (by simpa using h1)] at h
  exact absurd h h1
/-! Grown trees. -/
end Go.A
namespace Go.A
open Go.Proofs Go.Lib
theorem mov_in {e:Edt} (h:e.six) (k:e.kind=3) {i:Int} (i0:0<=i) (i1:i<e.most):0<=(e.place i).1/\(e.place i).1<e.most:=by
 have hm:=most_rng e
 obtain ⟨a0,n1,hk⟩:=h
 rcases place_mov k i with ⟨p1,p2,p3⟩|⟨p1,p3⟩
 ·rw [p3];dsimp only;omega
 ·rw [p3];dsimp only
  have h1:=ahead_eq e.at' (-e.n) i
  have h2:=ahead_eq e.dst e.n (ahead e.at' (-e.n) i)
  omega
theorem place_in {e:Edt} (h:e.six) {i:Int} (i0:0<=i) (i1:i<e.most) (hp:(e.place i).2=true):0<=(e.place i).1/\(e.place i).1<e.most:=by
 have hm:=most_rng e
 have hh:=h
 obtain ⟨a0,n1,hk⟩:=h
 rcases hk with ⟨k,_⟩|⟨k,_⟩|⟨k,_⟩
 ·rw [place_ins k] at hp ⊢
  have:=of_decide_eq_true hp
  have h1:=ahead_eq e.at' e.n i
  dsimp only
  omega
 ·by_cases hr:e.at'<=i/\i<e.at'+e.n
  ·rw [place_gone k hr] at hp;cases hp
  ·rw [place_del k hr]
   have h1:=ahead_eq e.at' (-e.n) i
   dsimp only
   omega
 ·exact mov_in hh k i0 i1
theorem span_in {e:Edt} (h:e.six) {f t:Int} (f0:0<=f) (ft:f<=t) (t1:t<e.most) (hp:(e.span f t).2.2=true) :
  0<=(e.span f t).1/\(e.span f t).1<e.most/\0<=(e.span f t).2.1/\(e.span f t).2.1<e.most:=by
 have hm:=most_rng e
 have hh:=h
 obtain ⟨a0,n1,hk⟩:=h
 unfold Edt.span at hp ⊢
 rcases hk with ⟨k,_⟩|⟨k,_⟩|⟨k,_⟩
 ·rw [if_pos k] at hp ⊢
  by_cases h1:(e.place f).2=true
  ·rw [if_pos h1]
   have r1:=place_in hh f0 (by omega) h1
   dsimp only
   by_cases h2:(e.place t).2=true
   ·rw [if_pos h2]
    have r2:=place_in hh (by omega) t1 h2
    omega
   ·rw [if_neg h2];omega
  ·rw [if_neg h1] at hp;cases hp
 ·rw [if_neg (by omega),if_pos k] at hp ⊢
  by_cases hd:e.at'<=f/\t<e.at'+e.n
  ·rw [if_pos hd] at hp;cases hp
  ·rw [if_neg hd]
   have key:∀ i,0<=i->i<e.most->¬ (e.at'<=i/\i<e.at'+e.n)->0<=(e.place i).1/\(e.place i).1<e.most:=fun i i0 i1 hi=>by
    rw [place_del k hi]
    have h1:=ahead_eq e.at' (-e.n) i
    dsimp only
    omega
   dsimp only
   by_cases c1:e.at'<=f/\f<e.at'+e.n
   ·rw [if_pos c1]
    have r1:=key (e.at'+e.n) (by omega) (by omega) (by omega)
    rw [if_neg (c:=e.at'<=t/\t<e.at'+e.n) (by omega)]
    have r2:=key t (by omega) (by omega) (by omega)
    omega
   ·rw [if_neg c1]
    have r1:=key f (by omega) (by omega) c1
    by_cases c2:e.at'<=t/\t<e.at'+e.n
    ·rw [if_pos c2]
     have r2:=key (e.at'-1) (by omega) (by omega) (by omega)
     omega
    ·rw [if_neg c2]
     have r2:=key t (by omega) (by omega) c2
     omega
 ·rw [if_neg (by omega),if_neg (by omega)]
  have r1:=mov_in hh k f0 (by omega)
  have r2:=mov_in hh k (i:=t) (by omega) t1
  dsimp only
  omega
theorem of_in {e:Edt} {a:Ref} (h:a.good=true):0<=e.of a/\e.of a<e.most:=by
 simp only [Ref.good,decide_eq_true_eq] at h
 unfold Edt.of Edt.most
 split<;>omega
theorem cell_is (e:Edt) (a b:Ref):e.node (.mk 5 0 [] a b [])=goneN/\¬ (e.place (e.of a)).2=true\/(e.place (e.of a)).2=true/\e.node (.mk 5 0 [] a b []) = .mk 5 0 [] (e.set a (e.place (e.of a)).1) b []:=by
 have h:e.node (.mk 5 0 [] a b [])=if (e.place (e.of a)).2=true then .mk 5 0 [] (e.set a (e.place (e.of a)).1) b [] else goneN:=rfl
 rw [h]
 by_cases q:(e.place (e.of a)).2=true
 ·exact .inr ⟨q,if_pos q⟩
 ·exact .inl ⟨if_neg q,q⟩
def Edt.ends (e:Edt) (x y:Int):Int×Int:=if y<x then ((e.span (min x y) (max x y)).2.1,(e.span (min x y) (max x y)).1) else ((e.span (min x y) (max x y)).1,(e.span (min x y) (max x y)).2.1)
def Edt.left (e:Edt) (x y:Int):Prop:=(e.span (min x y) (max x y)).2.2=true
theorem area_is (e:Edt) (a b:Ref):e.node (.mk 6 0 [] a b [])=goneN/\¬ e.left (e.of a) (e.of b)\/e.left (e.of a) (e.of b)/\e.node (.mk 6 0 [] a b []) = .mk 6 0 [] (e.set a (e.ends (e.of a) (e.of b)).1) (e.set b (e.ends (e.of a) (e.of b)).2) []:=by
 have h:e.node (.mk 6 0 [] a b [])=e.area (.mk 6 0 [] a b []):=rfl
 rw [h,Edt.area]
 unfold Edt.left Edt.ends
 by_cases q:(e.span (min (e.of a) (e.of b)) (max (e.of a) (e.of b))).2.2=true
 ·right
  refine ⟨q,?_⟩
  rw [if_pos q]
  split<;>rfl
 ·exact .inl ⟨if_neg q,q⟩
theorem ends_in {e:Edt} (h:e.six) {a b:Ref} (ha:a.good=true) (hb:b.good=true) (hl:e.left (e.of a) (e.of b)) :
  (e.set a (e.ends (e.of a) (e.of b)).1).good=true/\(e.set b (e.ends (e.of a) (e.of b)).2).good=true:=by
 have h1:=of_in (e:=e) ha
 have h2:=of_in (e:=e) hb
 have hs:=span_in h (f:=min (e.of a) (e.of b)) (t:=max (e.of a) (e.of b)) (by omega) (by omega) (by omega) hl
 unfold Edt.ends
 split
 ·exact ⟨set_good ha hs.2.2.1 hs.2.2.2,set_good hb hs.1 hs.2.1⟩
 ·exact ⟨set_good ha hs.1 hs.2.1,set_good hb hs.2.2.1 hs.2.2.2⟩
theorem gone_nf:Nf goneN:=Nf.fail (k:=3) (by decide)
theorem tree_nf {e:Edt} (h:e.six) {n:Nd} (hn:Nf n):Nf (e.tree n)/\(n.op≠23->(e.tree n).op≠23)/\levelP (e.tree n).op=levelP n.op/\(e.tree n).nest=n.nest/\(e.tree n).size=n.size:=by
 have one:∀ (op:Int) (m:Int) (s:List UInt8) (a b:Ref) (ks:List Nd),¬ (op=5\/op=6)->e.tree (.mk op m s a b ks) = .mk op m s a b (ks.map e.tree):=fun op m s a b ks ho=>by
  show Nd.map e.node _=_
  rw [Nd.map,if_neg ho,Nd.maps_map]
  rfl
 have hk:∀ (ks:List Nd),(∀ x∈ks,(e.tree x).size=x.size)->Nd.sizes (ks.map e.tree)=Nd.sizes ks:=by
  intro ks
  induction ks with
  | nil=>intro _;rfl
  | cons x l ih=>
    intro hx
    rw [List.map_cons,Nd.sizes,Nd.sizes,hx x (by simp),ih fun y hy=>hx y (by simp [hy])]
 have hi:∀ (least:Int) (x y:Nd),levelP x.op=levelP y.op->x.nest=y.nest->insD least x.op x.nest=insD least y.op y.nest:=fun least x y h1 h2=>by
  unfold insD
  rw [h1,h2]
 induction hn with
 | num h0 h1=>rw [one _ _ _ _ _ _ (by decide)];exact ⟨.num h0 h1,fun h=>h,rfl,rfl,rfl⟩
 | text h0 h1=>rw [one _ _ _ _ _ _ (by decide)];exact ⟨.text h0 h1,fun h=>h,rfl,rfl,rfl⟩
 | truth h0=>rw [one _ _ _ _ _ _ (by decide)];exact ⟨.truth h0,fun h=>h,rfl,rfl,rfl⟩
 | fail h0=>rw [one _ _ _ _ _ _ (by decide)];exact ⟨.fail h0,fun h=>h,rfl,rfl,rfl⟩
 | @cell r hr=>
   have ht:e.tree (.mk 5 0 [] r .zero [])=e.node (.mk 5 0 [] r .zero []):=by
    show Nd.map e.node _=_
    rw [Nd.map,if_pos (.inl rfl)]
   rw [ht]
   rcases cell_is e r .zero with ⟨h1,_⟩|⟨h1,h2⟩
   ·rw [h1];exact ⟨gone_nf,fun _=>by decide,(by decide:levelP 4=levelP 5),rfl,rfl⟩
   ·rw [h2]
    have hp:=of_in (e:=e) hr
    have hq:=place_in h hp.1 hp.2 h1
    exact ⟨.cell (set_good hr hq.1 hq.2),fun h=>h,rfl,rfl,rfl⟩
 | @area r q hr hq=>
   have ht:e.tree (.mk 6 0 [] r q [])=e.node (.mk 6 0 [] r q []):=by
    show Nd.map e.node _=_
    rw [Nd.map,if_pos (.inr rfl)]
   rw [ht]
   rcases area_is e r q with ⟨h1,_⟩|⟨h1,h2⟩
   ·rw [h1];exact ⟨gone_nf,fun _=>by decide,(by decide:levelP 4=levelP 6),rfl,rfl⟩
   ·rw [h2]
    have hp:=ends_in h hr hq h1
    exact ⟨.area hp.1 hp.2,fun h=>h,rfl,rfl,rfl⟩
 | @sign op x ho hx hne ih=>
   rw [one _ _ _ _ _ _ (by omega)]
   refine ⟨.sign ho ih.1 (ih.2.1 hne),fun h=>h,rfl,?_,?_⟩
   ·rw [List.map_cons,List.map_nil,nest_sign ho,nest_sign ho,hi 6 _ _ ih.2.2.1 ih.2.2.2.1]
   ·rw [Nd.size,Nd.size,hk _ fun y hy=>by rw [List.mem_singleton.1 hy];exact ih.2.2.2.2]
 | @hund x hx hne ih=>
   rw [one _ _ _ _ _ _ (by decide)]
   refine ⟨.hund ih.1 (ih.2.1 hne),fun h=>h,rfl,?_,?_⟩
   ·rw [List.map_cons,List.map_nil,nest_hund,nest_hund,hi 7 _ _ ih.2.2.1 ih.2.2.2.1]
   ·rw [Nd.size,Nd.size,hk _ fun y hy=>by rw [List.mem_singleton.1 hy];exact ih.2.2.2.2]
 | @bin i x y hi' hx hnx hy hny ihx ihy=>
   rw [one _ _ _ _ _ _ (by omega)]
   refine ⟨.bin hi' ihx.1 (ihx.2.1 hnx) ihy.1 (ihy.2.1 hny),fun h=>h,rfl,?_,?_⟩
   ·rw [List.map_cons,List.map_cons,List.map_nil,nest_bin hi',nest_bin hi',hi _ _ _ ihx.2.2.1 ihx.2.2.2.1,hi _ _ _ ihy.2.2.1 ihy.2.2.2.1]
   ·rw [Nd.size,Nd.size,hk _ fun z hz=>by
     simp only [List.mem_cons,List.not_mem_nil,or_false] at hz
     rcases hz with rfl|rfl
     ·exact ihx.2.2.2.2
     ·exact ihy.2.2.2.2]
 | @call s ks hs hl hkk hm ih=>
   rw [one _ _ _ _ _ _ (by decide)]
   refine ⟨.call hs hl (fun k hk=>?_) (fun k hk=>?_),fun h=>h,rfl,?_,?_⟩
   ·obtain ⟨x,hx,rfl⟩:=List.mem_map.1 hk
    exact (ih x hx).1
   ·match ks,hk with
    | [x],hk=>
      injection hk with hk
      rw [<-hk]
      exact (ih x (by simp)).2.1 (hm x rfl)
   ·rw [nest_call,nest_call,List.map_map]
    have:ks.map (Nd.nest ∘ e.tree)=ks.map Nd.nest:=List.map_congr_left fun x hx=>(ih x hx).2.2.2.1
    rw [this]
   ·rw [Nd.size,Nd.size,hk _ fun y hy=>(ih y hy).2.2.2.2]
 | miss=>rw [one _ _ _ _ _ _ (by decide)];exact ⟨.miss,fun h=>h,rfl,rfl,rfl⟩
theorem tree_gd {e:Edt} (h:e.six) {n:Nd} (hg:n.gd):(e.tree n).gd:=by
 refine map_gd hg (Nd.allR_mono (fun x ho hx=>?_) (gd_refs hg))
 obtain ⟨op,m,s,a,b,ks⟩:=x
 change op=5\/op=6 at ho
 have hk:ks = []:=by
  have:=hx.2
  rw [Nd.nk] at this
  exact this.1 ho
 subst hk
 obtain ⟨g1,g2⟩:=ok_refs hx.1
 have hok:=hx.1
 rw [Nd.ok] at hok
 obtain ⟨⟨e1,e2,e3,e4,e5,e6,e7,e8,e9,e10⟩,_⟩:=hok
 have oa:=of_in (e:=e) (g1 ho)
 by_cases h5:op=5
 ·subst h5
  have hn:e.node (.mk 5 m s a b [])=e.cell (.mk 5 m s a b []):=rfl
  rw [hn,Edt.cell]
  by_cases hp:(e.place (e.of a)).2=true
  ·rw [if_pos hp]
   have r:=place_in h oa.1 oa.2 hp
   have gs:=set_good (e:=e) (g1 ho) r.1 r.2
   exact leaf_gd ⟨e1,e2,e3,e4,e5,fun _=>gs,e7,e8,e9,e10⟩
  ·rw [if_neg hp]
   exact gone_gd
 ·obtain rfl:op=6:=ho.resolve_left h5
  have ob:=of_in (e:=e) (g2 rfl)
  have hn:e.node (.mk 6 m s a b [])=e.area (.mk 6 m s a b []):=rfl
  rw [hn,Edt.area]
  have q0:0<=min (e.of a) (e.of b):=by clear e4 e9 e8;omega
  have q1:min (e.of a) (e.of b)<=max (e.of a) (e.of b):=by clear e4 e9 e8;omega
  have q2:max (e.of a) (e.of b)<e.most:=by clear e4 e9 e8;omega
  have hr:=span_in h q0 q1 q2
  generalize e.span (min (e.of a) (e.of b)) (max (e.of a) (e.of b))=w at *
  by_cases hp:w.2.2=true
  ·rw [if_pos hp]
   obtain ⟨r1,r2,r3,r4⟩:=hr hp
   split
   ·exact leaf_gd ⟨e1,e2,e3,e4,e5,fun _=>set_good (g1 ho) r3 r4,fun _=>set_good (g2 rfl) r1 r2,e8,e9,e10⟩
   ·exact leaf_gd ⟨e1,e2,e3,e4,e5,fun _=>set_good (g1 ho) r1 r2,fun _=>set_good (g2 rfl) r3 r4,e8,e9,e10⟩
  ·rw [if_neg hp]
   exact gone_gd
theorem spelled_law {e:Edt} (h:e.six) {n:Nd} (hn:Nf n) (h2:n.op≠23) (h3:n.nest<=40):parseR (e.tree n).spell=(e.tree n,0,0)\/(parseR (e.tree n).spell).2.2=11:=by
 obtain ⟨g1,g2,g3,g4,g5⟩:=tree_nf h hn
 rcases Nat.lt_or_ge 2000 (e.tree n).spell.length with hl|hl
 ·exact .inr (parse_big hl)
 ·rcases parse_print g1 (g2 h2) hl with ⟨h,_⟩|⟨_,h⟩
  ·exact .inl h
  ·omega
end Go.A
namespace Go.A
open Go.Proofs
/-! 25: (*tabular/vint.Writer).Bytes -/
def c25_3:ACode := .seq (.ops [ oq 2 (.mv (.v (.str [])))]) (.seq (.ops [ oq 3 (.mv (.t 0)),oq 4 (.nc (.t 3)),oq 5 (.fa 0 (.t 4)),oq 6 (.ld none (.t 5)),oq 7 (.b2s (.t 6)),oq 2 (.mv (.t 7))]) .ret)
@[go_sem] def c25_3_wp:=wp_of c25_3.eq_1
def c25:AFn:=⟨8,[.t 2],c25_3⟩
theorem c25_ok:compF Tryz.prog Tryz.f25=some c25:=by kernel_rfl
theorem a25 {args:List AV} {σ:ASt} {R:AV->ASt->Prop} (hl:args.length<=8) (h:c25_3.wp Tryz.prog (RetQ [.t 2] R) (init args) σ):ACalls Tryz.prog 25 args σ R:=acalls_of Tryz.func25 c25_ok hl h
/-! 50: (*tabular/vint.Writer).Uint -/
def c50_7:ACode := .seq (.seq (.ops [ oq 4 (.mv (.t 1)),oq 5 (.bin .gtr (.t 4) (.v (.int .u64 127)))]) (.cond (.t 5) .skip (.exit 0))) (.seq (.block 1 (.ops [ oq 8 (.mv (.t 0)),oq 9 (.mv (.t 0)),oq 10 (.nc (.t 9)),oq 11 (.fa 0 (.t 10)),oq 12 (.ld none (.t 11)),oq 13 (.mv (.t 1)),oq 14 (.conv .u8 (.t 13)),oq 15 (.bin .or (.t 14) (.v (.int .u8 128))),oq 16 (.bsl 1 [(.t 15)]),oe 17 (.app 5 1 1 [(.int .u8 0)] (.t 12) (.t 16)),oq 18 (.nc (.t 8)),oq 19 (.fa 0 (.t 18)),oz (.store 1 (.t 19) (.t 17))])) (.ops [ oq 6 (.mv (.t 1)),oq 7 (.bin .shr (.t 6) (.v (.int .u64 7))),oq 1 (.mv (.t 7))]))
def c50_11:ACode := .seq (.block 0 (.loop c50_7)) (.ops [ oq 20 (.mv (.t 0)),oq 21 (.mv (.t 0)),oq 22 (.nc (.t 21)),oq 23 (.fa 0 (.t 22)),oq 24 (.ld none (.t 23)),oq 25 (.mv (.t 1)),oq 26 (.conv .u8 (.t 25)),oq 27 (.bsl 1 [(.t 26)]),oe 28 (.app 5 1 1 [(.int .u8 0)] (.t 24) (.t 27)),oq 29 (.nc (.t 20)),oq 30 (.fa 0 (.t 29)),oz (.store 1 (.t 30) (.t 28))])
@[go_sem] def c50_7_wp:=wp_of c50_7.eq_1
@[go_sem] def c50_11_wp:=wp_of c50_11.eq_1
def c50:AFn:=⟨31,[],c50_11⟩
theorem c50_ok:compF Tryz.prog Tryz.f50=some c50:=by kernel_rfl
theorem a50 {args:List AV} {σ:ASt} {R:AV->ASt->Prop} (hl:args.length<=31) (h:c50_11.wp Tryz.prog (RetQ [] R) (init args) σ):ACalls Tryz.prog 50 args σ R:=acalls_of Tryz.func50 c50_ok hl h
/-! 51: (*tabular/vint.Writer).Int -/
def c51_0:ACode := .ops [ oq 4 (.mv (.t 0)),oq 5 (.mv (.t 1)),oq 6 (.conv .u64 (.t 5)),oq 7 (.bin .shl (.t 6) (.v (.int .u64 1))),oq 8 (.mv (.t 1)),oq 9 (.bin .shr (.t 8) (.v (.int .u64 63))),oq 10 (.conv .u64 (.t 9)),oq 11 (.bin .xor (.t 7) (.t 10)),oe 12 (.call 50 [(.t 4),(.t 11)])]
@[go_sem] def c51_0_wp:=wp_of c51_0.eq_1
def c51:AFn:=⟨13,[],c51_0⟩
theorem c51_ok:compF Tryz.prog Tryz.f51=some c51:=by kernel_rfl
theorem a51 {args:List AV} {σ:ASt} {R:AV->ASt->Prop} (hl:args.length<=13) (h:c51_0.wp Tryz.prog (RetQ [] R) (init args) σ):ACalls Tryz.prog 51 args σ R:=acalls_of Tryz.func51 c51_ok hl h
/-! 52: (*tabular/vint.Writer).Text -/
def c52_2:ACode := .seq (.ops [ oq 4 (.mv (.t 0)),oq 5 (.mv (.t 1)),oq 6 (.lenS (.t 5)),oq 7 (.conv .u64 (.t 6)),oe 8 (.call 50 [(.t 4),(.t 7)])]) (.ops [ oq 9 (.mv (.t 0)),oq 10 (.mv (.t 0)),oq 11 (.nc (.t 10)),oq 12 (.fa 0 (.t 11)),oq 13 (.ld none (.t 12)),oq 14 (.mv (.t 1)),oe 15 (.apps 5 (.t 13) (.t 14)),oq 16 (.nc (.t 9)),oq 17 (.fa 0 (.t 16)),oz (.store 1 (.t 17) (.t 15))])
@[go_sem] def c52_2_wp:=wp_of c52_2.eq_1
def c52:AFn:=⟨18,[],c52_2⟩
theorem c52_ok:compF Tryz.prog Tryz.f52=some c52:=by kernel_rfl
theorem a52 {args:List AV} {σ:ASt} {R:AV->ASt->Prop} (hl:args.length<=18) (h:c52_2.wp Tryz.prog (RetQ [] R) (init args) σ):ACalls Tryz.prog 52 args σ R:=acalls_of Tryz.func52 c52_ok hl h
end Go.A
namespace Go.A
open Go.Proofs Go.Vint
def W (σ0:ASt) (b:Nat) (l:List UInt8) (σ:ASt):Prop:=∃ k,Grown (σ0.set b (some (.obj [.sl k (bytesAV l)]))) σ k (bytesAV l).length 1
theorem W.cell {σ0 σ:ASt} {b:Nat} {l:List UInt8} {k:SK} (h:Grown (σ0.set b (some (.obj [.sl k (bytesAV l)]))) σ k (bytesAV l).length 1):σ b=some (.obj [.sl k (bytesAV l)]):=h.at (ASt.set_same _ _ _)
theorem vb_app (l m:List UInt8):bytesAV l++bytesAV m=bytesAV (l++m):=by simp [bytesAV]
theorem bytesAV_one {n:Int} (h0:0<=n) (h1:n<256) : [AV.int .u8 n]=bytesAV [u8Of n]:=by
 have:=u8_nat (n:=n.toNat) (by omega)
 simp only [bytesAV,u8Of,List.map_cons,List.map_nil,this]
 rw [Int.toNat_of_nonneg h0]
theorem W.app {σ0 σ:ASt} {b:Nat} {l m:List UInt8} {k k':SK} (h:Grown (σ0.set b (some (.obj [.sl k (bytesAV l)]))) σ k' (bytesAV l++bytesAV m).length 1) :
  W σ0 b (l++m) (σ.set b (some (.obj [.sl k' (bytesAV l++bytesAV m)]))):=by
 rw [vb_app] at h ⊢
 exact ⟨k',h.obj⟩
theorem or128 (u:Int):((BitVec.ofInt 8 (u % 256) ||| BitVec.ofInt 8 128).toNat:Int)=128+u % 128:=by
 have h:IntKind.wrap .u8 ((BitVec.ofInt 8 (u % 256) ||| BitVec.ofInt 8 128).toNat:Int)=128+u % 128:=or_128 u
 rwa [IntKind.wrap_u8,Int.emod_eq_of_lt (by omega) (by omega)] at h
theorem fold64 {n:Int} (h1 : -9223372036854775808<=n) (h2:n<=9223372036854775807) :
  ((BitVec.ofInt 64 (IntKind.wrap .u64 (IntKind.wrap .u64 n*2)) ^^^ BitVec.ofInt 64 (IntKind.wrap .u64 (n / 9223372036854775808))).toNat:Int)=foldI n:=by
 have h:IntKind.wrap .u64 ((BitVec.ofInt 64 (IntKind.wrap .u64 (IntKind.wrap .u64 n*2)) ^^^ BitVec.ofInt 64 (IntKind.wrap .u64 (n / 9223372036854775808))).toNat:Int)=foldI n:=fold_bits n h1 h2
 rwa [IntKind.wrap_u64,Int.emod_eq_of_lt (by omega) (by omega)] at h
theorem vappB {T:TypeId} {σ σ0:ASt} {k k2:SK} {xs z:List AV} {n m:Int} {K:AV->ASt->Prop} (h:Grown σ0 σ k xs.length 1) (hn:n=m) (h0:0<=m) (h1:m<256) (hl:xs.length<4611686018427)
  (hK:∀ k' σ',Grown σ0 σ' k' (xs++bytesAV [u8Of m]).length 1->K (.sl k' (xs++bytesAV [u8Of m])) σ'):appC T 1 1 z (.sl k xs) (.sl k2 [.int .u8 n]) σ K:=by
 subst hn
 rw [bytesAV_one h0 h1]
 exact appC_by h rfl rfl (by simp [bytesAV];omega) (by simp [bytesAV];omega) hK
theorem wrap8 (u:Int):IntKind.wrap .u8 u=u % 256:=IntKind.wrap_u8 u
theorem wuint_ok (σ0:ASt) (b:Nat) (u:Int) (l:List UInt8) (σ:ASt) (hW:W σ0 b l σ) (h0:0<=u) (h1:u<=18446744073709551615) (hl:l.length+(uintB u.toNat).length<=1000000) :
  ACalls Tryz.prog 50 [.ptr b 0,.int .u64 u] σ fun v σ'=>v = .tuple []/\W σ0 b (l++uintB u.toNat) σ':=by
 obtain ⟨q,hq⟩:∃ q,l++uintB u.toNat=q:=⟨_,rfl⟩
 have hql:q.length<=1000000:=by rw [<-hq];simpa using hl
 rw [hq]
 refine a50 (by simp) ?_
 simp (disch:=first|assumption|omega) only [go_sem]
 refine wp_loop_on (fun (i:Int×List UInt8) a σ'=>(0<=i.1/\i.1<=18446744073709551615/\i.2++uintB i.1.toNat=q)/\(a 0 = .ptr b 0/\a 1 = .int .u64 i.1)/\W σ0 b i.2 σ') (fun i=>i.1.toNat) (u,l) ⟨⟨h0,h1,hq⟩,?_,hW⟩ ?_
 ·simp (disch:=first|assumption|omega) only [go_sem]
 rintro ⟨u,l⟩ a σ ⟨⟨h0,h1,hq⟩,hf,k,hg⟩
 dsimp only at h0 h1 hq hf hg
 have hb:=W.cell hg
 have hll:l.length<=1000000:=by rw [<-hq] at hql;simp at hql;omega
 have hll':(bytesAV l).length<=1000000:=by simpa [bytesAV] using hll
 by_cases hu:127<u
 ·have hw:=wrap8 u
  simp (disch:=first|assumption|omega) only [go_sem,reduceCtorEq,Nat.reduceEqDiff,↓reduceIte,Bool.true_and,hf,hb,hu,hw]
  refine vappB hg (or128 u) (by omega) (by omega) (by omega) fun k' σ' hg'=>?_
  have hb':=(hg'.at (ASt.set_same _ _ _))
  simp (disch:=first|assumption|omega) only [go_sem,reduceCtorEq,Nat.reduceEqDiff,Nat.reduceLeDiff,↓reduceIte,Int.reduceToNat,Int.reducePow,Bool.true_and,hf,hb']
  refine ⟨(u / 128,l ++ [u8Of (128+u % 128)]),by dsimp only;omega,⟨by dsimp only;omega,by dsimp only;omega,?_⟩,?_,W.app hg'⟩
  ·dsimp only
   rw [<-hq,uintB_j (u:=u) (by omega)]
   simp
  ·simp (disch:=first|assumption|omega) only [go_sem]
 ·have hw:=wrap8 u
  have hw2:u % 256=u:=by omega
  rw [hw2] at hw
  have hu':=uintB_i h0 (by omega)
  rw [hu'] at hq
  subst hq
  simp (disch:=first|assumption|omega) only [go_sem,reduceCtorEq,Nat.reduceEqDiff,↓reduceIte,Bool.true_and,hf,hb,hu,hw]
  refine vappB hg rfl (by omega) (by omega) (by omega) fun k' σ' hg'=>?_
  have hb':=(hg'.at (ASt.set_same _ _ _))
  simp (disch:=first|assumption|omega) only [go_sem,Nat.reduceEqDiff,Nat.reduceLeDiff,↓reduceIte,Bool.true_and,hb']
  exact retC_by (Drop.refl _) (.refl _) ⟨rfl,W.app hg'⟩
theorem wint_ok (σ0:ASt) (b:Nat) (n:Int) (l:List UInt8) (σ:ASt) (hW:W σ0 b l σ) (h1 : -9223372036854775808<=n) (h2:n<=9223372036854775807) (hl:l.length+10<=1000000) :
  ACalls Tryz.prog 51 [.ptr b 0,.int .i64 n] σ fun v σ'=>v = .tuple []/\W σ0 b (l++uintB (foldI n).toNat) σ':=by
 refine a51 (by simp) ?_
 obtain ⟨f0,f1⟩:=foldI_bd h1 h2
 simp (disch:=first|assumption|omega) only [go_sem,Nat.reduceEqDiff,↓reduceIte,Int.reduceToNat,Int.reducePow]
 refine ACalls.of_eq (congrArg (fun x => [AV.ptr b 0,AV.int .u64 x]) (fold64 h1 h2)) ?_
 refine (wuint_ok σ0 b (foldI n) l σ hW f0 f1 (by have:=uintB_le f1;omega)).mono ?_
 rintro v σ' ⟨rfl,h⟩
 simp (disch:=first|assumption|omega) only [go_sem]
 exact retC_by (Drop.refl _) (.refl _) ⟨rfl,h⟩
theorem wtext_ok (σ0:ASt) (b:Nat) (s l:List UInt8) (σ:ASt) (hW:W σ0 b l σ) (hl:l.length+10+s.length<=1000000) :
  ACalls Tryz.prog 52 [.ptr b 0,.str s] σ fun v σ'=>v = .tuple []/\W σ0 b (l++textB s) σ':=by
 refine a52 (by simp) ?_
 simp (disch:=first|assumption|omega) only [go_sem,Nat.reduceEqDiff,↓reduceIte]
 have hu:=uintB_le (u:=s.length) (by omega)
 rw [Int.toNat_natCast] at hu
 refine (wuint_ok σ0 b s.length l σ hW (by omega) (by omega) (by rw [Int.toNat_natCast];omega)).mono ?_
 rintro v σ' ⟨rfl,k,hg⟩
 rw [Int.toNat_natCast] at hg
 have hb:=W.cell hg
 simp (disch:=first|assumption|omega) only [go_sem,reduceCtorEq,Nat.reduceEqDiff,↓reduceIte,hb]
 have hlen:(bytesAV (l++uintB s.length)).length+s.length<=140737488355328:=by simp [bytesAV];omega
 refine appsC_by hg hlen fun k' σ' hg'=>?_
 have hb':=(hg'.at (ASt.set_same _ _ _))
 simp (disch:=first|assumption|omega) only [go_sem,Nat.reduceEqDiff,Nat.reduceLeDiff,↓reduceIte,Bool.true_and,hb']
 refine retC_by (Drop.refl _) (.refl _) ⟨rfl,?_⟩
 have:l++textB s=(l++uintB s.length)++s:=by simp [textB]
 rw [this]
 refine W.app (k:=k) ?_
 rw [List.length_append,bytesAV_length (l:=s)]
 exact hg'
theorem wbytes_ok (σ0:ASt) (b:Nat) (l:List UInt8) (σ:ASt) (hW:W σ0 b l σ):ACalls Tryz.prog 25 [.ptr b 0] σ fun v σ'=>v = .str l/\σ'=σ:=by
 obtain ⟨k,hg⟩:=hW
 have hb:=W.cell hg
 refine a25 (by simp) ?_
 simp (disch:=first|assumption|omega) only [go_sem,reduceCtorEq,↓reduceIte,hb]
 exact retC_by (Drop.refl _) (.refl _) ⟨rfl,rfl⟩
theorem W.add {σ0 σ:ASt} {b c:Nat} {l:List UInt8} {r:Role} (h:W σ0 b l σ) (hc:σ c=none):W (σ0.set c (some r)) b l (σ.set c (some r))/\c≠b/\σ0 c=none:=by
 obtain ⟨k,hg⟩:=h
 have hb:=W.cell hg
 have hcb:c≠b:=by rintro rfl;rw [hb] at hc;cases hc
 have h0:σ0 c=none:=by
  rcases hg with ⟨_,_,rfl⟩|⟨t,T,_,_,rfl⟩
  ·rwa [ASt.set_ne hcb] at hc
  ·obtain ⟨_,_,hc⟩:=set_none hc
   rwa [ASt.set_ne hcb] at hc
 refine ⟨⟨k,?_⟩,hcb,h0⟩
 rcases hg with ⟨h1,h2,rfl⟩|⟨t,T,h1,h2,rfl⟩
 ·exact .inl ⟨h1,h2,set_swap (Ne.symm hcb)⟩
 ·obtain ⟨h3,h4,_⟩:=set_none hc
  obtain ⟨h5,h6,h7⟩:=set_none h2
  refine .inr ⟨t,T,h1,?_,?_⟩
  ·rw [ASt.set_ne h5,ASt.set_ne (Ne.symm h3)];exact h7
  ·rw [set_swap h4,set_swap (Ne.symm hcb)]
theorem W.off {σ0 σ:ASt} {b c:Nat} {l:List UInt8} {r:Role} (h:W (σ0.set c (some r)) b l σ) (hcb:c≠b) (hc:σ0 c=none):∃ σ',Drop σ σ'/\W σ0 b l σ'/\σ=σ'.set c (some r):=by
 obtain ⟨k,hg⟩:=h
 rcases hg with ⟨h1,h2,rfl⟩|⟨t,T,h1,h2,rfl⟩
 ·refine ⟨σ0.set b (some (.obj [.sl k (bytesAV l)])),?_,⟨k,.inl ⟨h1,h2,rfl⟩⟩,(set_swap hcb)⟩
  rw [set_swap hcb]
  exact Drop.set (by rw [ASt.set_ne hcb];exact hc)
 ·obtain ⟨h3,h4,h5⟩:=set_none h2
  obtain ⟨h6,h7,h8⟩:=set_none h5
  have e:((σ0.set c (some r)).set b (some (.obj [.sl k (bytesAV l)]))).set t (some (.tok ((bytesAV l).length*1)))=((σ0.set b (some (.obj [.sl k (bytesAV l)]))).set t (some (.tok ((bytesAV l).length*1)))).set c (some r):=by
   rw [set_swap hcb,set_swap h7]
  refine ⟨(σ0.set b (some (.obj [.sl k (bytesAV l)]))).set t (some (.tok ((bytesAV l).length*1))),?_,⟨k,.inr ⟨t,T,h1,?_,rfl⟩⟩,e⟩
  ·rw [e]
   exact Drop.set (by rw [ASt.set_ne h7,ASt.set_ne hcb];exact hc)
  ·rw [ASt.set_ne h3];exact h8
theorem W.role {σ0 σ:ASt} {b c:Nat} {l:List UInt8} {r:Role} (h:W (σ0.set c (some r)) b l σ) (hcb:c≠b):σ c=some r:=by
 obtain ⟨k,hg⟩:=h
 exact hg.at (by rw [ASt.set_ne hcb,ASt.set_same])
end Go.A
namespace Go.A
open Go.Proofs
/-! 24: tabular/vint.Read -/
def c24_3:ACode := .seq (.ops [ oq 2 (.mv (.v .nilp))]) (.seq (.ops [ oq 3 (.mv (.t 0)),oq 4 (.build [(.str []),(.int .i64 0),(.int .i64 0)] [(0,1,(.t 3))]),oe 5 (.box (.t 4)),oq 2 (.mv (.t 5))]) .ret)
@[go_sem] def c24_3_wp:=wp_of c24_3.eq_1
def c24:AFn:=⟨6,[.t 2],c24_3⟩
theorem c24_ok:compF Tryz.prog Tryz.f24=some c24:=by kernel_rfl
theorem a24 {args:List AV} {σ:ASt} {R:AV->ASt->Prop} (hl:args.length<=6) (h:c24_3.wp Tryz.prog (RetQ [.t 2] R) (init args) σ):ACalls Tryz.prog 24 args σ R:=acalls_of Tryz.func24 c24_ok hl h
/-! 86: (*tabular/vint.Reader).Uint -/
def c86_32:ACode := .seq (.seq (.ops [ oq 6 (.mv (.t 0)),oq 7 (.nc (.t 6)),oq 8 (.fa 2 (.t 7)),oq 9 (.ld none (.t 8)),oq 10 (.bin .eql (.t 9) (.v (.int .i64 0)))]) (.cond (.t 10) .skip (.exit 0))) (.seq (.block 1 (.seq (.seq (.ops [ oq 13 (.mv (.t 0)),oq 14 (.nc (.t 13)),oq 15 (.fa 1 (.t 14)),oq 16 (.ld none (.t 15)),oq 17 (.mv (.t 4)),oq 18 (.bin .add (.t 16) (.t 17)),oq 19 (.mv (.t 0)),oq 20 (.nc (.t 19)),oq 21 (.fa 0 (.t 20)),oq 22 (.ld none (.t 21)),oq 23 (.lenS (.t 22)),oq 24 (.bin .geq (.t 18) (.t 23))]) (.cond (.t 24) (.seq (.ops [ oq 25 (.mv (.t 0)),oe 26 (.call 123 [(.t 25),(.v (.int .i64 2))])]) (.exit 0)) .skip)) (.seq (.ops [ oq 27 (.mv (.t 0)),oq 28 (.nc (.t 27)),oq 29 (.fa 0 (.t 28)),oq 30 (.ld none (.t 29)),oq 31 (.mv (.t 0)),oq 32 (.nc (.t 31)),oq 33 (.fa 1 (.t 32)),oq 34 (.ld none (.t 33)),oq 35 (.mv (.t 4)),oq 36 (.bin .add (.t 34) (.t 35)),oq 37 (.idx (.t 30) (.t 36)),oq 5 (.mv (.t 37))]) (.seq (.seq (.ops [ oq 38 (.mv (.t 4)),oq 39 (.bin .eql (.t 38) (.v (.int .i64 9))),oq 40 (.mv (.t 39)),⟨some 41,some (40,true),.q (.mv (.t 5)),[]⟩,⟨some 42,some (40,true),.q (.bin .gtr (.t 41) (.v (.int .u8 1))),[]⟩,oq 43 (.pick (.t 40) (.t 42) (.v (.bool false))),oq 44 (.mv (.t 43)),⟨some 45,some (44,false),.q (.mv (.t 4)),[]⟩,⟨some 46,some (44,false),.q (.bin .gtr (.t 45) (.v (.int .i64 0))),[]⟩,⟨some 47,some (44,false),.q (.mv (.t 46)),[]⟩,⟨some 48,some (47,true),.q (.mv (.t 5)),[]⟩,⟨some 49,some (47,true),.q (.bin .eql (.t 48) (.v (.int .u8 0))),[]⟩,⟨some 50,some (44,false),.q (.pick (.t 47) (.t 49) (.v (.bool false))),[]⟩,oq 51 (.pick (.t 44) (.v (.bool true)) (.t 50))]) (.cond (.t 51) (.seq (.ops [ oq 52 (.mv (.t 0)),oe 53 (.call 123 [(.t 52),(.v (.int .i64 3))])]) (.exit 0)) .skip)) (.seq (.ops [ oq 54 (.mv (.t 3)),oq 55 (.mv (.t 5)),oq 56 (.bin .and (.t 55) (.v (.int .u8 127))),oq 57 (.conv .u64 (.t 56)),oq 58 (.mv (.t 4)),oq 59 (.bin .mul (.v (.int .i64 7)) (.t 58)),oq 60 (.bin .shl (.t 57) (.t 59)),oq 61 (.bin .or (.t 54) (.t 60)),oq 3 (.mv (.t 61))]) (.seq (.ops [ oq 62 (.mv (.t 5)),oq 63 (.bin .lss (.t 62) (.v (.int .u8 128)))]) (.cond (.t 63) (.seq (.ops [ oq 64 (.mv (.t 0)),oq 65 (.nc (.t 64)),oq 66 (.fa 1 (.t 65)),oq 67 (.ld none (.t 66)),oq 68 (.mv (.t 4)),oq 69 (.bin .add (.t 68) (.v (.int .i64 1))),oq 70 (.bin .add (.t 67) (.t 69)),oq 71 (.nc (.t 64)),oq 72 (.fa 1 (.t 71)),oz (.store 1 (.t 72) (.t 70))]) (.seq (.ops [ oq 73 (.mv (.t 3)),oq 2 (.mv (.t 73))]) .ret)) .skip))))))) (.ops [ oq 11 (.mv (.t 4)),oq 12 (.bin .add (.t 11) (.v (.int .i64 1))),oq 4 (.mv (.t 12))]))
def c86_40:ACode := .seq (.ops [ oq 2 (.mv (.v (.int .u64 0)))]) (.seq (.ops [ oq 3 (.mv (.v (.int .u64 0)))]) (.seq (.seq (.ops [ oq 4 (.mv (.v (.int .i64 0)))]) (.block 0 (.loop c86_32))) (.seq (.ops [ oq 2 (.mv (.v (.int .u64 0)))]) .ret)))
@[go_sem] def c86_32_wp:=wp_of c86_32.eq_1
@[go_sem] def c86_40_wp:=wp_of c86_40.eq_1
def c86:AFn:=⟨74,[.t 2],c86_40⟩
theorem c86_ok:compF Tryz.prog Tryz.f86=some c86:=by kernel_rfl
theorem a86 {args:List AV} {σ:ASt} {R:AV->ASt->Prop} (hl:args.length<=74) (h:c86_40.wp Tryz.prog (RetQ [.t 2] R) (init args) σ):ACalls Tryz.prog 86 args σ R:=acalls_of Tryz.func86 c86_ok hl h
/-! 87: (*tabular/vint.Reader).Err -/
def c87_3:ACode := .seq (.ops [ oq 2 (.mv (.v (.int .i64 0)))]) (.seq (.ops [ oq 3 (.mv (.t 0)),oq 4 (.nc (.t 3)),oq 5 (.fa 2 (.t 4)),oq 6 (.ld none (.t 5)),oq 2 (.mv (.t 6))]) .ret)
@[go_sem] def c87_3_wp:=wp_of c87_3.eq_1
def c87:AFn:=⟨7,[.t 2],c87_3⟩
theorem c87_ok:compF Tryz.prog Tryz.f87=some c87:=by kernel_rfl
theorem a87 {args:List AV} {σ:ASt} {R:AV->ASt->Prop} (hl:args.length<=7) (h:c87_3.wp Tryz.prog (RetQ [.t 2] R) (init args) σ):ACalls Tryz.prog 87 args σ R:=acalls_of Tryz.func87 c87_ok hl h
/-! 123: (*tabular/vint.Reader).fail -/
def c123_3:ACode := .seq (.ops [ oq 4 (.mv (.t 0)),oq 5 (.nc (.t 4)),oq 6 (.fa 2 (.t 5)),oq 7 (.ld none (.t 6)),oq 8 (.bin .eql (.t 7) (.v (.int .i64 0)))]) (.cond (.t 8) (.ops [ oq 9 (.mv (.t 0)),oq 10 (.mv (.t 1)),oq 11 (.nc (.t 9)),oq 12 (.fa 2 (.t 11)),oz (.store 1 (.t 12) (.t 10))]) .skip)
@[go_sem] def c123_3_wp:=wp_of c123_3.eq_1
def c123:AFn:=⟨13,[],c123_3⟩
theorem c123_ok:compF Tryz.prog Tryz.f123=some c123:=by kernel_rfl
theorem a123 {args:List AV} {σ:ASt} {R:AV->ASt->Prop} (hl:args.length<=13) (h:c123_3.wp Tryz.prog (RetQ [] R) (init args) σ):ACalls Tryz.prog 123 args σ R:=acalls_of Tryz.func123 c123_ok hl h
end Go.A
namespace Go.A
open Go.Proofs Go.Vint
def rd (s:List UInt8) (p:Nat) (e:Int):Option Role:=some (.obj [.str s,.int .i64 p,.int .i64 e])
theorem set_self {σ:ASt} {b:Nat} {r:Option Role} (h:σ b=r):σ.set b r=σ:=by
 funext x
 simp only [ASt.set]
 split
 ·rename_i hx;rw [hx,h]
 ·rfl
def firstErr (err e:Int):Int:=if err=0 then e else err
theorem rread_ok (s:List UInt8) (σ:ASt):ACalls Tryz.prog 24 [.str s] σ fun v σ'=>∃ b,v = .ptr b 0/\σ b=none/\σ'=σ.set b (rd s 0 0):=by
 refine a24 (by simp) ?_
 simp (disch:=first|assumption|omega) only [go_sem,reduceCtorEq,Nat.reduceAdd,Nat.reduceLeDiff,↓reduceIte]
 refine boxC_by rfl fun b hb=>?_
 simp (disch:=first|assumption|omega) only [go_sem,↓reduceIte]
 exact retC_by (Drop.refl _) (.refl _) ⟨b,rfl,hb,rfl⟩
theorem rerr_ok (s:List UInt8) (p:Nat) (e:Int) (b:Nat) (σ:ASt) (hb:σ b=rd s p e):ACalls Tryz.prog 87 [.ptr b 0] σ fun v σ'=>v = .int .i64 e/\σ'=σ:=by
 refine a87 (by simp) ?_
 simp (disch:=first|assumption|omega) only [go_sem,reduceCtorEq,↓reduceIte,hb,rd]
 exact retC_by (Drop.refl _) (.refl _) ⟨rfl,rfl⟩
theorem rfail_ok (s:List UInt8) (p:Nat) (e e0:Int) (b:Nat) (σ:ASt) (hb:σ b=rd s p e):ACalls Tryz.prog 123 [.ptr b 0,.int .i64 e0] σ fun v σ'=>v = .tuple []/\σ'=σ.set b (rd s p (firstErr e e0)):=by
 refine a123 (by simp) ?_
 by_cases he:e=0
 ·simp (disch:=first|assumption|omega) only [go_sem,reduceCtorEq,Nat.reduceEqDiff,Nat.reduceAdd,Nat.reduceLeDiff,↓reduceIte,Bool.true_and,hb,rd,he]
  exact retC_by (Drop.refl _) (.refl _) ⟨rfl,by simp [firstErr]⟩
 ·simp (disch:=first|assumption|omega) only [go_sem,↓reduceIte,hb,rd,he]
  refine retC_by (Drop.refl _) (.refl _) ⟨rfl,?_⟩
  rw [show firstErr e e0=e by simp [firstErr,he]]
  exact (set_self hb).symm
theorem or_sh {k U:Nat} {c:UInt8} (hk:k<=9) (hU:U<128 ^ k) (hc:k=9->(c.toNat:Int)<=1) :
  ((BitVec.ofInt 64 (U:Int) ||| BitVec.ofInt 64 (IntKind.wrap .u64 (((BitVec.ofInt 8 (c.toNat:Int) &&& BitVec.ofInt 8 127).toNat:Int)*2 ^ (7*(k:Int)).toNat))).toNat:Int)=((U+c.toNat % 128*128 ^ k:Nat):Int):=by
 have h:=or_shift hk hU hc
 rw [show (7*(k:Int)).toNat=7*k by omega]
 have e1:bits BinOp.and IntKind.u8 (c.toNat:Int) 127=((BitVec.ofInt 8 (c.toNat:Int) &&& BitVec.ofInt 8 127).toNat:Int):=by
  show IntKind.wrap .u8 ((BitVec.ofInt 8 (c.toNat:Int) &&& BitVec.ofInt 8 127).toNat:Int)=_
  rw [IntKind.wrap_u8,Int.emod_eq_of_lt (by omega) (by omega)]
 rw [e1,show IntKind.wrap .u64 ((BitVec.ofInt 8 (c.toNat:Int) &&& BitVec.ofInt 8 127).toNat:Int)=((BitVec.ofInt 8 (c.toNat:Int) &&& BitVec.ofInt 8 127).toNat:Int) by
  rw [IntKind.wrap_u64,Int.emod_eq_of_lt (by omega) (by omega)]] at h
 have h':IntKind.wrap .u64 ((BitVec.ofInt 64 (U:Int) ||| BitVec.ofInt 64 (IntKind.wrap .u64 (((BitVec.ofInt 8 (c.toNat:Int) &&& BitVec.ofInt 8 127).toNat:Int)*2 ^ (7*k)))).toNat:Int)=_:=h
 rwa [IntKind.wrap_u64,Int.emod_eq_of_lt (by omega) (by omega)] at h'
set_option maxHeartbeats 1000000 in
theorem ruint_ok (s:List UInt8) (p:Nat) (e:Int) (b:Nat) (σ:ASt) (hb:σ b=rd s p e) (hs:s.length<=4611686018427387904) (hp:p<=s.length) :
  ACalls Tryz.prog 86 [.ptr b 0] σ fun v σ'=>v = .int .u64 (readU s p e).1/\σ'=σ.set b (rd s (readU s p e).2.1 (readU s p e).2.2):=by
 refine a86 (by simp) ?_
 by_cases he:e=0
 ·subst he
  obtain ⟨q,hq⟩:∃ q,scan 0 0 (s.drop p)=q:=⟨_,rfl⟩
  rw [readU_of hq]
  dsimp only
  simp (disch:=first|assumption|omega) only [go_sem]
  refine wp_loop_on (fun (i:Nat×Nat) a σ'=>(i.1<=9/\p+i.1<=s.length/\i.2<128 ^ i.1/\scan i.1 i.2 (s.drop (p+i.1))=q)/\(a 0 = .ptr b 0/\a 3 = .int .u64 i.2/\a 4 = .int .i64 i.1)/\σ'=σ)
   (fun i=>10-i.1) (0,0) ⟨⟨by simp,by simpa using hp,by simp,by simpa using hq⟩,?_,rfl⟩ ?_
  ·simp (disch:=first|assumption|omega) only [go_sem,reduceCtorEq,Nat.reduceEqDiff,↓reduceIte]
  rintro ⟨k,U⟩ a σ1 ⟨⟨hk,hpk,hU,hsc⟩,hf,rfl⟩
  dsimp only at hk hpk hU hsc hf
  by_cases hlt:p+k<s.length
  ·have hlt':(p:Int)+k<s.length:=by omega
   have hidx : s[p + k]? = some (s[p + k]'hlt) := List.getElem?_eq_getElem hlt
   obtain ⟨c, hc⟩ : ∃ c, s[p + k]'hlt = c := ⟨_, rfl⟩
   rw [hc] at hidx
   have hidx':s[((p:Int)+k).toNat]? = some c:=by rw [show ((p:Int)+k).toNat=p+k by omega];exact hidx
   have hcb:=u8_lt c
   rw [scan_step hidx] at hsc
   have r0:¬ (p:Int)+k<0:=by omega
   by_cases hbad:(k=9/\1<c.toNat)\/(0<k/\c.toNat=0)
   ·rw [if_pos hbad] at hsc
    subst hsc
    repeat' (first|(simp (disch:=first|assumption|omega) only [go_sem,reduceCtorEq,Nat.reduceEqDiff,↓reduceIte,hf,hb,rd,hidx'])|refine (rfail_ok s p 0 3 b _ hb).mono ?_|with_reducible refine gC_d (fun h=>?_) (fun h=>?_)|with_reducible refine gC_dn (fun h=>?_) (fun h=>?_)|with_reducible refine condC_d (fun h=>?_) (fun h=>?_)|with_reducible refine condC_n (fun h=>?_) (fun h=>?_)|with_reducible refine condC_b (fun h=>?_) (fun h=>?_)|with_reducible refine boxC_by ?_ fun b hb=>?_)
    all_goals first
     | (exfalso;omega)
     | (rintro v σ' ⟨rfl,rfl⟩
        simp (disch:=first|assumption|omega) only [go_sem,↓reduceIte,firstErr]
        exact retC_by (Drop.refl _) (.refl _) ⟨rfl,by simp [rd]⟩)
   ·rw [if_neg hbad] at hsc
    have hor:=or_sh (k:=k) (U:=U) (c:=c) (by omega) hU (by omega)
    have hbd:=or_shift_bd (k:=k) (U:=U) (c:=c) hU
    have hmn:mnb (7*(k:Int)).toNat 64=(7*(k:Int)).toNat:=mnb_le (by omega)
    by_cases hc7:c.toNat<128
    ·have hc7':(c.toNat:Int)<128:=by omega
     rw [if_pos hc7] at hsc
     subst hsc
     repeat' (first|(simp (disch:=first|assumption|omega) only [go_sem,reduceCtorEq,Nat.reduceEqDiff,Nat.reduceAdd,Nat.reduceLeDiff,↓reduceIte,Bool.true_and,hf,hb,rd,hidx',hmn,hc7'])|with_reducible refine gC_d (fun h=>?_) (fun h=>?_)|with_reducible refine gC_dn (fun h=>?_) (fun h=>?_)|with_reducible refine condC_d (fun h=>?_) (fun h=>?_)|with_reducible refine condC_n (fun h=>?_) (fun h=>?_)|with_reducible refine condC_b (fun h=>?_) (fun h=>?_)|with_reducible refine boxC_by ?_ fun b hb=>?_)
     all_goals first
      | (exfalso;omega)
      | exact retC_by (Drop.refl _) (.refl _) ⟨congrArg (AV.int .u64) hor,rfl⟩
    ·have hc7':¬ (c.toNat:Int)<128:=by omega
     rw [if_neg hc7] at hsc
     repeat' (first|(simp (disch:=first|assumption|omega) only [go_sem,reduceCtorEq,Nat.reduceEqDiff,↓reduceIte,hf,hb,rd,hidx',hmn,hc7'])|with_reducible refine gC_d (fun h=>?_) (fun h=>?_)|with_reducible refine gC_dn (fun h=>?_) (fun h=>?_)|with_reducible refine condC_d (fun h=>?_) (fun h=>?_)|with_reducible refine condC_n (fun h=>?_) (fun h=>?_)|with_reducible refine condC_b (fun h=>?_) (fun h=>?_)|with_reducible refine boxC_by ?_ fun b hb=>?_)
     all_goals first
      | (exfalso;omega)
      | (refine ⟨(k+1,U+c.toNat % 128*128 ^ k),by dsimp only;omega,⟨by dsimp only;omega,by dsimp only;omega,hbd,hsc⟩,congrArg (AV.int .u64) hor,rfl⟩)
  ·have hlt':¬ (p:Int)+k<s.length:=by omega
   rw [scan_stop (by omega)] at hsc
   subst hsc
   simp (disch:=first|assumption|omega) only [go_sem,reduceCtorEq,Nat.reduceEqDiff,↓reduceIte,hf,hb,rd]
   refine (rfail_ok s p 0 2 b _ hb).mono ?_
   rintro v σ' ⟨rfl,rfl⟩
   simp (disch:=first|assumption|omega) only [go_sem,reduceCtorEq,↓reduceIte,firstErr]
   exact retC_by (Drop.refl _) (.refl _) ⟨rfl,by simp [rd]⟩
 ·have hr:readU s p e=(0,p,e):=by unfold readU;rw [if_pos he]
  rw [hr]
  dsimp only
  simp (disch:=first|assumption|omega) only [go_sem]
  refine wp_loop_on (fun (i:Unit) a σ'=>a 0 = .ptr b 0/\σ'=σ) (fun _=>0) () ⟨by simp (disch:=first|assumption|omega) only [go_sem,reduceCtorEq,↓reduceIte],rfl⟩ ?_
  rintro ⟨⟩ a σ1 ⟨h0,rfl⟩
  simp (disch:=first|assumption|omega) only [go_sem,↓reduceIte,h0,hb,rd,he]
  exact retC_by (Drop.refl _) (.refl _) ⟨rfl,(set_self hb).symm⟩
end Go.A
namespace Go.A
open Go.Proofs
/-! 89: (*tabular/vint.Reader).Int -/
def c89_5:ACode := .seq (.ops [ oq 2 (.mv (.v (.int .i64 0)))]) (.seq (.ops [ oq 4 (.mv (.t 0)),oe 5 (.call 86 [(.t 4)]),oq 3 (.mv (.t 5))]) (.seq (.ops [ oq 6 (.mv (.t 3)),oq 7 (.bin .shr (.t 6) (.v (.int .u64 1))),oq 8 (.conv .i64 (.t 7)),oq 9 (.mv (.t 3)),oq 10 (.bin .and (.t 9) (.v (.int .u64 1))),oq 11 (.conv .i64 (.t 10)),oq 12 (.un .neg (.t 11)),oq 13 (.bin .xor (.t 8) (.t 12)),oq 2 (.mv (.t 13))]) .ret))
@[go_sem] def c89_5_wp:=wp_of c89_5.eq_1
def c89:AFn:=⟨14,[.t 2],c89_5⟩
theorem c89_ok:compF Tryz.prog Tryz.f89=some c89:=by kernel_rfl
theorem a89 {args:List AV} {σ:ASt} {R:AV->ASt->Prop} (hl:args.length<=14) (h:c89_5.wp Tryz.prog (RetQ [.t 2] R) (init args) σ):ACalls Tryz.prog 89 args σ R:=acalls_of Tryz.func89 c89_ok hl h
/-! 91: (*tabular/vint.Reader).Text -/
def c91_23:ACode := .seq (.ops [ oq 4 (.mv (.v (.str [])))]) (.seq (.ops [ oq 6 (.mv (.t 0)),oe 7 (.call 86 [(.t 6)]),oq 5 (.mv (.t 7))]) (.seq (.seq (.ops [ oq 8 (.mv (.t 0)),oq 9 (.nc (.t 8)),oq 10 (.fa 2 (.t 9)),oq 11 (.ld none (.t 10)),oq 12 (.bin .eql (.t 11) (.v (.int .i64 0))),oq 13 (.mv (.t 12)),⟨some 14,some (13,true),.q (.mv (.t 5)),[]⟩,⟨some 15,some (13,true),.q (.mv (.t 1)),[]⟩,⟨some 16,some (13,true),.q (.mnx true (.t 15) (.v (.int .i64 0))),[]⟩,⟨some 17,some (13,true),.q (.conv .u64 (.t 16)),[]⟩,⟨some 18,some (13,true),.q (.bin .gtr (.t 14) (.t 17)),[]⟩,oq 19 (.pick (.t 13) (.t 18) (.v (.bool false)))]) (.cond (.t 19) (.ops [ oq 20 (.mv (.t 0)),oe 21 (.call 123 [(.t 20),(.v (.int .i64 11))])]) .skip)) (.seq (.seq (.ops [ oq 22 (.mv (.t 0)),oq 23 (.nc (.t 22)),oq 24 (.fa 2 (.t 23)),oq 25 (.ld none (.t 24)),oq 26 (.bin .eql (.t 25) (.v (.int .i64 0))),oq 27 (.mv (.t 26)),⟨some 28,some (27,true),.q (.mv (.t 5)),[]⟩,⟨some 29,some (27,true),.q (.mv (.t 0)),[]⟩,⟨some 30,some (27,true),.q (.nc (.t 29)),[]⟩,⟨some 31,some (27,true),.q (.fa 0 (.t 30)),[]⟩,⟨some 32,some (27,true),.q (.ld none (.t 31)),[]⟩,⟨some 33,some (27,true),.q (.lenS (.t 32)),[]⟩,⟨some 34,some (27,true),.q (.mv (.t 0)),[]⟩,⟨some 35,some (27,true),.q (.nc (.t 34)),[]⟩,⟨some 36,some (27,true),.q (.fa 1 (.t 35)),[]⟩,⟨some 37,some (27,true),.q (.ld none (.t 36)),[]⟩,⟨some 38,some (27,true),.q (.bin .sub (.t 33) (.t 37)),[]⟩,⟨some 39,some (27,true),.q (.conv .u64 (.t 38)),[]⟩,⟨some 40,some (27,true),.q (.bin .gtr (.t 28) (.t 39)),[]⟩,oq 41 (.pick (.t 27) (.t 40) (.v (.bool false)))]) (.cond (.t 41) (.ops [ oq 42 (.mv (.t 0)),oe 43 (.call 123 [(.t 42),(.v (.int .i64 2))])]) .skip)) (.seq (.seq (.ops [ oq 44 (.mv (.t 0)),oq 45 (.nc (.t 44)),oq 46 (.fa 2 (.t 45)),oq 47 (.ld none (.t 46)),oq 48 (.bin .neq (.t 47) (.v (.int .i64 0)))]) (.cond (.t 48) (.seq (.ops [ oq 4 (.mv (.v (.str [])))]) .ret) .skip)) (.seq (.ops [ oq 49 (.mv (.t 0)),oq 50 (.nc (.t 49)),oq 51 (.fa 1 (.t 50)),oq 52 (.ld none (.t 51)),oq 53 (.mv (.t 5)),oq 54 (.conv .i64 (.t 53)),oq 55 (.bin .add (.t 52) (.t 54)),oq 56 (.nc (.t 49)),oq 57 (.fa 1 (.t 56)),oz (.store 1 (.t 57) (.t 55))]) (.seq (.ops [ oq 58 (.mv (.t 0)),oq 59 (.nc (.t 58)),oq 60 (.fa 0 (.t 59)),oq 61 (.ld none (.t 60)),oq 62 (.mv (.t 0)),oq 63 (.nc (.t 62)),oq 64 (.fa 1 (.t 63)),oq 65 (.ld none (.t 64)),oq 66 (.mv (.t 5)),oq 67 (.conv .i64 (.t 66)),oq 68 (.bin .sub (.t 65) (.t 67)),oq 69 (.mv (.t 0)),oq 70 (.nc (.t 69)),oq 71 (.fa 1 (.t 70)),oq 72 (.ld none (.t 71)),oq 73 (.sls (true,0) (.t 61) (.t 68) (.t 72)),oq 4 (.mv (.t 73))]) .ret))))))
@[go_sem] def c91_23_wp:=wp_of c91_23.eq_1
def c91:AFn:=⟨74,[.t 4],c91_23⟩
theorem c91_ok:compF Tryz.prog Tryz.f91=some c91:=by kernel_rfl
theorem a91 {args:List AV} {σ:ASt} {R:AV->ASt->Prop} (hl:args.length<=74) (h:c91_23.wp Tryz.prog (RetQ [.t 4] R) (init args) σ):ACalls Tryz.prog 91 args σ R:=acalls_of Tryz.func91 c91_ok hl h
end Go.A
namespace Go.A
open Go.Proofs Go.Vint
theorem scan_facts:∀ (l:List UInt8) (k U:Nat),U<128 ^ k->k<=9->(scan k U l).2.1<18446744073709551616/\(scan k U l).2.2<=k+l.length/\((scan k U l).1=0\/(scan k U l).1=2/\(scan k U l).2.1=0/\(scan k U l).2.2=0\/(scan k U l).1=3/\(scan k U l).2.1=0/\(scan k U l).2.2=0)
 | [],k,U,hU,hk=>by simp [scan]
 | c::r,k,U,hU,hk=>by
   have hbd:=or_shift_bd (k:=k) (U:=U) (c:=c) hU
   have hcb:=c.toNat_lt
   unfold scan
   split
   ·simp
   ·rename_i hbad
    split
    ·refine ⟨?_,by simp only [List.length_cons];omega,.inl rfl⟩
     dsimp only
     rcases Nat.lt_or_ge k 9 with h|h
     ·have h2:128 ^ (k+1)<=128 ^ 9:=Nat.pow_le_pow_right (by omega) (by omega)
      have e9:(128:Nat) ^ 9=9223372036854775808:=by decide
      omega
     ·obtain rfl:k=9:=by omega
      have e9:(128:Nat) ^ 9=9223372036854775808:=by decide
      rw [e9] at hU ⊢
      have:c.toNat<=1:=by omega
      omega
    ·have hk9:k≠9:=by omega
     have ih:=scan_facts r (k+1) (U+c.toNat % 128*128 ^ k) hbd (by omega)
     refine ⟨ih.1,by simp;omega,ih.2.2⟩
theorem readU_facts (s:List UInt8) (p:Nat) (e:Int) (hp:p<=s.length):(readU s p e).1<18446744073709551616/\(readU s p e).2.1<=s.length/\((readU s p e).2.2≠0->(readU s p e).1=0/\(readU s p e).2.1=p)/\(e≠0->(readU s p e).2.2=e):=by
 unfold readU
 by_cases he:e≠0
 ·rw [if_pos he];simp;exact hp
 ·rw [if_neg he]
  obtain ⟨h1,h2,h3⟩:=scan_facts (s.drop p) 0 0 (by simp) (by omega)
  refine ⟨h1,by simp at h2 ⊢;omega,fun h=>?_,fun h=>absurd h he⟩
  dsimp only at h ⊢
  omega
def unfI (u:Nat):Int:=if u % 2=1 then -((u / 2:Nat):Int)-1 else ((u / 2:Nat):Int)
theorem unf_fold {n:Int} (h1 : -9223372036854775808<=n) (h2:n<=9223372036854775807):unfI (foldI n).toNat=n:=by
 unfold foldI unfI
 split<;>split<;>omega
theorem unf_bits {u:Nat} (hu:u<18446744073709551616) :
  IntKind.wrap .i64 ((BitVec.ofInt 64 ((u:Int) / 2) ^^^ BitVec.ofInt 64 (IntKind.wrap .i64 (0-IntKind.wrap .i64 ((BitVec.ofInt 64 (u:Int) &&& BitVec.ofInt 64 1).toNat:Int)))).toNat:Int)=unfI u:=by
 have ofi:∀ a:Nat,a<18446744073709551616->(BitVec.ofInt 64 (a:Int)).toNat=a:=fun a ha=>ofInt_u64 a ha
 have h1:(BitVec.ofInt 64 (u:Int) &&& BitVec.ofInt 64 1).toNat=u % 2:=by
  rw [BitVec.toNat_and,ofi u hu,show BitVec.ofInt 64 1=1#64 by decide +kernel]
  simp [Nat.and_one_is_mod]
 rw [h1,show (u:Int) / 2=((u / 2:Nat):Int) by omega]
 unfold unfI
 rcases Nat.mod_two_eq_zero_or_one u with h|h
 ·rw [h,if_neg (by omega)]
  have e3:BitVec.ofInt 64 (IntKind.wrap .i64 (0-IntKind.wrap .i64 ((0:Nat):Int)))=0#64:=by decide +kernel
  rw [e3,BitVec.xor_zero,ofi _ (by omega),wrap_i64 (by omega) (by omega)]
 ·rw [h,if_pos rfl]
  have e3:BitVec.ofInt 64 (IntKind.wrap .i64 (0-IntKind.wrap .i64 ((1:Nat):Int)))=BitVec.allOnes 64:=by decide +kernel
  rw [e3,BitVec.xor_allOnes,BitVec.toNat_not,ofi _ (by omega)]
  rw [IntKind.wrap_i64]
  omega
theorem rint_ok (s:List UInt8) (p:Nat) (e:Int) (b:Nat) (σ:ASt) (hb:σ b=rd s p e) (hs:s.length<=4611686018427387904) (hp:p<=s.length) :
  ACalls Tryz.prog 89 [.ptr b 0] σ fun v σ'=>v = .int .i64 (unfI (readU s p e).1)/\σ'=σ.set b (rd s (readU s p e).2.1 (readU s p e).2.2):=by
 refine a89 (by simp) ?_
 obtain ⟨f1,f2,f3,f4⟩:=readU_facts s p e hp
 simp (disch:=first|assumption|omega) only [go_sem,reduceCtorEq,↓reduceIte]
 refine (ruint_ok s p e b σ hb hs hp).mono ?_
 rintro v σ' ⟨rfl,rfl⟩
 generalize readU s p e=R at *
 obtain ⟨u,p',e'⟩:=R
 dsimp only at *
 simp (disch:=first|assumption|omega) only [go_sem,Nat.reduceEqDiff,↓reduceIte,Int.reduceToNat,Int.reducePow]
 exact retC_by (Drop.refl _) (.refl _) ⟨congrArg (AV.int .i64) (unf_bits f1),rfl⟩
def rtxP (s:List UInt8) (p:Nat) (e:Int) (most:Nat):List UInt8×Nat×Int:=
 if (readU s p e).2.2≠0 then ([],(readU s p e).2.1,(readU s p e).2.2)
 else if most<(readU s p e).1 then ([],(readU s p e).2.1,11)
 else if s.length<(readU s p e).2.1+(readU s p e).1 then ([],(readU s p e).2.1,2)
 else ((s.drop (readU s p e).2.1).take (readU s p e).1,(readU s p e).2.1+(readU s p e).1,0)
theorem rtext_ok (s:List UInt8) (p:Nat) (e:Int) (most:Nat) (b:Nat) (σ:ASt) (hb:σ b=rd s p e) (hs:s.length<=4611686018427387904) (hp:p<=s.length) (hm:most<=1000000) :
  ACalls Tryz.prog 91 [.ptr b 0,.int .i64 most] σ fun v σ'=>v = .str (rtxP s p e most).1/\σ'=σ.set b (rd s (rtxP s p e most).2.1 (rtxP s p e most).2.2):=by
 refine a91 (by simp) ?_
 obtain ⟨q,hq⟩:∃ q,rtxP s p e most=q:=⟨_,rfl⟩
 rw [hq]
 unfold rtxP at hq
 obtain ⟨f1,f2,f3,f4⟩:=readU_facts s p e hp
 simp (disch:=first|assumption|omega) only [go_sem,reduceCtorEq,↓reduceIte]
 refine (ruint_ok s p e b σ hb hs hp).mono ?_
 rintro v σ' ⟨rfl,rfl⟩
 generalize readU s p e=R at *
 obtain ⟨u,p',e'⟩:=R
 dsimp only at *
 have hmx:max (most:Int) 0=most:=by omega
 by_cases he:e'=0
 ·subst he
  rw [if_neg (by simp)] at hq
  by_cases h1:most<u
  ·have h1':(most:Int)<u:=by omega
   rw [if_pos h1] at hq
   subst hq
   simp (disch:=first|assumption|omega) only [go_sem,reduceCtorEq,Nat.reduceEqDiff,↓reduceIte,rd,hmx,h1']
   refine (rfail_ok s p' 0 11 b _ (ASt.set_same _ _ _)).mono ?_
   rintro v σ' ⟨rfl,rfl⟩
   simp (disch:=first|assumption|omega) only [go_sem,reduceCtorEq,Nat.reduceEqDiff,Int.reduceEq,↓reduceIte,rd,firstErr]
   exact retC_by (Drop.refl _) (.refl _) ⟨rfl,rfl⟩
  ·have h1':¬ (most:Int)<u:=by omega
   rw [if_neg h1] at hq
   by_cases h2:s.length<p'+u
   ·have h2':(s.length:Int)-p'<u:=by omega
    rw [if_pos h2] at hq
    subst hq
    simp (disch:=first|assumption|omega) only [go_sem,reduceCtorEq,Nat.reduceEqDiff,↓reduceIte,rd,hmx,h1',h2']
    refine (rfail_ok s p' 0 2 b _ (ASt.set_same _ _ _)).mono ?_
    rintro v σ' ⟨rfl,rfl⟩
    simp (disch:=first|assumption|omega) only [go_sem,reduceCtorEq,Int.reduceEq,↓reduceIte,rd,firstErr]
    exact retC_by (Drop.refl _) (.refl _) ⟨rfl,rfl⟩
   ·have h2':¬ (s.length:Int)-p'<u:=by omega
    rw [if_neg h2] at hq
    subst hq
    have e1:(p':Int)+u-u=p':=by omega
    have e2:((p':Int)+u).toNat=p'+u:=by omega
    simp (disch:=first|assumption|omega) only [go_sem,reduceCtorEq,Nat.reduceEqDiff,Nat.reduceAdd,Nat.reduceLeDiff,↓reduceIte,Bool.true_and,rd,hmx,h1',h2',e1,e2]
    refine retC_by (Drop.refl _) (.refl _) ⟨?_,rfl⟩
    rw [List.drop_take,Nat.add_sub_cancel_left]
    rfl
 ·rw [if_pos he] at hq
  subst hq
  simp (disch:=first|assumption|omega) only [go_sem,reduceCtorEq,Nat.reduceEqDiff,↓reduceIte,rd,he]
  exact retC_by (Drop.refl _) (.refl _) ⟨rfl,rfl⟩
end Go.A
namespace Go.A
open Go.Proofs Go.Vint
theorem u8_of_lt {n:Nat} (h:n<256):(u8Of (n:Int)).toNat=n:=by
 unfold u8Of
 rw [Int.toNat_natCast]
 simp;omega
theorem scan_uint:∀ (m:Nat) (w k U:Nat) (r:List UInt8),(uintB w).length=m->k<=9->U+w*128 ^ k<18446744073709551616->(0<k->0<w)->scan k U (uintB w++r)=(0,U+w*128 ^ k,k+(uintB w).length)
 | m,w,k,U,r,hm,hk,hb,hpos=>by
   by_cases hw:w<128
   ·rw [uintB_small hw]
    simp only [List.singleton_append,scan,List.length_singleton,u8_of_lt (show w<256 by omega)]
    have h1:¬ (k=9/\1<w\/0<k/\w=0):=by
     rintro (⟨rfl,h⟩|⟨h,h2⟩)
     ·have e:(128:Nat) ^ 9=9223372036854775808:=by decide
      rw [e] at hb
      omega
     ·have:=hpos h;omega
    rw [if_neg h1,if_pos hw,Nat.mod_eq_of_lt hw]
   ·rw [uintB_big hw] at hm ⊢
    have hc:(u8Of ((128+w % 128:Nat):Int)).toNat=128+w % 128:=u8_of_lt (by omega)
    simp only [List.cons_append,scan,hc,List.length_cons]
    have hk9:k≠9:=by
     rintro rfl
     have e:(128:Nat) ^ 9=9223372036854775808:=by decide
     rw [e] at hb
     omega
    rw [if_neg (by omega),if_neg (by omega)]
    have e1:(128+w % 128) % 128=w % 128:=by omega
    have e2:U+w % 128*128 ^ k+w / 128*128 ^ (k+1)=U+w*128 ^ k:=by
     rw [Nat.pow_succ,Nat.add_assoc]
     congr 1
     rw [<-Nat.mul_assoc,Nat.mul_right_comm (w / 128),← Nat.add_mul]
     congr 1
     omega
    rw [e1]
    simp only [List.length_cons] at hm
    rw [scan_uint (m-1) (w / 128) (k+1) _ r (by omega) (by omega) (by rw [e2];exact hb) (by omega),e2]
    simp;omega
theorem drop_app {s l r:List UInt8} {p:Nat} (h:s.drop p=l++r):s.drop (p+l.length)=r:=by
 rw [<-List.drop_drop,h];simp
theorem readU_uint {s r:List UInt8} {p u:Nat} (h:s.drop p=uintB u++r) (hu:u<18446744073709551616):readU s p 0=(u,p+(uintB u).length,0):=by
 have:=scan_uint _ u 0 0 r rfl (by omega) (by omega) (by omega)
 rw [readU_of (h▸this)]
 simp
end Go.A
namespace Go.A
open Go.Proofs
/-! 22: tabular/expr.Write -/
def c22_45:ACode := .seq (.ops [ oq 59 (.bin .lss (.t 58) (.t 57))]) (.seq (.cond (.t 59) .skip (.exit 1)) (.seq (.block 2 (.seq (.ops [ oq 60 (.ia 12 (.t 56) (.t 58)),oq 61 (.ld (some 12) (.t 60)),oe 5 (.alloc [(.int .i64 0),(.int .i64 0),(.str []),(.int .i64 0),(.int .i64 0),(.bool false),(.bool false),(.int .i64 0),(.int .i64 0),(.bool false),(.bool false),(.sl .full [])]),oz (.store 12 (.t 5) (.t 61))]) (.ops [ oq 62 (.mv (.t 0)),oq 63 (.ld (some 12) (.t 5)),oe 64 (.call 22 [(.t 62),(.t 63)])]))) (.ops [ oq 65 (.bin .add (.t 58) (.v (.int .i64 1))),oq 58 (.mv (.t 65))])))
def c22_48:ACode := .seq (.ops [ oq 55 (.fa 11 (.t 3)),oq 56 (.ld none (.t 55)),oq 57 (.len (.t 56)),oq 58 (.mv (.v (.int .i64 0)))]) (.block 1 (.loop c22_45))
def c22_51:ACode := .seq (.ops [ oe 3 (.box (.t 1))]) (.seq (.ops [ oq 6 (.mv (.t 0)),oq 7 (.fa 0 (.t 3)),oq 8 (.ld none (.t 7)),oq 9 (.conv .u64 (.t 8)),oe 10 (.call 50 [(.t 6),(.t 9)])]) (.seq (.seq (.ops [ oq 11 (.fa 0 (.t 3)),oq 12 (.ld none (.t 11))]) (.block 0 (.seq (.seq (.ops [ oq 14 (.bin .eql (.t 12) (.v (.int .i64 1))),oq 13 (.mv (.t 14))]) (.cond (.t 13) .skip (.seq (.ops [ oq 15 (.bin .eql (.t 12) (.v (.int .i64 3))),oq 13 (.mv (.t 15))]) (.cond (.t 13) .skip (.ops [ oq 16 (.bin .eql (.t 12) (.v (.int .i64 4))),oq 13 (.mv (.t 16))]))))) (.cond (.t 13) (.ops [ oq 17 (.mv (.t 0)),oq 18 (.fa 1 (.t 3)),oq 19 (.ld none (.t 18)),oe 20 (.call 51 [(.t 17),(.t 19)])]) (.seq (.ops [ oq 22 (.bin .eql (.t 12) (.v (.int .i64 2))),oq 21 (.mv (.t 22))]) (.cond (.t 21) (.ops [ oq 23 (.mv (.t 0)),oq 24 (.fa 2 (.t 3)),oq 25 (.ld none (.t 24)),oe 26 (.call 52 [(.t 23),(.t 25)])]) (.seq (.ops [ oq 28 (.bin .eql (.t 12) (.v (.int .i64 5))),oq 27 (.mv (.t 28))]) (.cond (.t 27) (.ops [ oq 29 (.mv (.t 0)),oq 30 (.fa 3 (.t 3)),oq 31 (.ld (some 4) (.t 30)),oe 32 (.call 53 [(.t 29),(.t 31)])]) (.seq (.ops [ oq 34 (.bin .eql (.t 12) (.v (.int .i64 6))),oq 33 (.mv (.t 34))]) (.cond (.t 33) (.seq (.ops [ oq 35 (.mv (.t 0)),oq 36 (.fa 3 (.t 3)),oq 37 (.ld (some 4) (.t 36)),oe 38 (.call 53 [(.t 35),(.t 37)])]) (.ops [ oq 39 (.mv (.t 0)),oq 40 (.fa 7 (.t 3)),oq 41 (.ld (some 4) (.t 40)),oe 42 (.call 53 [(.t 39),(.t 41)])])) (.seq (.ops [ oq 44 (.bin .eql (.t 12) (.v (.int .i64 22))),oq 43 (.mv (.t 44))]) (.cond (.t 43) (.seq (.ops [ oq 45 (.mv (.t 0)),oq 46 (.fa 2 (.t 3)),oq 47 (.ld none (.t 46)),oe 48 (.call 52 [(.t 45),(.t 47)])]) (.ops [ oq 49 (.mv (.t 0)),oq 50 (.fa 11 (.t 3)),oq 51 (.ld none (.t 50)),oq 52 (.len (.t 51)),oq 53 (.conv .u64 (.t 52)),oe 54 (.call 50 [(.t 49),(.t 53)])])) .skip)))))))))))) c22_48))
@[go_sem] def c22_45_wp:=wp_of c22_45.eq_1
@[go_sem] def c22_48_wp:=wp_of c22_48.eq_1
@[go_sem] def c22_51_wp:=wp_of c22_51.eq_1
def c22:AFn:=⟨66,[],c22_51⟩
theorem c22_ok:compF Tryz.prog Tryz.f22=some c22:=by kernel_rfl
theorem a22 {args:List AV} {σ:ASt} {R:AV->ASt->Prop} (hl:args.length<=66) (h:c22_51.wp Tryz.prog (RetQ [] R) (init args) σ):ACalls Tryz.prog 22 args σ R:=acalls_of Tryz.func22 c22_ok hl h
/-! 53: tabular/expr.putRef -/
def c53_16:ACode := .seq (.ops [ oe 3 (.box (.t 1))]) (.seq (.ops [ oq 4 (.mv (.v (.int .i64 0)))]) (.seq (.seq (.ops [ oq 5 (.fa 2 (.t 3)),oq 6 (.ld none (.t 5))]) (.cond (.t 6) (.ops [ oq 4 (.mv (.v (.int .i64 1)))]) .skip)) (.seq (.seq (.ops [ oq 7 (.fa 3 (.t 3)),oq 8 (.ld none (.t 7))]) (.cond (.t 8) (.ops [ oq 9 (.mv (.t 4)),oq 10 (.bin .add (.t 9) (.v (.int .i64 2))),oq 4 (.mv (.t 10))]) .skip)) (.seq (.ops [ oq 11 (.mv (.t 0)),oq 12 (.mv (.t 4)),oq 13 (.fa 0 (.t 3)),oq 14 (.ld none (.t 13)),oq 15 (.bin .mul (.v (.int .i64 4)) (.t 14)),oq 16 (.bin .add (.t 12) (.t 15)),oq 17 (.conv .u64 (.t 16)),oe 18 (.call 50 [(.t 11),(.t 17)])]) (.ops [ oq 19 (.mv (.t 0)),oq 20 (.fa 1 (.t 3)),oq 21 (.ld none (.t 20)),oq 22 (.conv .u64 (.t 21)),oe 23 (.call 50 [(.t 19),(.t 22)])])))))
@[go_sem] def c53_16_wp:=wp_of c53_16.eq_1
def c53:AFn:=⟨24,[],c53_16⟩
theorem c53_ok:compF Tryz.prog Tryz.f53=some c53:=by kernel_rfl
theorem a53 {args:List AV} {σ:ASt} {R:AV->ASt->Prop} (hl:args.length<=24) (h:c53_16.wp Tryz.prog (RetQ [] R) (init args) σ):ACalls Tryz.prog 53 args σ R:=acalls_of Tryz.func53 c53_ok hl h
end Go.A
