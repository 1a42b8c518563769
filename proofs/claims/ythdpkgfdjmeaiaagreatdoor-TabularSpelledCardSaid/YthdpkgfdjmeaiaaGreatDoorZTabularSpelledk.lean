/- Part 11 of what TabularSpelled leans on: Em CodeEn En CodeEo Eo Ep Sz CodeEr Er Es Qi CodeKu Ku Ms Mv Mw Mx. -/
import Derived.Test.YthdpkgfdjmeaiaaGreatDoorProg
import Derived.KernelRfl
import Derived.Test.YthdpkgfdjmeaiaaGreatDoorRows
import Derived.ProofKit
import Derived.LaidMore
import Derived.OpenShut
import Derived.Stop.LaidErr
import Derived.MakeChecks
import Derived.SevenTiedAt
import Derived.Lay
import Derived.ChangeArms
import Derived.Lib.LaidU8
import Derived.Lib.LaidTab
import Derived.Shelf.Vars
import Derived.HandedShaped
import Derived.Test.YthdpkgfdjmeaiaaGreatDoorZTabularSpelledj
set_option linter.defProp false
set_option linter.unusedSimpArgs false
set_option linter.unusedVariables false
set_option maxRecDepth 100000
namespace Go.A
open Go.Proofs Go.Lib Go.Vint
def absN (r:Ref):Nat:=(if r.absRow=true then 1 else 0)+(if r.absCol=true then 2 else 0)
def rfB (r:Ref):List UInt8:=uintB (absN r+4*r.row.toNat)++uintB r.col.toNat
def restB (op n:Int) (s:List UInt8) (a b:Ref) (k:Nat):List UInt8:=
 if op=1\/op=3\/op=4 then uintB (foldI n).toNat else if op=2 then textB s else if op=5 then rfB a else if op=6 then rfB a++rfB b else if op=22 then textB s++uintB k else []
mutual
def Nd.bytes:Nd->List UInt8
 | .mk op n s a b kids=>uintB op.toNat++restB op n s a b kids.length++Nd.bytess kids
def Nd.bytess:List Nd->List UInt8
 | [] => []
 | x::xs=>x.bytes++Nd.bytess xs
end
def arity (op:Int):Nat:=if op=7\/op=8\/op=9 then 1 else if 10<=op/\op<=21 then 2 else 0
def nameOkP (s:List UInt8):Bool:=decide ((lexP s).2.2=0) && (decide ((lexP s).1.length=2) && match (lexP s).1 with
 | t::_=>decide (t.kind=3) && decide (t.text=s)
 | []=>false)
structure GdN (op n:Int) (s:List UInt8) (a b:Ref) (k:Nat):Prop where
 op1:1<=op
 op2:op<=23
 n1:op=1->0<=n/\n<=999999999999999999
 n3:op=3->n=0\/n=1
 n4:op=4->n.tmod 10000=0/\10000<=n/\n<=70000
 n0:op≠1->op≠3->op≠4->n=0
 s2:op=2->s.length<=2000/\(sgT s).isSome=true
 s22:op=22->s.length<=2000/\nameOkP s=true/\k<=2000
 s0:op≠2->op≠22->s = []
 ga:op=5\/op=6->a.good=true
 a0:op≠5->op≠6->a = .zero
 gb:op=6->b.good=true
 b0:op≠6->b = .zero
 ar:op≠22->k=arity op
mutual
def Nd.wd:Nd->Prop
 | .mk op n s a b kids=>GdN op n s a b kids.length/\Nd.wds kids
def Nd.wds:List Nd->Prop
 | []=>True
 | x::xs=>x.wd/\Nd.wds xs
end
theorem Nd.wds_mem:∀ {l:List Nd},Nd.wds l↔∀ x∈l,x.wd
 | []=>by simp [Nd.wds]
 | y::l=>by rw [Nd.wds,Nd.wds_mem (l:=l)];simp
theorem GdN.num {op n:Int} {s:List UInt8} {a b:Ref} {k:Nat} (h:GdN op n s a b k):0<=n/\n<=999999999999999999:=by
 have h1:=h.n1
 have h3:=h.n3
 have h4:=h.n4
 have h0:=h.n0
 by_cases e1:op=1
 ·exact h1 e1
 by_cases e3:op=3
 ·have:=h3 e3;omega
 by_cases e4:op=4
 ·have:=h4 e4;omega
 ·have:=h0 e1 e3 e4;omega
theorem arity_le (op:Int):arity op<=2:=by
 unfold arity
 repeat' split
 all_goals omega
theorem GdN.kids {op n:Int} {s:List UInt8} {a b:Ref} {k:Nat} (h:GdN op n s a b k):k<=2000:=by
 by_cases e:op=22
 ·exact (h.s22 e).2.2
 ·have:=h.ar e;have:=arity_le op;omega
theorem good_bd {r:Ref} (h:r.good=true):0<=r.row/\r.row<3000/\0<=r.col/\r.col<700:=by
 unfold Ref.good at h
 exact of_decide_eq_true h
theorem bytess_take {x:Nd}:∀ {l:List Nd} {i:Nat},l[i]? = some x->Nd.bytess (l.take (i+1))=Nd.bytess (l.take i)++x.bytes
 | [],i,h=>by simp at h
 | y::l,0,h=>by simp at h;subst h;simp [Nd.bytess]
 | y::l,i+1,h=>by
   simp only [List.getElem?_cons_succ] at h
   rw [List.take_succ_cons,List.take_succ_cons,Nd.bytess,Nd.bytess,bytess_take h,List.append_assoc]
theorem bytess_le:∀ (l:List Nd) (i:Nat),(Nd.bytess (l.take i)).length<=(Nd.bytess l).length
 | [],i=>by simp [Nd.bytess]
 | y::l,0=>by simp [Nd.bytess]
 | y::l,i+1=>by rw [List.take_succ_cons,Nd.bytess,Nd.bytess,List.length_append,List.length_append];have:=bytess_le l i;omega
theorem putref_ok (r:Ref) (hr:r.good=true) (σ0:ASt) (b:Nat) (l:List UInt8) (σ:ASt) (hW:W σ0 b l σ) (hl:l.length+(rfB r).length<=1000000) :
  ACalls Tryz.prog 53 [.ptr b 0,refAV r] σ fun v σ'=>v = .tuple []/\W σ0 b (l++rfB r) σ':=by
 obtain ⟨r1,r2,r3,r4⟩:=good_bd hr
 obtain ⟨row,col,ar,ac⟩:=r
 dsimp only at r1 r2 r3 r4
 have key:∀ q:Int,0<=q->q<=3->IntKind.wrap .u64 (q+4*row)=q+4*row/\IntKind.wrap .u64 (4*row)=4*row/\IntKind.wrap .u64 col=col:=fun q h0 h1=>by
  rw [IntKind.wrap_u64,IntKind.wrap_u64,IntKind.wrap_u64];omega
 obtain ⟨U,hU⟩:∃ U:Int,((absN ⟨row,col,ar,ac⟩:Nat):Int)+4*row=U:=⟨_,rfl⟩
 have hrf:rfB ⟨row,col,ar,ac⟩=uintB U.toNat++uintB col.toNat:=by
  unfold rfB
  rw [show absN ⟨row,col,ar,ac⟩+4*row.toNat=U.toNat by omega]
 rw [hrf] at hl ⊢
 rw [List.length_append] at hl
 have hadd:=fun (c:Nat) (hc:σ c=none) (r:Role)=>hW.add (r:=r) hc
 unfold refAV
 cases ar<;>cases ac
 all_goals
  have hU':=hU
  unfold absN at hU'
  simp only [Bool.false_eq_true,if_false,if_true,Nat.zero_add,Nat.add_zero,Nat.reduceAdd] at hU'
  clear hU hrf
  have hb:0<=U/\U<=20000:=by omega
  have hw0:=(key 0 (by omega) (by omega)).2.2
  refine a53 (by simp) ?_
  simp (disch:=first|assumption|omega) only [go_sem]
  refine boxC_by rfl fun c hc=>?_
  have hadd:=hadd c hc
  simp (disch:=first|assumption|omega) only [go_sem,reduceCtorEq,Nat.reduceEqDiff,↓reduceIte,Int.reduceAdd]
  refine ACalls.of_eq (congrArg (fun x => [AV.ptr b 0,AV.int .u64 x]) (show _=U by omega)) ?_
  refine (wuint_ok _ b U l _ (hadd _).1 (by omega) (by omega) (by omega)).mono ?_
  rintro v σ1 ⟨rfl,hW1⟩
  have hc1:=hW1.role (hadd (.obj [])).2.1
  simp (disch:=first|assumption|omega) only [go_sem,reduceCtorEq,Nat.reduceEqDiff,↓reduceIte,hc1,hw0]
  refine (wuint_ok _ b col _ _ hW1 (by omega) (by omega) (by rw [List.length_append];omega)).mono ?_
  rintro v σ2 ⟨rfl,hW2⟩
  rw [List.append_assoc] at hW2
  obtain ⟨σ3,hd,hW3,_⟩:=hW2.off (hadd (.obj [])).2.1 (hadd (.obj [])).2.2
  simp (disch:=first|assumption|omega) only [go_sem]
  exact retC_by hd (.refl _) ⟨rfl,hW3⟩
theorem ewrite_le:∀ (k:Nat) (n:Nd),n.size<=k->n.wd->∀ (σ0:ASt) (b:Nat) (l:List UInt8) (σ:ASt),W σ0 b l σ->l.length+n.bytes.length<=900000 →
  ACalls Tryz.prog 22 [.ptr b 0,n.av] σ fun v σ'=>v = .tuple []/\W σ0 b (l++n.bytes) σ'
 | 0,n,hk,_=>by have:=n.size_pos;omega
 | k+1,n,hk,hg=>by
   intro σ0 b l σ hW hl
   have ih:=ewrite_le k
   obtain ⟨op,m,s,a,d,kids⟩:=n
   rw [Nd.size] at hk
   rw [Nd.wd] at hg
   obtain ⟨hg,hgs⟩:=hg
   have hm:=hg.num
   have o1:=hg.op1
   have o2:=hg.op2
   have hkl:=hg.kids
   rw [Nd.bytes] at hl ⊢
   rw [Nd.av_cs]
   rw [List.length_append,List.length_append] at hl
   have hops:=uintB_le (u:=op) (by omega)
   have hms:=uintB_le (u:=foldI m) (by have:=foldI_bd (n:=m) (by omega) (by omega);omega)
   have hfold:=foldI_bd (n:=m) (by omega) (by omega)
   have hw64:IntKind.wrap .u64 op=op:=by rw [IntKind.wrap_u64];omega
   have hklw:IntKind.wrap .u64 (kids.length:Int)=kids.length:=by rw [IntKind.wrap_u64];omega
   obtain ⟨F,hF⟩:∃ F,F=ACode.wp Tryz.prog c22_48:=⟨_,rfl⟩
   obtain ⟨H,hH⟩:∃ H,uintB op.toNat++restB op m s a d kids.length=H:=⟨_,rfl⟩
   have hHl:H.length=(uintB op.toNat).length+(restB op m s a d kids.length).length:=by rw [<-hH,List.length_append]
   have hlH:l.length+H.length+(Nd.bytess kids).length<=900000:=by omega
   rw [hH]
   obtain ⟨Q,hQ⟩:∃ Q,Q=RetQ [] fun v σ'=>v=AV.tuple []/\W σ0 b (l++(H++Nd.bytess kids)) σ':=⟨_,rfl⟩
   have fin:∀ (c:Nat) (σ1:ASt) (a1:AFr),c≠b->σ0 c=none->W (σ0.set c (some (.obj (Nd.cs op m s a d (kids.map Nd.av))))) b (l++H) σ1->(a1 0 = .ptr b 0/\a1 3 = .ptr c 0)->F Q a1 σ1:=by
    intro c σ1 a1 hcb hc0 hW1 hf
    have hc1:=hW1.role hcb
    rw [hF]
    simp (disch:=first|assumption|omega) only [go_sem,↓reduceIte,hf,hc1]
    obtain ⟨σ3,hd3,hW3,_⟩:=hW1.off hcb hc0
    refine wp_loop_by (fun (i:Nat) a1 s2=>i<=kids.length/\(a1 0 = .ptr b 0/\a1 56 = .sl .shr (kids.map Nd.av)/\a1 57 = .int .i64 kids.length/\a1 58 = .int .i64 i)/\W σ0 b (l++H++Nd.bytess (kids.take i)) s2) (fun i=>kids.length-i) 0 (Dr.drop hd3 ⟨Nat.zero_le _,?_,by rw [List.take_zero,Nd.bytess,List.append_nil];exact hW3⟩) ?_
    ·simp (disch:=first|assumption|omega) only [go_sem,reduceCtorEq,Nat.reduceEqDiff,↓reduceIte,hf]
    rintro i a2 s2 ⟨hi,hf2,hW2⟩
    by_cases hlt:i<kids.length
    ·have hlt':(i:Int)<kids.length:=by omega
     have hx : kids[i]? = some (kids[i]'hlt) := List.getElem?_eq_getElem hlt
     have hmem:=List.getElem_mem hlt
     obtain ⟨x, hxe⟩ : ∃ x, kids[i]'hlt = x := ⟨_, rfl⟩
     rw [hxe] at hx hmem
     have hmx:=Nd.get hx
     have hsz:=Nd.size_kid hmem
     have hih:=ih x (by omega) (Nd.wds_mem.1 hgs x hmem)
     have hbt:=bytess_take hx
     have hbl:=bytess_le kids (i+1)
     rw [hbt,List.length_append] at hbl
     obtain ⟨xo,xm,xs,xa,xb,xk⟩:=x
     rw [Nd.av_cs] at hmx hih
     generalize xk.map Nd.av=XK at *
     generalize kids.map Nd.av=KL at *
     generalize Nd.bytes (.mk xo xm xs xa xb xk)=XB at *
     simp (disch:=first|assumption|omega) only [go_sem,Nat.reduceEqDiff,Nat.reduceLeDiff,↓reduceIte,hf2,hlt',hmx]
     refine allocC_by fun e he=>?_
     obtain ⟨hWe,heb,he0⟩:=hW2.add he (r := .obj (Nd.cs xo xm xs xa xb XK))
     simp (disch:=first|assumption|omega) only [go_sem,reduceCtorEq,Nat.reduceEqDiff,Nat.reduceAdd,Nat.reduceLeDiff,↓reduceIte,hf2,ASt.set_set]
     refine (hih _ b _ _ hWe (by rw [List.length_append,List.length_append];omega)).mono ?_
     rintro v σ4 ⟨rfl,hW4⟩
     obtain ⟨σ5,hd5,hW5,_⟩:=hW4.off heb he0
     simp (disch:=first|assumption|omega) only [go_sem,Nat.reduceEqDiff,↓reduceIte,hf2]
     refine ⟨i+1,by dsimp only;omega,Dr.drop hd5 ⟨by omega,?_,by rw [hbt,← List.append_assoc];exact hW5⟩⟩
     simp (disch:=first|assumption|omega) only [go_sem,reduceCtorEq,Nat.reduceEqDiff,↓reduceIte,hf2]
    ·have hlt':¬ (i:Int)<kids.length:=by omega
     rw [List.take_of_length_le (by omega)] at hW2
     rw [hQ]
     simp (disch:=first|assumption|omega) only [go_sem,↓reduceIte,hf2,hlt']
     exact retC_by (Drop.refl _) (.refl _) ⟨rfl,by rw [<-List.append_assoc];exact hW2⟩
   have hadd:=fun (c:Nat) (hc:σ c=none) (r:Role)=>hW.add (r:=r) hc
   refine a22 (by simp) ?_
   rw [<-hQ]
   simp (disch:=first|assumption|omega) only [go_sem]
   refine boxC_by rfl fun c hc=>?_
   obtain ⟨hWc,hcb,hc0⟩:=hW.add hc (r := .obj (Nd.cs op m s a d (kids.map Nd.av)))
   have hkm:(kids.map Nd.av).length=kids.length:=by simp
   generalize kids.map Nd.av=KL at *
   simp (disch:=first|assumption|omega) only [go_sem,reduceCtorEq,Nat.reduceEqDiff,↓reduceIte,hw64]
   refine (wuint_ok _ b op l _ hWc (by omega) (by omega) (by omega)).mono ?_
   rintro v σ1 ⟨rfl,hW1⟩
   have hc1:=hW1.role hcb
   have hcd:0<=op/\op<=23:=by omega
   by_cases h134:op=1\/op=3\/op=4
   ·have hrb:restB op m s a d kids.length=uintB (foldI m).toNat:=if_pos h134
    rw [hrb] at hH hHl
    have fin:=fin c
    rcases h134 with h1|h1|h1
    all_goals
     simp (disch:=first|assumption|omega) only [go_sem,reduceCtorEq,Nat.reduceEqDiff,Int.reduceEq,↓reduceIte,hc1,h1,←hF]
     refine (wint_ok _ b m _ _ hW1 (by omega) (by omega) (by rw [List.length_append];omega)).mono ?_
     rintro v σ2 ⟨rfl,hW2⟩
     rw [List.append_assoc,hH] at hW2
     simp (disch:=first|assumption|omega) only [go_sem]
     refine fin _ _ hcb hc0 hW2 ?_
     simp (disch:=first|assumption|omega) only [go_sem,reduceCtorEq,Nat.reduceEqDiff,↓reduceIte]
   have g1:op≠1:=by omega
   have g3:op≠3:=by omega
   have g4:op≠4:=by omega
   by_cases h2:op=2
   ·have hrb:restB op m s a d kids.length=textB s:=by unfold restB;rw [if_neg h134,if_pos h2]
    rw [hrb] at hH hHl
    have hsl:=(hg.s2 h2).1
    simp (disch:=first|assumption|omega) only [go_sem,reduceCtorEq,Nat.reduceEqDiff,Int.reduceEq,↓reduceIte,hc1,h2,←hF]
    refine (wtext_ok _ b s _ _ hW1 (by rw [List.length_append];omega)).mono ?_
    rintro v σ2 ⟨rfl,hW2⟩
    rw [List.append_assoc,hH] at hW2
    simp (disch:=first|assumption|omega) only [go_sem]
    refine fin c _ _ hcb hc0 hW2 ?_
    simp (disch:=first|assumption|omega) only [go_sem,reduceCtorEq,Nat.reduceEqDiff,↓reduceIte]
   by_cases h5:op=5
   ·have hrb:restB op m s a d kids.length=rfB a:=by unfold restB;rw [if_neg h134,if_neg h2,if_pos h5]
    rw [hrb] at hH hHl
    simp (disch:=first|assumption|omega) only [go_sem,reduceCtorEq,Nat.reduceEqDiff,Nat.reduceAdd,Nat.reduceLeDiff,Int.reduceEq,↓reduceIte,hc1,h5,←hF]
    refine (putref_ok a (hg.ga (.inl h5)) _ b _ _ hW1 (by rw [List.length_append];omega)).mono ?_
    rintro v σ2 ⟨rfl,hW2⟩
    rw [List.append_assoc,hH] at hW2
    simp (disch:=first|assumption|omega) only [go_sem]
    refine fin c _ _ hcb hc0 hW2 ?_
    simp (disch:=first|assumption|omega) only [go_sem,reduceCtorEq,Nat.reduceEqDiff,↓reduceIte]
   by_cases h6:op=6
   ·have hrb:restB op m s a d kids.length=rfB a++rfB d:=by unfold restB;rw [if_neg h134,if_neg h2,if_neg h5,if_pos h6]
    rw [hrb] at hH hHl
    rw [List.length_append] at hHl
    simp (disch:=first|assumption|omega) only [go_sem,reduceCtorEq,Nat.reduceEqDiff,Nat.reduceAdd,Nat.reduceLeDiff,Int.reduceEq,↓reduceIte,hc1,h6,←hF]
    refine (putref_ok a (hg.ga (.inr h6)) _ b _ _ hW1 (by rw [List.length_append];omega)).mono ?_
    rintro v σ2 ⟨rfl,hW2⟩
    have hc2:=hW2.role hcb
    simp (disch:=first|assumption|omega) only [go_sem,reduceCtorEq,Nat.reduceEqDiff,Nat.reduceAdd,Nat.reduceLeDiff,↓reduceIte,hc2]
    refine (putref_ok d (hg.gb h6) _ b _ _ hW2 (by rw [List.length_append,List.length_append];omega)).mono ?_
    rintro v σ3 ⟨rfl,hW3⟩
    rw [List.append_assoc,List.append_assoc,hH] at hW3
    simp (disch:=first|assumption|omega) only [go_sem]
    refine fin c _ _ hcb hc0 hW3 ?_
    simp (disch:=first|assumption|omega) only [go_sem,reduceCtorEq,Nat.reduceEqDiff,↓reduceIte]
   by_cases h22:op=22
   ·have hrb:restB op m s a d kids.length=textB s++uintB kids.length:=by unfold restB;rw [if_neg h134,if_neg h2,if_neg h5,if_neg h6,if_pos h22]
    rw [hrb] at hH hHl
    rw [List.length_append] at hHl
    have hsl:=(hg.s22 h22).1
    have e1:((kids.length:Int)).toNat=kids.length:=by omega
    simp (disch:=first|assumption|omega) only [go_sem,reduceCtorEq,Nat.reduceEqDiff,Int.reduceEq,↓reduceIte,hc1,h22,←hF]
    refine (wtext_ok _ b s _ _ hW1 (by rw [List.length_append];omega)).mono ?_
    rintro v σ2 ⟨rfl,hW2⟩
    have hc2:=hW2.role hcb
    simp (disch:=first|assumption|omega) only [go_sem,reduceCtorEq,Nat.reduceEqDiff,↓reduceIte,hc2,hkm]
    refine (wuint_ok _ b kids.length _ _ hW2 (by omega) (by omega) (by rw [e1,List.length_append,List.length_append];omega)).mono ?_
    rintro v σ3 ⟨rfl,hW3⟩
    rw [e1,List.append_assoc,List.append_assoc,hH] at hW3
    simp (disch:=first|assumption|omega) only [go_sem]
    refine fin c _ _ hcb hc0 hW3 ?_
    simp (disch:=first|assumption|omega) only [go_sem,reduceCtorEq,Nat.reduceEqDiff,↓reduceIte]
   have hrb:restB op m s a d kids.length = []:=by unfold restB;rw [if_neg h134,if_neg h2,if_neg h5,if_neg h6,if_neg h22]
   rw [hrb,List.append_nil] at hH
   rw [hH] at hW1
   simp (disch:=first|assumption|omega) only [go_sem,Nat.reduceEqDiff,↓reduceIte,hc1,g1,g3,g4,h2,h5,h6,h22,←hF]
   refine fin c _ _ hcb hc0 hW1 ?_
   simp (disch:=first|assumption|omega) only [go_sem,reduceCtorEq,Nat.reduceEqDiff,↓reduceIte]
theorem ewrite_ok (n:Nd) (hg:n.wd) (σ0:ASt) (b:Nat) (l:List UInt8) (σ:ASt) (hW:W σ0 b l σ) (hl:l.length+n.bytes.length<=900000) :
  ACalls Tryz.prog 22 [.ptr b 0,n.av] σ fun v σ'=>v = .tuple []/\W σ0 b (l++n.bytes) σ':=ewrite_le n.size n (Nat.le_refl _) hg σ0 b l σ hW hl
end Go.A
namespace Go.A
open Go.Proofs
/-! 88: tabular/expr.kids -/
def c88_15:ACode := .seq (.ops [ oq 2 (.mv (.v (.int .i64 0)))]) (.seq (.block 0 (.seq (.ops [ oq 4 (.mv (.t 0)),oq 5 (.bin .eql (.t 4) (.v (.int .i64 7))),oq 6 (.mv (.t 5)),⟨some 7,some (6,false),.q (.mv (.t 0)),[]⟩,⟨some 8,some (6,false),.q (.bin .eql (.t 7) (.v (.int .i64 8))),[]⟩,oq 9 (.pick (.t 6) (.v (.bool true)) (.t 8)),oq 10 (.mv (.t 9)),⟨some 11,some (10,false),.q (.mv (.t 0)),[]⟩,⟨some 12,some (10,false),.q (.bin .eql (.t 11) (.v (.int .i64 9))),[]⟩,oq 13 (.pick (.t 10) (.v (.bool true)) (.t 12)),oq 3 (.mv (.t 13))]) (.cond (.t 3) (.seq (.ops [ oq 2 (.mv (.v (.int .i64 1)))]) .ret) (.seq (.ops [ oq 15 (.mv (.t 0)),oq 16 (.bin .geq (.t 15) (.v (.int .i64 10))),oq 17 (.mv (.t 16)),⟨some 18,some (17,true),.q (.mv (.t 0)),[]⟩,⟨some 19,some (17,true),.q (.bin .lss (.t 18) (.v (.int .i64 22))),[]⟩,oq 20 (.pick (.t 17) (.t 19) (.v (.bool false))),oq 14 (.mv (.t 20))]) (.cond (.t 14) (.seq (.ops [ oq 2 (.mv (.v (.int .i64 2)))]) .ret) .skip))))) (.seq (.ops [ oq 2 (.mv (.v (.int .i64 0)))]) .ret))
@[go_sem] def c88_15_wp:=wp_of c88_15.eq_1
def c88:AFn:=⟨21,[.t 2],c88_15⟩
theorem c88_ok:compF Tryz.prog Tryz.f88=some c88:=by kernel_rfl
theorem a88 {args:List AV} {σ:ASt} {R:AV->ASt->Prop} (hl:args.length<=21) (h:c88_15.wp Tryz.prog (RetQ [.t 2] R) (init args) σ):ACalls Tryz.prog 88 args σ R:=acalls_of Tryz.func88 c88_ok hl h
/-! 90: tabular/expr.value -/
def c90_17:ACode := .seq (.ops [ oe 1 (.box (.t 0)),oq 2 (.mv (.v (.bool false)))]) (.seq (.seq (.ops [ oq 3 (.fa 0 (.t 1)),oq 4 (.ld none (.t 3))]) (.block 0 (.seq (.ops [ oq 6 (.bin .eql (.t 4) (.v (.int .i64 3))),oq 5 (.mv (.t 6))]) (.cond (.t 5) (.seq (.ops [ oq 7 (.fa 1 (.t 1)),oq 8 (.ld none (.t 7)),oq 9 (.bin .eql (.t 8) (.v (.int .i64 0))),oq 10 (.mv (.t 9)),⟨some 11,some (10,false),.q (.fa 1 (.t 1)),[]⟩,⟨some 12,some (10,false),.q (.ld none (.t 11)),[]⟩,⟨some 13,some (10,false),.q (.bin .eql (.t 12) (.v (.int .i64 1))),[]⟩,oq 14 (.pick (.t 10) (.v (.bool true)) (.t 13)),oq 2 (.mv (.t 14))]) .ret) (.seq (.ops [ oq 16 (.bin .eql (.t 4) (.v (.int .i64 4))),oq 15 (.mv (.t 16))]) (.cond (.t 15) (.seq (.ops [ oq 17 (.fa 1 (.t 1)),oq 18 (.ld none (.t 17)),oe 19 (.call 124 [(.t 18)]),oq 20 (.mv (.t 19)),⟨some 21,some (20,true),.q (.ld (some 12) (.t 1)),[]⟩,⟨some 22,some (20,true),.e (.call 80 [(.t 21)]),[]⟩,⟨some 23,some (20,true),.q (.bin .neq (.t 22) (.v (.str []))),[]⟩,oq 24 (.pick (.t 20) (.t 23) (.v (.bool false))),oq 2 (.mv (.t 24))]) .ret) .skip)))))) (.seq (.ops [ oq 25 (.fa 1 (.t 1)),oq 26 (.ld none (.t 25)),oq 27 (.bin .geq (.t 26) (.v (.int .i64 0))),oq 28 (.mv (.t 27)),⟨some 29,some (28,true),.q (.fa 1 (.t 1)),[]⟩,⟨some 30,some (28,true),.q (.ld none (.t 29)),[]⟩,⟨some 31,some (28,true),.e (.call 125 [(.t 30)]),[]⟩,oq 32 (.pick (.t 28) (.t 31) (.v (.bool false))),oq 2 (.mv (.t 32))]) .ret))
@[go_sem] def c90_17_wp:=wp_of c90_17.eq_1
def c90:AFn:=⟨33,[.t 2],c90_17⟩
theorem c90_ok:compF Tryz.prog Tryz.f90=some c90:=by kernel_rfl
theorem a90 {args:List AV} {σ:ASt} {R:AV->ASt->Prop} (hl:args.length<=33) (h:c90_17.wp Tryz.prog (RetQ [.t 2] R) (init args) σ):ACalls Tryz.prog 90 args σ R:=acalls_of Tryz.func90 c90_ok hl h
/-! 92: tabular/token.Signs -/
def c92_21:ACode := .seq (.ops [ oe 11 (.nxt (.t 10)),oq 12 (.ext 0 (.t 11))]) (.seq (.cond (.t 12) .skip (.exit 0)) (.block 1 (.seq (.ops [ oq 13 (.ext 1 (.t 11)),oq 14 (.ext 2 (.t 11)),oq 5 (.mv (.t 13)),oq 6 (.mv (.t 14))]) (.seq (.seq (.ops [ oq 15 (.mv (.t 6)),oq 16 (.bin .eql (.t 15) (.v (.int .i32 65533)))]) (.cond (.t 16) (.seq (.ops [ oq 18 (.mv (.t 0)),oq 19 (.mv (.t 5)),oq 20 (.slfrom (true,0) (.t 18) (.t 19)),oe 21 (.call 126 [(.t 20)]),oq 17 (.mv (.t 21)),oq 22 (.ext 0 (.t 17)),oq 23 (.ext 1 (.t 17)),oq 7 (.mv (.t 22)),oq 8 (.mv (.t 23))]) (.seq (.ops [ oq 24 (.mv (.t 8)),oq 25 (.bin .eql (.t 24) (.v (.int .i64 1)))]) (.cond (.t 25) (.seq (.ops [ oq 2 (.mv (.v (.int .i64 0))),oq 3 (.mv (.v (.bool false)))]) .ret) .skip))) .skip)) (.ops [ oq 26 (.mv (.t 4)),oq 27 (.bin .add (.t 26) (.v (.int .i64 1))),oq 4 (.mv (.t 27))])))))
def c92_26:ACode := .seq (.ops [ oq 28 (.mv (.t 4)),oq 2 (.mv (.t 28)),oq 3 (.mv (.v (.bool true)))]) .ret
def c92_29:ACode := .seq (.ops [ oq 2 (.mv (.v (.int .i64 0))),oq 3 (.mv (.v (.bool false)))]) (.seq (.ops [ oq 4 (.mv (.v (.int .i64 0)))]) (.seq (.seq (.ops [ oq 9 (.mv (.t 0)),oe 10 (.rng (.t 9))]) (.block 0 (.loop c92_21))) c92_26))
@[go_sem] def c92_21_wp:=wp_of c92_21.eq_1
@[go_sem] def c92_26_wp:=wp_of c92_26.eq_1
@[go_sem] def c92_29_wp:=wp_of c92_29.eq_1
def c92:AFn:=⟨29,[.t 2,.t 3],c92_29⟩
theorem c92_ok:compF Tryz.prog Tryz.f92=some c92:=by kernel_rfl
theorem a92 {args:List AV} {σ:ASt} {R:AV->ASt->Prop} (hl:args.length<=29) (h:c92_29.wp Tryz.prog (RetQ [.t 2,.t 3] R) (init args) σ):ACalls Tryz.prog 92 args σ R:=acalls_of Tryz.func92 c92_ok hl h
/-! 93: tabular/expr.getRef -/
def c93_11:ACode := .seq (.ops [ oe 2 (.alloc [(.int .i64 0),(.int .i64 0),(.bool false),(.bool false)]),oq 3 (.mv (.v (.bool false)))]) (.seq (.ops [ oq 6 (.mv (.t 0)),oe 7 (.call 86 [(.t 6)]),oq 8 (.mv (.t 0)),oe 9 (.call 86 [(.t 8)]),oq 4 (.mv (.t 7)),oq 5 (.mv (.t 9))]) (.seq (.seq (.ops [ oq 10 (.mv (.t 4)),oq 11 (.bin .geq (.t 10) (.v (.int .u64 12000))),oq 12 (.mv (.t 11)),⟨some 13,some (12,false),.q (.mv (.t 5)),[]⟩,⟨some 14,some (12,false),.q (.bin .geq (.t 13) (.v (.int .u64 700))),[]⟩,oq 15 (.pick (.t 12) (.v (.bool true)) (.t 14))]) (.cond (.t 15) (.seq (.ops [ oq 16 (.build [(.int .i64 0),(.int .i64 0),(.bool false),(.bool false)] []),oz (.store 4 (.t 2) (.t 16)),oq 3 (.mv (.v (.bool false)))]) .ret) .skip)) (.seq (.ops [ oq 17 (.mv (.t 4)),oq 18 (.bin .quo (.t 17) (.v (.int .u64 4))),oq 19 (.conv .i64 (.t 18)),oq 20 (.mv (.t 5)),oq 21 (.conv .i64 (.t 20)),oq 22 (.mv (.t 4)),oq 23 (.bin .and (.t 22) (.v (.int .u64 1))),oq 24 (.bin .eql (.t 23) (.v (.int .u64 1))),oq 25 (.mv (.t 4)),oq 26 (.bin .and (.t 25) (.v (.int .u64 2))),oq 27 (.bin .eql (.t 26) (.v (.int .u64 2))),oq 28 (.build [(.int .i64 0),(.int .i64 0),(.bool false),(.bool false)] [(0,1,(.t 19)),(1,1,(.t 21)),(2,1,(.t 24)),(3,1,(.t 27))]),oz (.store 4 (.t 2) (.t 28)),oq 3 (.mv (.v (.bool true)))]) .ret)))
@[go_sem] def c93_11_wp:=wp_of c93_11.eq_1
def c93:AFn:=⟨29,[.c 2 (some 4),.t 3],c93_11⟩
theorem c93_ok:compF Tryz.prog Tryz.f93=some c93:=by kernel_rfl
theorem a93 {args:List AV} {σ:ASt} {R:AV->ASt->Prop} (hl:args.length<=29) (h:c93_11.wp Tryz.prog (RetQ [.c 2 (some 4),.t 3] R) (init args) σ):ACalls Tryz.prog 93 args σ R:=acalls_of Tryz.func93 c93_ok hl h
/-! 94: tabular/expr.name -/
def c94_5:ACode := .seq (.ops [ oq 2 (.mv (.v (.bool false)))]) (.seq (.ops [ oq 7 (.mv (.t 0)),oe 8 (.call 31 [(.t 7)]),oq 6 (.mv (.t 8)),oq 9 (.ext 0 (.t 6)),oq 10 (.ext 1 (.t 6)),oq 11 (.ext 2 (.t 6)),oq 3 (.mv (.t 9)),oq 4 (.mv (.t 10)),oq 5 (.mv (.t 11))]) (.seq (.ops [ oq 12 (.mv (.t 5)),oq 13 (.bin .eql (.t 12) (.v (.int .i64 0))),oq 14 (.mv (.t 13)),⟨some 15,some (14,true),.q (.mv (.t 3)),[]⟩,⟨some 16,some (14,true),.q (.len (.t 15)),[]⟩,⟨some 17,some (14,true),.q (.bin .eql (.t 16) (.v (.int .i64 2))),[]⟩,oq 18 (.pick (.t 14) (.t 17) (.v (.bool false))),oq 19 (.mv (.t 18)),⟨some 20,some (19,true),.q (.mv (.t 3)),[]⟩,⟨some 21,some (19,true),.q (.ia 4 (.t 20) (.v (.int .i64 0))),[]⟩,⟨some 22,some (19,true),.q (.fa 0 (.t 21)),[]⟩,⟨some 23,some (19,true),.q (.ld none (.t 22)),[]⟩,⟨some 24,some (19,true),.q (.bin .eql (.t 23) (.v (.int .i64 3))),[]⟩,oq 25 (.pick (.t 19) (.t 24) (.v (.bool false))),oq 26 (.mv (.t 25)),⟨some 27,some (26,true),.q (.mv (.t 3)),[]⟩,⟨some 28,some (26,true),.q (.ia 4 (.t 27) (.v (.int .i64 0))),[]⟩,⟨some 29,some (26,true),.q (.fa 1 (.t 28)),[]⟩,⟨some 30,some (26,true),.q (.ld none (.t 29)),[]⟩,⟨some 31,some (26,true),.q (.mv (.t 0)),[]⟩,⟨some 32,some (26,true),.q (.bin .eql (.t 30) (.t 31)),[]⟩,oq 33 (.pick (.t 26) (.t 32) (.v (.bool false))),oq 2 (.mv (.t 33))]) .ret))
@[go_sem] def c94_5_wp:=wp_of c94_5.eq_1
def c94:AFn:=⟨34,[.t 2],c94_5⟩
theorem c94_ok:compF Tryz.prog Tryz.f94=some c94:=by kernel_rfl
theorem a94 {args:List AV} {σ:ASt} {R:AV->ASt->Prop} (hl:args.length<=34) (h:c94_5.wp Tryz.prog (RetQ [.t 2] R) (init args) σ):ACalls Tryz.prog 94 args σ R:=acalls_of Tryz.func94 c94_ok hl h
end Go.A
namespace Go.A
open Go.Proofs Go.Lib Go.Vint
theorem tsigns_ok {σ:ASt} (h:U8 σ) (s:List UInt8) (hs:s.length<=4611686018427387904):ACalls Tryz.prog 92 [.str s] σ fun v σ'=>v=sgAV s/\σ'=σ:=by
 refine a92 (by simp) ?_
 obtain ⟨R,hR⟩:∃ R,sgT s=R:=⟨_,rfl⟩
 unfold sgAV
 rw [hR]
 obtain ⟨F,hF⟩:∃ F,F=ACode.wp Tryz.prog c92_26:=⟨_,rfl⟩
 simp (disch:=first|assumption|omega) only [go_sem,reduceCtorEq,↓reduceIte,←hF]
 refine fun b hb=>?_
 simp (disch:=first|assumption|omega) only [go_sem]
 refine wp_loop_by (fun (p:Nat) a σ'=>p<=s.length/\(∃ n:Nat,R=(sgT (s.drop p)).map (· + n)/\n<=p/\a 4 = .int .i64 n)/\(a 0 = .str s/\a 10 = .ptr b 0)/\σ'=σ.set b (some (.iter s p))) (fun p=>s.length-p) 0 (Dr.now ⟨Nat.zero_le _,⟨0,?_,Nat.le_refl _,?_⟩,?_,rfl⟩) ?_
 ·rw [<-hR,List.drop_zero];cases sgT s<;>rfl
 ·simp (disch:=first|assumption|omega) only [go_sem,Nat.reduceEqDiff,↓reduceIte]
 ·simp (disch:=first|assumption|omega) only [go_sem,reduceCtorEq,↓reduceIte]
 rintro p a σ1 ⟨hp,⟨n,hm,hn,h4⟩,hf,rfl⟩
 by_cases hlt:p<s.length
 ·have hlt':(p:Int)<s.length:=by omega
  have hne:s.drop p ≠ []:=by
   intro e
   have:=congrArg List.length e
   rw [List.length_drop] at this
   simp at this
   omega
  obtain ⟨⟨r,w⟩,hD⟩:∃ D,decodeL (s.drop p)=D:=⟨_,rfl⟩
  have hD2:Utf8.decode ⟨⟨s⟩⟩ p=(r,w):=by rw [<-hD];exact (decodeL_drop ⟨⟨s⟩⟩ p).symm
  have hw:=decodeL_width (s.drop p)
  have hwle:=decodeL_le (s.drop p) hne
  have hrb:=decodeL_rune (s.drop p)
  rw [List.length_drop] at hwle
  rw [hD] at hw hwle hrb
  dsimp only at hw hwle hrb
  by_cases hr:r=65533
  ·have hr':(r:Int)=65533:=by omega
   have hdc:=dec_ok (h.set hb (r:=some (.iter s (p+w)))) hne
   rw [hD] at hdc
   by_cases hw1:w=1
   ·have hbad:=sgT_bad hne (by rw [hD,hr,hw1])
    rw [hbad] at hm
    simp only [Option.map_none] at hm
    subst hm
    subst hw1
    have e1:((1:Nat):Int)=1:=rfl
    rw [e1] at hdc
    simp (disch:=first|assumption|omega) only [go_sem,hf]
    refine nxt_more hlt ?_
    rw [hD2]
    simp (disch:=first|assumption|omega) only [go_sem,reduceCtorEq,Nat.reduceEqDiff,↓reduceIte,hf,hr',List.take_length]
    refine hdc.mono ?_
    rintro v σ' ⟨rfl,rfl⟩
    simp (disch:=first|assumption|omega) only [go_sem,Nat.reduceEqDiff,↓reduceIte]
    exact retC_by (by repeat' (first|exact Drop.refl _|with_reducible refine Drop.off ?_ (by assumption))) (.refl _) ⟨rfl,rfl⟩
   ·have hw1':¬ (w:Int)=1:=by omega
    have hgo:=sgT_step hne (by rw [hD];intro h;injection h with _ h;exact hw1 h)
    rw [hD] at hgo
    dsimp only at hgo
    rw [hgo,List.drop_drop,Option.map_map] at hm
    simp (disch:=first|assumption|omega) only [go_sem,hf]
    refine nxt_more hlt ?_
    rw [hD2]
    simp (disch:=first|assumption|omega) only [go_sem,reduceCtorEq,Nat.reduceEqDiff,↓reduceIte,hf,hr',List.take_length]
    refine hdc.mono ?_
    rintro v σ' ⟨rfl,rfl⟩
    simp (disch:=first|assumption|omega) only [go_sem,Nat.reduceEqDiff,↓reduceIte,h4,hw1']
    refine ⟨p+w,by dsimp only;omega,Dr.now ⟨by omega,⟨n+1,?_,by omega,?_⟩,?_,rfl⟩⟩
    ·rw [hm]
     congr 1
     funext x
     simp only [Function.comp]
     omega
    ·simp (disch:=first|assumption|omega) only [go_sem,↓reduceIte]
    ·simp (disch:=first|assumption|omega) only [go_sem,reduceCtorEq,Nat.reduceEqDiff,↓reduceIte,hf]
  ·have hr':¬ (r:Int)=65533:=by omega
   have hgo:=sgT_step hne (by rw [hD];intro h;injection h with h _;exact hr h)
   rw [hD] at hgo
   dsimp only at hgo
   rw [hgo,List.drop_drop,Option.map_map] at hm
   simp (disch:=first|assumption|omega) only [go_sem,hf]
   refine nxt_more hlt ?_
   rw [hD2]
   simp (disch:=first|assumption|omega) only [go_sem,Nat.reduceEqDiff,↓reduceIte,h4,hr',ASt.set_set]
   refine ⟨p+w,by dsimp only;omega,Dr.now ⟨by omega,⟨n+1,?_,by omega,?_⟩,?_,rfl⟩⟩
   ·rw [hm]
    congr 1
    funext x
    simp only [Function.comp]
    omega
   ·simp (disch:=first|assumption|omega) only [go_sem,↓reduceIte]
   ·simp (disch:=first|assumption|omega) only [go_sem,reduceCtorEq,Nat.reduceEqDiff,↓reduceIte,hf]
 ·have hlt':¬ (p:Int)<s.length:=by omega
  rw [List.drop_eq_nil_of_le (by omega),sgT_nil] at hm
  simp only [Option.map_some,Nat.zero_add] at hm
  subst hm
  simp (disch:=first|assumption|omega) only [go_sem,hf]
  refine nxt_over (by omega) ?_
  simp (disch:=first|assumption|omega) only [go_sem,↓reduceIte]
  rw [hF]
  simp (disch:=first|assumption|omega) only [go_sem,Nat.reduceEqDiff,↓reduceIte,h4]
  exact retC_by (by repeat' (first|exact Drop.refl _|with_reducible refine Drop.off ?_ (by assumption))) (.refl _) ⟨rfl,rfl⟩
theorem ekids_ok (op:Int):Pure Tryz.prog 88 [.int .i64 op] (.int .i64 (arity op)):=by
 intro σ
 obtain ⟨q,hq⟩:∃ q:Nat,arity op=q:=⟨_,rfl⟩
 rw [hq]
 unfold arity at hq
 refine a88 (by simp) ?_
 by_cases h7:op=7
 ·rw [if_pos (by omega)] at hq
  subst hq
  simp (disch:=first|assumption|omega) only [go_sem,reduceCtorEq,Nat.reduceEqDiff,↓reduceIte,h7]
  exact retC_by (Drop.refl _) (.refl _) ⟨rfl,rfl⟩
 by_cases h8:op=8
 ·rw [if_pos (by omega)] at hq
  subst hq
  simp (disch:=first|assumption|omega) only [go_sem,reduceCtorEq,Nat.reduceEqDiff,Int.reduceEq,↓reduceIte,h8]
  exact retC_by (Drop.refl _) (.refl _) ⟨rfl,rfl⟩
 by_cases h9:op=9
 ·rw [if_pos (by omega)] at hq
  subst hq
  simp (disch:=first|assumption|omega) only [go_sem,reduceCtorEq,Nat.reduceEqDiff,Int.reduceEq,↓reduceIte,h9]
  exact retC_by (Drop.refl _) (.refl _) ⟨rfl,rfl⟩
 rw [if_neg (by omega)] at hq
 by_cases h10:10<=op
 ·by_cases h22:op<22
  ·rw [if_pos (by omega)] at hq
   subst hq
   simp (disch:=first|assumption|omega) only [go_sem,reduceCtorEq,Nat.reduceEqDiff,↓reduceIte,h7,h8,h9,h10,h22]
   exact retC_by (Drop.refl _) (.refl _) ⟨rfl,rfl⟩
  ·rw [if_neg (by omega)] at hq
   subst hq
   simp (disch:=first|assumption|omega) only [go_sem,reduceCtorEq,Nat.reduceEqDiff,↓reduceIte,h7,h8,h9,h10,h22]
   exact retC_by (Drop.refl _) (.refl _) ⟨rfl,rfl⟩
 ·rw [if_neg (by omega)] at hq
  subst hq
  simp (disch:=first|assumption|omega) only [go_sem,reduceCtorEq,Nat.reduceEqDiff,↓reduceIte,h7,h8,h9,h10]
  exact retC_by (Drop.refl _) (.refl _) ⟨rfl,rfl⟩
def refR (s:List UInt8) (p:Nat) (e:Int):(Ref×Bool)×Nat×Int:=
 (if 12000<=(readU s p e).1\/700<=(readU s (readU s p e).2.1 (readU s p e).2.2).1 then (.zero,false)
  else (⟨((readU s p e).1 / 4:Nat),((readU s (readU s p e).2.1 (readU s p e).2.2).1:Nat),decide ((readU s p e).1 % 2=1),decide ((readU s p e).1 / 2 % 2=1)⟩,true),
  (readU s (readU s p e).2.1 (readU s p e).2.2).2)
theorem bit0 {u:Nat} (h:u<12000):((BitVec.ofInt 64 (u:Int) &&& BitVec.ofInt 64 1).toNat:Int)=(u % 2:Nat):=by
 have:(BitVec.ofInt 64 (u:Int) &&& BitVec.ofInt 64 1).toNat=u &&& 1:=by
  rw [BitVec.toNat_and,ofInt_u64 u (by omega),show (BitVec.ofInt 64 1).toNat=1 by decide +kernel]
 rw [this,Nat.and_one_is_mod]
theorem bit1 {u:Nat} (h:u<12000):((BitVec.ofInt 64 (u:Int) &&& BitVec.ofInt 64 2).toNat:Int)=(u / 2 % 2*2:Nat):=by
 have:(BitVec.ofInt 64 (u:Int) &&& BitVec.ofInt 64 2).toNat=u &&& 2:=by
  rw [BitVec.toNat_and,ofInt_u64 u (by omega),show (BitVec.ofInt 64 2).toNat=2 by decide +kernel]
 rw [this]
 have h1:(u &&& 2) / 2=u / 2 % 2:=by rw [Nat.and_div_two,show 2 / 2=1 from rfl,Nat.and_one_is_mod]
 have h2:(u &&& 2) % 2=0:=by
  have:=Nat.and_mod_two_pow (a:=u) (b:=2) (n:=1)
  rwa [show 2 % 2 ^ 1=0 from rfl,Nat.and_zero] at this
 omega
theorem getref_ok (s:List UInt8) (p:Nat) (e:Int) (b:Nat) (σ:ASt) (hb:σ b=rd s p e) (hs:s.length<=1000000) (hp:p<=s.length) :
  ACalls Tryz.prog 93 [.ptr b 0] σ fun v σ'=>v = .tuple [refAV (refR s p e).1.1,.bool (refR s p e).1.2]/\σ'=σ.set b (rd s (refR s p e).2.1 (refR s p e).2.2):=by
 obtain ⟨q,hq⟩:∃ q,refR s p e=q:=⟨_,rfl⟩
 rw [hq]
 unfold refR at hq
 obtain ⟨f1,f2,f3,f4⟩:=readU_facts s p e hp
 have h1:=fun (τ:ASt) (h:τ b=rd s p e)=>ruint_ok s p e b τ h (by omega) hp
 generalize readU s p e=R at *
 obtain ⟨u,p1,e1⟩:=R
 dsimp only at *
 obtain ⟨g1,g2,g3,g4⟩:=readU_facts s p1 e1 f2
 have h2:=fun (τ:ASt) (h:τ b=rd s p1 e1)=>ruint_ok s p1 e1 b τ h (by omega) f2
 generalize readU s p1 e1=R at *
 obtain ⟨v,p2,e2⟩:=R
 dsimp only at *
 refine a93 (by simp) ?_
 simp (disch:=first|assumption|omega) only [go_sem]
 refine allocC_by fun d hd=>?_
 have hbd:b≠d:=by rintro rfl;rw [hb] at hd;cases hd
 have hb2:∀ X:Option Role,(σ.set d X) b=rd s p e:=fun X=>by rw [ASt.set_ne hbd];exact hb
 have hsw:∀ (X Y:Option Role),(σ.set d X).set b Y=(σ.set b Y).set d X:=fun X Y=>set_swap (Ne.symm hbd)
 simp (disch:=first|assumption|omega) only [go_sem,reduceCtorEq,↓reduceIte]
 refine (h1 _ (hb2 _)).mono ?_
 rintro x σ1 ⟨rfl,rfl⟩
 simp (disch:=first|assumption|omega) only [go_sem,reduceCtorEq,↓reduceIte]
 refine (h2 _ (ASt.set_same _ _ _)).mono ?_
 rintro x σ2 ⟨rfl,rfl⟩
 have hdd:∀ X Y:Option Role,Drop ((σ.set b X).set d Y) (σ.set b X):=fun X Y=>Drop.set (by rw [ASt.set_ne (Ne.symm hbd)];exact hd)
 have hsw2:∀ (X Y Z:Option Role),((σ.set d X).set b Y).set d Z=(σ.set b Y).set d Z:=fun X Y Z=>by rw [set_swap (Ne.symm hbd),ASt.set_set]
 rw [ASt.set_set]
 by_cases c1:12000<=u
 ·have c1':(12000:Int)<=u:=by omega
  rw [if_pos (.inl c1)] at hq
  subst hq
  simp (disch:=first|assumption|omega) only [go_sem,Nat.reduceEqDiff,Nat.reduceAdd,Nat.reduceLeDiff,↓reduceIte,Bool.true_and,c1',hsw2]
  exact retC_by (hdd _ _) (.refl _) ⟨rfl,rfl⟩
 have c1':¬ (12000:Int)<=u:=by omega
 by_cases c2:700<=v
 ·have c2':(700:Int)<=v:=by omega
  rw [if_pos (.inr c2)] at hq
  subst hq
  simp (disch:=first|assumption|omega) only [go_sem,Nat.reduceEqDiff,Nat.reduceAdd,Nat.reduceLeDiff,↓reduceIte,Bool.true_and,c1',c2',hsw2]
  exact retC_by (hdd _ _) (.refl _) ⟨rfl,rfl⟩
 have c2':¬ (700:Int)<=v:=by omega
 rw [if_neg (by omega)] at hq
 subst hq
 have k0:=bit0 (u:=u) (by omega)
 have k1:=bit1 (u:=u) (by omega)
 have d0:decide (((u % 2:Nat):Int)=1)=decide (u % 2=1):=decide_eq_decide.2 (by omega)
 have d1:decide (((u / 2 % 2*2:Nat):Int)=2)=decide (u / 2 % 2=1):=decide_eq_decide.2 (by omega)
 have w:IntKind.wrap .i64 (IntKind.wrap .u64 ((u:Int).tdiv 4))=((u / 4:Nat):Int):=by
  rw [Int.tdiv_eq_ediv_of_nonneg (by omega),IntKind.wrap_u64,IntKind.wrap_i64];omega
 simp (disch:=first|assumption|omega) only [go_sem,Nat.reduceEqDiff,Nat.reduceAdd,Nat.reduceLeDiff,↓reduceIte,Bool.true_and,c1',c2',hsw2]
 refine retC_by (hdd _ _) (.refl _) ⟨?_,rfl⟩
 have E:AV.tuple [AV.agg [AV.int .i64 (IntKind.wrap .i64 (IntKind.wrap .u64 ((u:Int).tdiv 4))),.int .i64 (v:Int),.bool (decide (((BitVec.ofInt 64 (u:Int) &&& BitVec.ofInt 64 1).toNat:Int)=1)),.bool (decide (((BitVec.ofInt 64 (u:Int) &&& BitVec.ofInt 64 2).toNat:Int)=2))],.bool true]
   = AV.tuple [refAV ⟨(u / 4:Nat),(v:Nat),decide (u % 2=1),decide (u / 2 % 2=1)⟩,.bool true]:=by
  rw [k0,k1,w,d0,d1]
  rfl
 exact E
theorem refR_facts (s:List UInt8) (p:Nat) (e:Int) (hp:p<=s.length):(refR s p e).2.1<=s.length:=by
 obtain ⟨_,f2,_⟩:=readU_facts s p e hp
 obtain ⟨_,g2,_⟩:=readU_facts s (readU s p e).2.1 (readU s p e).2.2 f2
 exact g2
theorem rtxP_facts (s:List UInt8) (p:Nat) (most:Nat) (hp:p<=s.length):(rtxP s p 0 most).2.1<=s.length/\(rtxP s p 0 most).1.length<=most:=by
 obtain ⟨_,f2,_⟩:=readU_facts s p 0 hp
 unfold rtxP
 repeat' split
 all_goals
  refine ⟨by dsimp only;omega,?_⟩
  simp only [List.length_nil,List.length_take]
  omega
theorem whole_any {a:Int} (h1 : -9223372036854775808<=a) (h2:a<=9223372036854775807):Pure Tryz.prog 118 [.int .i64 a] (.int .i64 (a.tdiv 10000)):=by
 intro σ
 have hqb:(a.tdiv 10000).natAbs=a.natAbs / 10000:=Int.natAbs_tdiv _ _
 have hw:IntKind.wrap .i64 (a.tdiv 10000)=a.tdiv 10000:=by
  rw [IntKind.wrap_i64];omega
 refine a118 (by simp) ?_
 simp (disch:=first|assumption|omega) only [go_sem,reduceCtorEq,↓reduceIte,hw]
 exact retC_by (Drop.refl _) (.refl _) ⟨rfl,rfl⟩
theorem failure_any (op n:Int) (s:List UInt8) (a b:Ref) (kids:List Nd) (g1 : -9223372036854775808<=n) (g2:n<=9223372036854775807):Pure Tryz.prog 80 [(Nd.mk op n s a b kids).av] (.str (failT op n)):=by
 intro σ
 have hW:=whole_any g1 g2
 have hE:=tenames_ok
 obtain ⟨q,hq⟩:∃ q,failT op n=q:=⟨_,rfl⟩
 rw [hq]
 unfold failT at hq
 rw [Nd.av_cs]
 generalize n.tdiv 10000=i at *
 refine a80 (by simp) ?_
 simp (disch:=first|assumption|omega) only [go_sem]
 refine boxC_by rfl fun c hc=>?_
 simp (disch:=first|assumption|omega) only [go_sem,Nat.reduceEqDiff,↓reduceIte]
 refine hW.use ?_
 by_cases h4:op=4
 ·by_cases h2:i<1
  ·rw [if_pos (.inr (.inl h2))] at hq
   subst hq
   simp (disch:=first|assumption|omega) only [go_sem,Nat.reduceEqDiff,↓reduceIte,h4,h2]
   exact retC_by (by repeat' (first|exact Drop.refl _|with_reducible refine Drop.off ?_ (by assumption))) (.refl _) ⟨rfl,rfl⟩
  ·by_cases h3:7<i
   ·rw [if_pos (.inr (.inr h3))] at hq
    subst hq
    simp (disch:=first|assumption|omega) only [go_sem,Nat.reduceEqDiff,↓reduceIte,h4,h2]
    refine hE.use ?_
    unfold errL
    simp (disch:=first|assumption|omega) only [go_sem,Nat.reduceEqDiff,Nat.reduceAdd,↓reduceIte,h3]
    exact retC_by (by repeat' (first|exact Drop.refl _|with_reducible refine Drop.off ?_ (by assumption))) (.refl _) ⟨rfl,rfl⟩
   ·rw [if_neg (by omega)] at hq
    have hc:i=1\/i=2\/i=3\/i=4\/i=5\/i=6\/i=7:=by omega
    subst hq
    rcases hc with rfl|rfl|rfl|rfl|rfl|rfl|rfl
    all_goals
     simp (disch:=first|assumption|omega) only [go_sem,Nat.reduceEqDiff,Int.reduceLT,↓reduceIte,Int.reduceSub,Int.reduceToNat,h4]
     refine hE.use ?_
     unfold errL
     simp (disch:=first|assumption|omega) only [go_sem,Nat.reduceEqDiff,Nat.reduceAdd,Int.reduceLT,↓reduceIte]
     refine hE.use ?_
     unfold errL
     simp (disch:=first|assumption|omega) only [go_sem,Nat.reduceEqDiff,↓reduceIte,Int.reduceSub,Int.reduceToNat]
     exact retC_by (by repeat' (first|exact Drop.refl _|with_reducible refine Drop.off ?_ (by assumption))) (.refl _) ⟨rfl,rfl⟩
 ·rw [if_pos (.inl h4)] at hq
  subst hq
  simp (disch:=first|assumption|omega) only [go_sem,Nat.reduceEqDiff,↓reduceIte,h4]
  exact retC_by (by repeat' (first|exact Drop.refl _|with_reducible refine Drop.off ?_ (by assumption))) (.refl _) ⟨rfl,rfl⟩
def valueP (op n:Int):Bool:=if op=3 then decide (n=0) || decide (n=1) else if op=4 then decide (n.tmod 10000=0) && decide (failT 4 n ≠ []) else decide (0<=n) && decide (n.natAbs<=999999999999999999)
theorem evalue_ok (op n:Int) (s:List UInt8) (a b:Ref) (kids:List Nd) (h1 : -9223372036854775808<=n) (h2:n<=9223372036854775807):Pure Tryz.prog 90 [(Nd.mk op n s a b kids).av] (.bool (valueP op n)):=by
 intro σ
 have hF:=failure_any op n s a b kids h1 h2
 have hI:=isInt_ok n
 have hG:=dgood_ok n
 obtain ⟨q,hq⟩:∃ q,valueP op n=q:=⟨_,rfl⟩
 rw [hq]
 unfold valueP at hq
 rw [Nd.av_cs] at hF ⊢
 generalize kids.map Nd.av=KL at *
 refine a90 (by simp) ?_
 simp (disch:=first|assumption|omega) only [go_sem]
 refine boxC_by rfl fun c hc=>?_
 by_cases h3:op=3
 ·rw [if_pos h3] at hq
  subst hq
  by_cases n0:n=0
  ·simp (disch:=first|assumption|omega) only [go_sem,Nat.reduceEqDiff,Int.reduceEq,↓reduceIte,h3,n0]
   exact retC_by (Drop.set hc) (.refl _) ⟨rfl,rfl⟩
  ·by_cases n1:n=1
   ·simp (disch:=first|assumption|omega) only [go_sem,Nat.reduceEqDiff,Int.reduceEq,↓reduceIte,h3,n1]
    exact retC_by (Drop.set hc) (.refl _) ⟨rfl,rfl⟩
   ·simp (disch:=first|assumption|omega) only [go_sem,Nat.reduceEqDiff,↓reduceIte,h3,n0,n1]
    exact retC_by (Drop.set hc) (.refl _) ⟨by simp [resV_one],rfl⟩
 rw [if_neg h3] at hq
 by_cases h4:op=4
 ·rw [if_pos h4] at hq
  rw [h4] at hF
  generalize failT 4 n=T at *
  subst hq
  by_cases i0:n.tmod 10000=0
  ·rw [decide_eq_true i0] at hI ⊢
   simp (disch:=first|assumption|omega) only [go_sem,Nat.reduceEqDiff,Int.reduceEq,↓reduceIte,Bool.true_and,h4]
   refine hI.use ?_
   simp (disch:=first|assumption|omega) only [go_sem,Nat.reduceEqDiff,Nat.reduceLeDiff,↓reduceIte]
   refine hF.use ?_
   by_cases t0:T = []
   ·simp (disch:=first|assumption|omega) only [go_sem,Nat.reduceEqDiff,↓reduceIte,t0]
    exact retC_by (Drop.set hc) (.refl _) ⟨by simp [resV_one],rfl⟩
   ·simp (disch:=first|assumption|omega) only [go_sem,Nat.reduceEqDiff,↓reduceIte,t0]
    exact retC_by (Drop.set hc) (.refl _) ⟨by simp [resV_one],rfl⟩
  ·rw [decide_eq_false i0] at hI ⊢
   simp (disch:=first|assumption|omega) only [go_sem,Nat.reduceEqDiff,Int.reduceEq,↓reduceIte,Bool.false_and,h4]
   refine hI.use ?_
   simp (disch:=first|assumption|omega) only [go_sem,Nat.reduceEqDiff,↓reduceIte]
   exact retC_by (Drop.set hc) (.refl _) ⟨rfl,rfl⟩
 rw [if_neg h4] at hq
 subst hq
 by_cases n0:0<=n
 ·rw [decide_eq_true n0]
  simp (disch:=first|assumption|omega) only [go_sem,Nat.reduceEqDiff,↓reduceIte,Bool.true_and,h3,h4,n0]
  refine hG.use ?_
  simp (disch:=first|assumption|omega) only [go_sem,Nat.reduceEqDiff,↓reduceIte]
  exact retC_by (Drop.set hc) (.refl _) ⟨rfl,rfl⟩
 ·rw [decide_eq_false n0]
  simp (disch:=first|assumption|omega) only [go_sem,Nat.reduceEqDiff,↓reduceIte,Bool.false_and,h3,h4,n0]
  exact retC_by (Drop.set hc) (.refl _) ⟨rfl,rfl⟩
theorem ename_ok {σ:ASt} (hU:U8 σ) (s:List UInt8) (hs:s.length<=100000):ACalls Tryz.prog 94 [.str s] σ fun v σ'=>v = .bool (nameOkP s)/\σ'=σ:=by
 have hL:=lex_ok hU s (by omega)
 obtain ⟨q,hq⟩:∃ q,nameOkP s=q:=⟨_,rfl⟩
 rw [hq]
 unfold nameOkP at hq
 generalize lexP s=R at *
 obtain ⟨L,j,e⟩:=R
 dsimp only at *
 refine a94 (by simp) ?_
 simp (disch:=first|assumption|omega) only [go_sem,reduceCtorEq,↓reduceIte]
 refine hL.mono ?_
 rintro v σ' ⟨rfl,rfl⟩
 have hl:(L.map tokAV).length=L.length:=by simp
 by_cases he:e=0
 ·rw [decide_eq_true he,Bool.true_and] at hq
  by_cases h2:L.length=2
  ·obtain ⟨t,u,rfl⟩:∃ t u,L = [t,u]:=by
    match L,h2 with
    | [t,u],_=>exact ⟨t,u,rfl⟩
   dsimp only at hq
   rw [decide_eq_true h2,Bool.true_and] at hq
   obtain ⟨kd,tx,at',col⟩:=t
   obtain ⟨kd2,tx2,at2,col2⟩:=u
   dsimp only at hq
   subst hq
   simp only [List.map_cons,List.map_nil,tokAV]
   by_cases k3:kd=3
   ·simp (disch:=first|assumption|omega) only [go_sem,reduceCtorEq,Nat.reduceEqDiff,Nat.reduceAdd,↓reduceIte,Bool.true_and,he,k3]
    exact retC_by (Drop.refl _) (.refl _) ⟨by simp [resV_one],rfl⟩
   ·simp (disch:=first|assumption|omega) only [go_sem,Nat.reduceEqDiff,Nat.reduceAdd,↓reduceIte,Bool.false_and,he,k3]
    exact retC_by (Drop.refl _) (.refl _) ⟨by simp [resV_one],rfl⟩
  ·have h2':¬ (L.length:Int)=2:=by omega
   rw [decide_eq_false h2,Bool.false_and] at hq
   subst hq
   generalize L.map tokAV=TL at *
   simp (disch:=first|assumption|omega) only [go_sem,Nat.reduceEqDiff,↓reduceIte,he,hl,h2']
   exact retC_by (Drop.refl _) (.refl _) ⟨rfl,rfl⟩
 ·rw [decide_eq_false he,Bool.false_and] at hq
  subst hq
  generalize L.map tokAV=TL at *
  simp (disch:=first|assumption|omega) only [go_sem,Nat.reduceEqDiff,↓reduceIte,he]
  exact retC_by (Drop.refl _) (.refl _) ⟨rfl,rfl⟩
structure HdR where
 n:Int
 s:List UInt8
 a:Ref
 b:Ref
 cnt:Nat
 ok:Bool
 p:Nat
 e:Int
def headR (s:List UInt8) (op:Int) (p:Nat):HdR:=
 if op=1\/op=3\/op=4 then ⟨unfI (readU s p 0).1,[],.zero,.zero,0,valueP op (unfI (readU s p 0).1),(readU s p 0).2.1,(readU s p 0).2.2⟩
 else if op=2 then ⟨0,(rtxP s p 0 2000).1,.zero,.zero,0,(sgT (rtxP s p 0 2000).1).isSome,(rtxP s p 0 2000).2.1,(rtxP s p 0 2000).2.2⟩
 else if op=5 then ⟨0,[],(refR s p 0).1.1,.zero,0,(refR s p 0).1.2,(refR s p 0).2.1,(refR s p 0).2.2⟩
 else if op=6 then ⟨0,[],(refR s p 0).1.1,(refR s (refR s p 0).2.1 (refR s p 0).2.2).1.1,0,(refR s (refR s p 0).2.1 (refR s p 0).2.2).1.2 && (refR s p 0).1.2,(refR s (refR s p 0).2.1 (refR s p 0).2.2).2.1,(refR s (refR s p 0).2.1 (refR s p 0).2.2).2.2⟩
 else if op=22 then ⟨0,(rtxP s p 0 2000).1,.zero,.zero,min (readU s (rtxP s p 0 2000).2.1 (rtxP s p 0 2000).2.2).1 2001,nameOkP (rtxP s p 0 2000).1 && decide (min (readU s (rtxP s p 0 2000).2.1 (rtxP s p 0 2000).2.2).1 2001<=2000),
  (readU s (rtxP s p 0 2000).2.1 (rtxP s p 0 2000).2.2).2.1,(readU s (rtxP s p 0 2000).2.1 (rtxP s p 0 2000).2.2).2.2⟩
 else ⟨0,[],.zero,.zero,arity op,true,p,0⟩
theorem headR_facts (s:List UInt8) (op:Int) (p:Nat) (hp:p<=s.length):(headR s op p).p<=s.length/\(headR s op p).cnt<=2001:=by
 obtain ⟨_,f2,_⟩:=readU_facts s p 0 hp
 have t1:=(rtxP_facts s p 2000 hp).1
 obtain ⟨_,g2,_⟩:=readU_facts s (rtxP s p 0 2000).2.1 (rtxP s p 0 2000).2.2 t1
 have r1:=refR_facts s p 0 hp
 have r2:=refR_facts s (refR s p 0).2.1 (refR s p 0).2.2 r1
 have ha:=arity_le op
 unfold headR
 repeat' split
 all_goals
  refine ⟨by dsimp only;assumption,?_⟩
  dsimp only
  omega
def zNd:Nd := .mk 0 0 [] .zero .zero []
def kidsR (g:Nat->Nd×Int×Nat×Int) (mk:List Nd->Nd):Nat->List Nd->Nat->Nd×Int×Nat×Int
 | 0,D,p=>(mk D,0,p,0)
 | c+1,D,p=>if (g p).2.1≠0 then (zNd,(g p).2.1,(g p).2.2.1,(g p).2.2.2) else kidsR g mk c (D ++ [(g p).1]) (g p).2.2.1
def treeR (s:List UInt8):Nat->Nat->Nd×Int×Nat×Int
 | 0,p=>(zNd,12,p,0)
 | k+1,p=>
   if (readU s p 0).2.2≠0 then (zNd,(readU s p 0).2.2,(readU s p 0).2.1,(readU s p 0).2.2)
   else if (readU s p 0).1<1\/23<(readU s p 0).1 then (zNd,3,(readU s p 0).2.1,0)
   else if (headR s ((readU s p 0).1:Nat) (readU s p 0).2.1).e≠0 then (zNd,(headR s ((readU s p 0).1:Nat) (readU s p 0).2.1).e,(headR s ((readU s p 0).1:Nat) (readU s p 0).2.1).p,(headR s ((readU s p 0).1:Nat) (readU s p 0).2.1).e)
   else if (headR s ((readU s p 0).1:Nat) (readU s p 0).2.1).ok=false then (zNd,3,(headR s ((readU s p 0).1:Nat) (readU s p 0).2.1).p,0)
   else kidsR (treeR s k) (fun ks => .mk ((readU s p 0).1:Nat) (headR s ((readU s p 0).1:Nat) (readU s p 0).2.1).n (headR s ((readU s p 0).1:Nat) (readU s p 0).2.1).s (headR s ((readU s p 0).1:Nat) (readU s p 0).2.1).a (headR s ((readU s p 0).1:Nat) (readU s p 0).2.1).b ks)
    (headR s ((readU s p 0).1:Nat) (readU s p 0).2.1).cnt [] (headR s ((readU s p 0).1:Nat) (readU s p 0).2.1).p
theorem kidsR_facts (M:Nat) (g:Nat->Nd×Int×Nat×Int) (mk:List Nd->Nd) (hg:∀ p,p<=M->(g p).2.2.1<=M/\((g p).2.1=0->(g p).2.2.2=0)):∀ c D p,p<=M->(kidsR g mk c D p).2.2.1<=M/\((kidsR g mk c D p).2.1=0->(kidsR g mk c D p).2.2.2=0)
 | 0,D,p,hp=>⟨hp,fun _=>rfl⟩
 | c+1,D,p,hp=>by
   rw [kidsR]
   split
   ·exact hg p hp
   ·exact kidsR_facts M g mk hg c _ _ (hg p hp).1
theorem treeR_facts (s:List UInt8):∀ k p,p<=s.length->(treeR s k p).2.2.1<=s.length/\((treeR s k p).2.1=0->(treeR s k p).2.2.2=0)
 | 0,p,hp=>⟨hp,fun _=>rfl⟩
 | k+1,p,hp=>by
   obtain ⟨_,f2,_⟩:=readU_facts s p 0 hp
   have hh:=(headR_facts s ((readU s p 0).1:Nat) (readU s p 0).2.1 f2).1
   rw [treeR]
   split
   ·exact ⟨f2,fun h=>h⟩
   split
   ·exact ⟨f2,fun _=>rfl⟩
   split
   ·exact ⟨hh,fun h=>h⟩
   split
   ·exact ⟨hh,fun _=>rfl⟩
   exact kidsR_facts _ _ _ (treeR_facts s k) _ _ _ hh
end Go.A
namespace Go.A
open Go.Proofs
/-! 54: tabular/expr.read -/
def c54_59:ACode := .seq (.seq (.ops [ oq 40 (.bin .eql (.t 38) (.v (.int .i64 1))),oq 39 (.mv (.t 40))]) (.cond (.t 39) .skip (.seq (.ops [ oq 41 (.bin .eql (.t 38) (.v (.int .i64 3))),oq 39 (.mv (.t 41))]) (.cond (.t 39) .skip (.ops [ oq 42 (.bin .eql (.t 38) (.v (.int .i64 4))),oq 39 (.mv (.t 42))]))))) (.cond (.t 39) (.seq (.ops [ oq 43 (.mv (.t 0)),oe 44 (.call 89 [(.t 43)]),oq 45 (.fa 1 (.t 7)),oz (.store 1 (.t 45) (.t 44))]) (.ops [ oq 46 (.ld (some 12) (.t 7)),oe 47 (.call 90 [(.t 46)]),oq 9 (.mv (.t 47))])) (.seq (.ops [ oq 49 (.bin .eql (.t 38) (.v (.int .i64 2))),oq 48 (.mv (.t 49))]) (.cond (.t 48) (.seq (.ops [ oq 50 (.mv (.t 0)),oe 51 (.call 91 [(.t 50),(.v (.int .i64 2000))]),oq 52 (.fa 2 (.t 7)),oz (.store 1 (.t 52) (.t 51))]) (.ops [ oq 54 (.fa 2 (.t 7)),oq 55 (.ld none (.t 54)),oe 56 (.call 92 [(.t 55)]),oq 53 (.mv (.t 56)),oq 57 (.ext 0 (.t 53)),oq 58 (.ext 1 (.t 53)),oq 9 (.mv (.t 58))])) (.seq (.ops [ oq 60 (.bin .eql (.t 38) (.v (.int .i64 5))),oq 59 (.mv (.t 60))]) (.cond (.t 59) (.ops [ oq 62 (.mv (.t 0)),oe 63 (.call 93 [(.t 62)]),oq 61 (.mv (.t 63)),oq 64 (.ext 0 (.t 61)),oq 65 (.ext 1 (.t 61)),oq 66 (.fa 3 (.t 7)),oz (.store 4 (.t 66) (.t 64)),oq 9 (.mv (.t 65))]) (.seq (.ops [ oq 68 (.bin .eql (.t 38) (.v (.int .i64 6))),oq 67 (.mv (.t 68))]) (.cond (.t 67) (.seq (.ops [ oq 10 (.mv (.v (.bool false)))]) (.seq (.ops [ oq 70 (.mv (.t 0)),oe 71 (.call 93 [(.t 70)]),oq 69 (.mv (.t 71)),oq 72 (.ext 0 (.t 69)),oq 73 (.ext 1 (.t 69)),oq 74 (.fa 3 (.t 7)),oz (.store 4 (.t 74) (.t 72)),oq 10 (.mv (.t 73))]) (.seq (.ops [ oq 76 (.mv (.t 0)),oe 77 (.call 93 [(.t 76)]),oq 75 (.mv (.t 77)),oq 78 (.ext 0 (.t 75)),oq 79 (.ext 1 (.t 75)),oq 80 (.fa 7 (.t 7)),oz (.store 4 (.t 80) (.t 78)),oq 9 (.mv (.t 79))]) (.ops [ oq 81 (.mv (.t 9)),oq 82 (.mv (.t 81)),⟨some 83,some (82,true),.q (.mv (.t 10)),[]⟩,oq 84 (.pick (.t 82) (.t 83) (.v (.bool false))),oq 9 (.mv (.t 84))])))) (.seq (.ops [ oq 86 (.bin .eql (.t 38) (.v (.int .i64 22))),oq 85 (.mv (.t 86))]) (.cond (.t 85) (.seq (.ops [ oq 87 (.mv (.t 0)),oe 88 (.call 91 [(.t 87),(.v (.int .i64 2000))]),oq 89 (.fa 2 (.t 7)),oz (.store 1 (.t 89) (.t 88))]) (.seq (.ops [ oq 90 (.mv (.t 0)),oe 91 (.call 86 [(.t 90)]),oq 92 (.mnx false (.t 91) (.v (.int .u64 2001))),oq 93 (.conv .i64 (.t 92)),oq 8 (.mv (.t 93))]) (.ops [ oq 94 (.fa 2 (.t 7)),oq 95 (.ld none (.t 94)),oe 96 (.call 94 [(.t 95)]),oq 97 (.mv (.t 96)),⟨some 98,some (97,true),.q (.mv (.t 8)),[]⟩,⟨some 99,some (97,true),.q (.bin .leq (.t 98) (.v (.int .i64 2000))),[]⟩,oq 100 (.pick (.t 97) (.t 99) (.v (.bool false))),oq 9 (.mv (.t 100))]))) .skip)))))))))
def c54_88:ACode := .seq (.ops [ oq 112 (.bin .lss (.t 111) (.t 110))]) (.seq (.cond (.t 112) .skip (.exit 1)) (.seq (.block 2 (.seq (.ops [ oq 114 (.mv (.t 0)),oq 115 (.mv (.t 1)),oq 116 (.bin .add (.t 115) (.v (.int .i64 1))),oe 117 (.call 54 [(.t 114),(.t 116)]),oq 113 (.mv (.t 117)),oq 118 (.ext 0 (.t 113)),oq 119 (.ext 1 (.t 113)),oe 11 (.alloc [(.int .i64 0),(.int .i64 0),(.str []),(.int .i64 0),(.int .i64 0),(.bool false),(.bool false),(.int .i64 0),(.int .i64 0),(.bool false),(.bool false),(.sl .full [])]),oz (.store 12 (.t 11) (.t 118)),oq 12 (.mv (.t 119))]) (.seq (.seq (.ops [ oq 120 (.mv (.t 12)),oq 121 (.bin .neq (.t 120) (.v (.int .i64 0)))]) (.cond (.t 121) (.seq (.ops [ oq 122 (.build [(.int .i64 0),(.int .i64 0),(.str []),(.int .i64 0),(.int .i64 0),(.bool false),(.bool false),(.int .i64 0),(.int .i64 0),(.bool false),(.bool false),(.sl .full [])] []),oq 123 (.mv (.t 12)),oz (.store 12 (.t 4) (.t 122)),oq 5 (.mv (.t 123))]) .ret) .skip)) (.ops [ oq 124 (.fa 11 (.t 7)),oq 125 (.ld none (.t 124)),oq 126 (.ld (some 12) (.t 11)),oq 127 (.bsl 12 [(.t 126)]),oe 128 (.app 30 12 104 [(.int .i64 0),(.int .i64 0),(.str []),(.int .i64 0),(.int .i64 0),(.bool false),(.bool false),(.int .i64 0),(.int .i64 0),(.bool false),(.bool false),(.sl .full [])] (.t 125) (.t 127)),oq 129 (.fa 11 (.t 7)),oz (.store 1 (.t 129) (.t 128))])))) (.ops [ oq 130 (.bin .add (.t 111) (.v (.int .i64 1))),oq 111 (.mv (.t 130))])))
def c54_96:ACode := .seq (.seq (.ops [ oq 101 (.mv (.t 0)),oe 102 (.call 87 [(.t 101)]),oq 103 (.bin .neq (.t 102) (.v (.int .i64 0)))]) (.cond (.t 103) (.seq (.ops [ oq 104 (.build [(.int .i64 0),(.int .i64 0),(.str []),(.int .i64 0),(.int .i64 0),(.bool false),(.bool false),(.int .i64 0),(.int .i64 0),(.bool false),(.bool false),(.sl .full [])] []),oq 105 (.mv (.t 0)),oe 106 (.call 87 [(.t 105)]),oz (.store 12 (.t 4) (.t 104)),oq 5 (.mv (.t 106))]) .ret) .skip)) (.seq (.seq (.ops [ oq 107 (.mv (.t 9)),oq 108 (.un .not (.t 107))]) (.cond (.t 108) (.seq (.ops [ oq 109 (.build [(.int .i64 0),(.int .i64 0),(.str []),(.int .i64 0),(.int .i64 0),(.bool false),(.bool false),(.int .i64 0),(.int .i64 0),(.bool false),(.bool false),(.sl .full [])] []),oz (.store 12 (.t 4) (.t 109)),oq 5 (.mv (.v (.int .i64 3)))]) .ret) .skip)) (.seq (.seq (.ops [ oq 110 (.mv (.t 8)),oq 111 (.mv (.v (.int .i64 0)))]) (.block 1 (.loop c54_88))) (.seq (.ops [ oq 131 (.ld (some 12) (.t 7)),oz (.store 12 (.t 4) (.t 131)),oq 5 (.mv (.v (.int .i64 0)))]) .ret)))
def c54_97:ACode := .seq (.seq (.ops [ oq 37 (.fa 0 (.t 7)),oq 38 (.ld none (.t 37))]) (.block 0 c54_59)) c54_96
def c54_104:ACode := .seq (.ops [ oe 4 (.alloc [(.int .i64 0),(.int .i64 0),(.str []),(.int .i64 0),(.int .i64 0),(.bool false),(.bool false),(.int .i64 0),(.int .i64 0),(.bool false),(.bool false),(.sl .full [])]),oq 5 (.mv (.v (.int .i64 0)))]) (.seq (.seq (.ops [ oq 13 (.mv (.t 1)),oq 14 (.bin .gtr (.t 13) (.v (.int .i64 2100)))]) (.cond (.t 14) (.seq (.ops [ oq 15 (.build [(.int .i64 0),(.int .i64 0),(.str []),(.int .i64 0),(.int .i64 0),(.bool false),(.bool false),(.int .i64 0),(.int .i64 0),(.bool false),(.bool false),(.sl .full [])] []),oz (.store 12 (.t 4) (.t 15)),oq 5 (.mv (.v (.int .i64 12)))]) .ret) .skip)) (.seq (.ops [ oq 16 (.mv (.t 0)),oe 17 (.call 86 [(.t 16)]),oq 6 (.mv (.t 17))]) (.seq (.seq (.ops [ oq 18 (.mv (.t 0)),oe 19 (.call 87 [(.t 18)]),oq 20 (.bin .neq (.t 19) (.v (.int .i64 0)))]) (.cond (.t 20) (.seq (.ops [ oq 21 (.build [(.int .i64 0),(.int .i64 0),(.str []),(.int .i64 0),(.int .i64 0),(.bool false),(.bool false),(.int .i64 0),(.int .i64 0),(.bool false),(.bool false),(.sl .full [])] []),oq 22 (.mv (.t 0)),oe 23 (.call 87 [(.t 22)]),oz (.store 12 (.t 4) (.t 21)),oq 5 (.mv (.t 23))]) .ret) .skip)) (.seq (.seq (.ops [ oq 24 (.mv (.t 6)),oq 25 (.bin .lss (.t 24) (.v (.int .u64 1))),oq 26 (.mv (.t 25)),⟨some 27,some (26,false),.q (.mv (.t 6)),[]⟩,⟨some 28,some (26,false),.q (.bin .gtr (.t 27) (.v (.int .u64 23))),[]⟩,oq 29 (.pick (.t 26) (.v (.bool true)) (.t 28))]) (.cond (.t 29) (.seq (.ops [ oq 30 (.build [(.int .i64 0),(.int .i64 0),(.str []),(.int .i64 0),(.int .i64 0),(.bool false),(.bool false),(.int .i64 0),(.int .i64 0),(.bool false),(.bool false),(.sl .full [])] []),oz (.store 12 (.t 4) (.t 30)),oq 5 (.mv (.v (.int .i64 3)))]) .ret) .skip)) (.seq (.ops [ oq 31 (.mv (.t 6)),oq 32 (.conv .i64 (.t 31)),oq 33 (.build [(.int .i64 0),(.int .i64 0),(.str []),(.int .i64 0),(.int .i64 0),(.bool false),(.bool false),(.int .i64 0),(.int .i64 0),(.bool false),(.bool false),(.sl .full [])] [(0,1,(.t 32))]),oe 7 (.alloc [(.int .i64 0),(.int .i64 0),(.str []),(.int .i64 0),(.int .i64 0),(.bool false),(.bool false),(.int .i64 0),(.int .i64 0),(.bool false),(.bool false),(.sl .full [])]),oz (.store 12 (.t 7) (.t 33))]) (.seq (.ops [ oq 34 (.fa 0 (.t 7)),oq 35 (.ld none (.t 34)),oe 36 (.call 88 [(.t 35)]),oq 8 (.mv (.t 36)),oq 9 (.mv (.v (.bool true)))]) c54_97))))))
@[go_sem] def c54_59_wp:=wp_of c54_59.eq_1
@[go_sem] def c54_88_wp:=wp_of c54_88.eq_1
@[go_sem] def c54_96_wp:=wp_of c54_96.eq_1
@[go_sem] def c54_97_wp:=wp_of c54_97.eq_1
@[go_sem] def c54_104_wp:=wp_of c54_104.eq_1
def c54:AFn:=⟨132,[.c 4 (some 12),.t 5],c54_104⟩
theorem c54_ok:compF Tryz.prog Tryz.f54=some c54:=by kernel_rfl
theorem a54 {args:List AV} {σ:ASt} {R:AV->ASt->Prop} (hl:args.length<=132) (h:c54_104.wp Tryz.prog (RetQ [.c 4 (some 12),.t 5] R) (init args) σ):ACalls Tryz.prog 54 args σ R:=acalls_of Tryz.func54 c54_ok hl h
end Go.A
namespace Go.A
open Go.Proofs Go.Lib Go.Vint
set_option maxHeartbeats 8000000 in
theorem read_le (s:List UInt8) (hs:s.length<=1000000) (b:Nat):∀ (k p:Nat),k<=2101->p<=s.length->∀ σ:ASt,U8 σ->σ b=rd s p 0 →
  ACalls Tryz.prog 54 [.ptr b 0,.int .i64 (2101-(k:Int))] σ fun v σ'=>v = .tuple [(treeR s k p).1.av,.int .i64 (treeR s k p).2.1]/\σ'=σ.set b (rd s (treeR s k p).2.2.1 (treeR s k p).2.2.2)
 | 0,p,hk,hp=>by
   intro σ hU hb
   obtain ⟨dp,hdp⟩:∃ dp:Int,2101-((0:Nat):Int)=dp:=⟨_,rfl⟩
   rw [hdp]
   have hlt:2100<dp:=by omega
   refine ACalls.retd (K:=fun v σ'=>Go.A.deep v = .tuple [zNd.av,.int .i64 12]/\σ'=σ) ?_ (fun v σ' h=>⟨h.1,by rw [h.2];exact (set_self hb).symm⟩)
   refine a54 (by simp) ?_
   simp (disch:=first|assumption|omega) only [go_sem]
   refine allocC_by fun b4 h4=>?_
   simp (disch:=first|assumption|omega) only [go_sem,Nat.reduceEqDiff,Nat.reduceAdd,Nat.reduceLeDiff,↓reduceIte,Bool.true_and,hlt,ASt.set_set]
   exact retC_by (Drop.set h4) (.refl _) ⟨rfl,rfl⟩
 | k+1,p,hk,hp=>by
   intro σ hU hb
   have ih:=read_le s hs b k
   obtain ⟨dp,hdp⟩:∃ dp:Int,2101-((k+1:Nat):Int)=dp:=⟨_,rfl⟩
   rw [hdp]
   have hlt:¬ 2100<dp:=by omega
   have hd1:dp+1=2101-(k:Int):=by omega
   obtain ⟨R,hR⟩:∃ R,treeR s (k+1) p=R:=⟨_,rfl⟩
   rw [hR]
   rw [treeR] at hR
   obtain ⟨f1,f2,f3,f4⟩:=readU_facts s p 0 hp
   have h1:=fun (τ:ASt) (h:τ b=rd s p 0)=>ruint_ok s p 0 b τ h (by omega) hp
   generalize readU s p 0=RU at *
   obtain ⟨u,p1,e1⟩:=RU
   dsimp only at *
   refine ACalls.retd (K:=fun v σ'=>Go.A.deep v = .tuple [R.1.av,.int .i64 R.2.1]/\σ'=σ.set b (rd s R.2.2.1 R.2.2.2)) ?_ (fun v σ' h=>h)
   obtain ⟨Q,hQ⟩:∃ Q,Q=RetQ [.c 4 (some 12),.t 5] fun v σ'=>Go.A.deep v = .tuple [R.1.av,.int .i64 R.2.1]/\σ'=σ.set b (rd s R.2.2.1 R.2.2.2):=⟨_,rfl⟩
   refine a54 (by simp) ?_
   simp (disch:=first|assumption|omega) only [go_sem]
   refine allocC_by fun b4 h4=>?_
   have n4:b≠b4:=by rintro rfl;rw [hb] at h4;cases h4
   have hUn:∀ x r,σ x=r->r≠none->x≠b4:=by rintro x r hx hr rfl;rw [h4] at hx;exact hr hx.symm
   have hUb:∀ x l,σ x=some (.fix l)->x≠b:=by rintro x l hx rfl;rw [hb] at hx;cases hx
   obtain ⟨T2,hT2⟩:∃ T2:Option Role->Option Role->ASt,∀ X Y,T2 X Y=(σ.set b X).set b4 Y:=⟨_,fun _ _=>rfl⟩
   have t2b:∀ X Y,T2 X Y b=X:=fun X Y=>by rw [hT2,ASt.set_ne n4,ASt.set_same]
   have t24:∀ X Y,T2 X Y b4=Y:=fun X Y=>by rw [hT2,ASt.set_same]
   have t2x:∀ X Y x,x≠b->x≠b4->T2 X Y x=σ x:=fun X Y x h h'=>by rw [hT2,ASt.set_ne h',ASt.set_ne h]
   have s2b:∀ X Y X',(T2 X Y).set b X'=T2 X' Y:=fun X Y X'=>by rw [hT2,hT2,set_swap (Ne.symm n4),ASt.set_set]
   have s24:∀ X Y Y',(T2 X Y).set b4 Y'=T2 X Y':=fun X Y X'=>by rw [hT2,hT2,ASt.set_set]
   have d2:∀ X Y,Drop (T2 X Y) (σ.set b X):=fun X Y=>by rw [hT2];exact Drop.set (by rw [ASt.set_ne (Ne.symm n4)];exact h4)
   have U2:∀ X Y,U8 (T2 X Y):=fun X Y=>⟨by rw [t2x _ _ _ (hUb _ _ hU.1) (hUn _ _ hU.1 (by simp))];exact hU.1,by rw [t2x _ _ _ (hUb _ _ hU.2) (hUn _ _ hU.2 (by simp))];exact hU.2⟩
   have hst:∀ Y,σ.set b4 Y=T2 (rd s p 0) Y:=fun Y=>by rw [hT2,set_self hb]
   rw [<-hQ,hst]
   clear hT2 hst
   simp (disch:=first|assumption|omega) only [go_sem,reduceCtorEq,Nat.reduceEqDiff,↓reduceIte,hlt]
   refine (h1 _ (t2b _ _)).mono ?_
   rintro v σ1 ⟨rfl,rfl⟩
   rw [s2b]
   simp (disch:=first|assumption|omega) only [go_sem,reduceCtorEq,↓reduceIte]
   refine (rerr_ok s p1 e1 b _ (t2b _ _)).mono ?_
   rintro v σ1 ⟨rfl,rfl⟩
   by_cases he:e1=0
   ·subst he
    rw [if_neg (by simp)] at hR
    by_cases hu:u<1\/23<u
    ·rw [if_pos hu] at hR
     subst hR
     rw [hQ]
     by_cases hu1:(u:Int)<1
     ·simp (disch:=first|assumption|omega) only [go_sem,Nat.reduceEqDiff,Nat.reduceAdd,Nat.reduceLeDiff,↓reduceIte,Bool.true_and,hu1,t24,s24]
      exact retC_by (d2 _ _) (.refl _) ⟨rfl,rfl⟩
     ·have hu2:(23:Int)<u:=by omega
      simp (disch:=first|assumption|omega) only [go_sem,Nat.reduceEqDiff,Nat.reduceAdd,Nat.reduceLeDiff,↓reduceIte,Bool.true_and,hu1,hu2,t24,s24]
      exact retC_by (d2 _ _) (.refl _) ⟨rfl,rfl⟩
    rw [if_neg hu] at hR
    have hu1:¬ (u:Int)<1:=by omega
    have hu2:¬ (23:Int)<u:=by omega
    obtain ⟨op,hop⟩:∃ op:Int,(u:Int)=op:=⟨_,rfl⟩
    have hH:=headR_facts s op p1 f2
    have hHe:headR s (u:Int) p1=headR s op p1:=by rw [hop]
    rw [hHe,hop] at hR
    have o1:1<=op:=by omega
    have o2:op<=23:=by omega
    obtain ⟨F,hF⟩:∃ F,F=ACode.wp Tryz.prog c54_96:=⟨_,rfl⟩
    have hww:IntKind.wrap .i64 op=op:=by rw [IntKind.wrap_i64];omega
    have hki:=ekids_ok op
    rw [hop]
    simp (disch:=first|assumption|omega) only [go_sem,Nat.reduceEqDiff,Nat.reduceAdd,Nat.reduceLeDiff,↓reduceIte]
    refine allocC_by fun b7 h7=>?_
    have n7:b≠b7:=by rintro rfl;rw [t2b] at h7;simp [rd] at h7
    have n47:b4≠b7:=by rintro rfl;rw [t24] at h7;cases h7
    have t27:∀ X Y,T2 X Y b7=none:=fun X Y=>by
     rw [t2x _ _ _ (Ne.symm n7) (Ne.symm n47)]
     rwa [t2x _ _ _ (Ne.symm n7) (Ne.symm n47)] at h7
    obtain ⟨T3,hT3⟩:∃ T3:Option Role->Option Role->Option Role->ASt,∀ X Y Z,(T2 X Y).set b7 Z=T3 X Y Z:=⟨_,fun _ _ _=>rfl⟩
    have t3b:∀ X Y Z,T3 X Y Z b=X:=fun X Y Z=>by rw [<-hT3,ASt.set_ne n7,t2b]
    have t34:∀ X Y Z,T3 X Y Z b4=Y:=fun X Y Z=>by rw [<-hT3,ASt.set_ne n47,t24]
    have t37:∀ X Y Z,T3 X Y Z b7=Z:=fun X Y Z=>by rw [<-hT3,ASt.set_same]
    have s3b:∀ X Y Z X',(T3 X Y Z).set b X'=T3 X' Y Z:=fun X Y Z X'=>by rw [<-hT3,← hT3,set_swap (Ne.symm n7),s2b]
    have s34:∀ X Y Z X',(T3 X Y Z).set b4 X'=T3 X X' Z:=fun X Y Z X'=>by rw [<-hT3,← hT3,set_swap (Ne.symm n47),s24]
    have s37:∀ X Y Z X',(T3 X Y Z).set b7 X'=T3 X Y X':=fun X Y Z X'=>by rw [<-hT3,← hT3,ASt.set_set]
    have d3:∀ X Y Z,Drop (T3 X Y Z) (σ.set b X):=fun X Y Z=>by rw [<-hT3];exact (Drop.set (t27 _ _)).trans (d2 _ _)
    have U3:∀ X Y Z,U8 (T3 X Y Z):=fun X Y Z=>by rw [<-hT3];exact (U2 X Y).set (t27 _ _)
    obtain ⟨Z12,hZ12⟩:∃ Z,Z=zero12:=⟨_,rfl⟩
    have hz0:([.int .i64 0,.int .i64 0,.str [],.int .i64 0,.int .i64 0,.bool false,.bool false,.int .i64 0,.int .i64 0,.bool false,.bool false,.sl .full []]:List AV)=Z12:=hZ12.symm
    have fin:∀ (n:Int) (s':List UInt8) (a b':Ref) (cnt:Nat) (ok:Bool) (P:Nat) (E:Int) (a1:AFr),headR s op p1=⟨n,s',a,b',cnt,ok,P,E⟩ →
      (a1 0 = .ptr b 0/\a1 1 = .int .i64 dp/\a1 4 = .ptr b4 0/\a1 7 = .ptr b7 0/\a1 8 = .int .i64 cnt/\a1 9 = .bool ok)->F Q a1 (T3 (rd s P E) (some (.obj Z12)) (some (.obj (ndV op n s' a b' (.sl .full []))))):=by
     intro n s' a b' cnt ok P E a1 hh hf
     rw [hh] at hR hH
     dsimp only at hR hH
     rw [hF]
     have hzr:(Z12.length=12):=by rw [hZ12];rfl
     simp (disch:=first|assumption|omega) only [go_sem,↓reduceIte,hf]
     refine (rerr_ok s P E b _ (t3b _ _ _)).mono ?_
     rintro v σ1 ⟨rfl,rfl⟩
     by_cases hE:E=0
     ·rw [if_neg (by simp [hE])] at hR
      subst hE
      cases ok with
      | false=>
        rw [if_pos rfl] at hR
        subst hR
        rw [hQ,hZ12]
        unfold zero12
        simp (disch:=first|assumption|omega) only [go_sem,Nat.reduceEqDiff,Nat.reduceAdd,Nat.reduceLeDiff,↓reduceIte,Bool.true_and,hf,t34,s34]
        exact retC_by (d3 _ _ _) (.refl _) ⟨rfl,rfl⟩
      | true=>
        rw [if_neg (by simp)] at hR
        simp (disch:=first|assumption|omega) only [go_sem,Nat.reduceEqDiff,↓reduceIte,hf]
        have h4z:∀ X Y,T3 X (some (.obj Z12)) Y b4=some (.obj Z12):=fun X Y=>t34 _ _ _
        refine wp_loop_by (fun (q:List Nd×Nat) a2 s2=>(q.1.length<=cnt/\q.2<=s.length/\kidsR (treeR s k) (fun ks=>Nd.mk op n s' a b' ks) (cnt-q.1.length) q.1 q.2=R) ∧
          (a2 0 = .ptr b 0/\a2 1 = .int .i64 dp/\a2 4 = .ptr b4 0/\a2 7 = .ptr b7 0/\a2 110 = .int .i64 cnt/\a2 111 = .int .i64 q.1.length) ∧
          ∃ v,OwnSl (T3 (rd s q.2 0) (some (.obj Z12)) (some (.obj (ndV op n s' a b' v)))) s2 v (q.1.map Nd.av) 12) (fun q=>cnt-q.1.length) ([],P) (Dr.now ⟨⟨Nat.zero_le _,hH.1,by simpa using hR⟩,?_,.sl .full [],.inl ⟨rfl,rfl,rfl⟩⟩) ?_
        ·simp only [List.length_nil]
         simp (disch:=first|assumption|omega) only [go_sem,reduceCtorEq,Nat.reduceEqDiff,↓reduceIte,hf]
        rintro ⟨D,pp⟩ a2 s2 ⟨⟨g1,g2,g3⟩,hf2,v,hO⟩
        dsimp only at g1 g2 g3 hf2 hO
        have hbb:s2 b=rd s pp 0:=hO.at (x:=b) (t3b _ _ _)
        have hb7:=hO.at (x:=b7) (t37 _ _ _)
        have hb4:=hO.at (x:=b4) (t34 _ _ _)
        have hDm:(D.map Nd.av).length=D.length:=by simp
        have hlD:∀ y∈D.map Nd.av,y.cells.length=12:=by
         intro y hy
         obtain ⟨z,_,rfl⟩:=List.mem_map.1 hy
         exact Nd.av_len z
        by_cases hdl:D.length<cnt
        ·have hdl':(D.length:Int)<cnt:=by omega
         have hU3:=U3 (rd s pp 0) (some (.obj Z12)) (some (.obj (ndV op n s' a b' v)))
         have hcall:=ih pp (by omega) g2 s2 ⟨hO.at hU3.1,hO.at hU3.2⟩ hbb
         have hfacts:=treeR_facts s k pp g2
         rw [show cnt-D.length=(cnt-(D.length+1))+1 by omega,kidsR] at g3
         rw [<-hd1] at hcall
         obtain ⟨x,hxx⟩:∃ x,(treeR s k pp).1=x:=⟨_,rfl⟩
         obtain ⟨e',hee⟩:∃ x,(treeR s k pp).2.1=x:=⟨_,rfl⟩
         obtain ⟨pp',hpp⟩:∃ x,(treeR s k pp).2.2.1=x:=⟨_,rfl⟩
         obtain ⟨er,her⟩:∃ x,(treeR s k pp).2.2.2=x:=⟨_,rfl⟩
         rw [hxx,hee,hpp,her] at hcall
         rw [hee,hpp,her] at hfacts
         rw [hxx,hee,hpp,her] at g3
         have hO1:=hO.put (t3b (rd s pp 0) (some (.obj Z12)) (some (.obj (ndV op n s' a b' v))):_=some _) (rd s pp' er)
         rw [s3b] at hO1
         have hDx:((D ++ [x]).map Nd.av)=D.map Nd.av ++ [x.av]:=by simp
         have hDl:(D ++ [x]).length=D.length+1:=by simp
         obtain ⟨xo,xm,xs,xa,xb,xk⟩:=x
         rw [Nd.av_cs] at hcall hDx
         generalize hXK:xk.map Nd.av=XK at *
         simp (disch:=first|assumption|omega) only [go_sem,reduceCtorEq,Nat.reduceEqDiff,↓reduceIte,hf2,hdl']
         refine hcall.mono ?_
         rintro w σ1 ⟨rfl,rfl⟩
         have hb71:=hO1.at (x:=b7) (t37 _ _ _)
         have hb41:=hO1.at (x:=b4) (t34 _ _ _)
         generalize hs3:s2.set b (rd s pp' er)=s3 at *
         simp (disch:=first|assumption|omega) only [go_sem,Nat.reduceEqDiff,↓reduceIte]
         refine allocC_by fun e he=>?_
         have he7:b7≠e:=by rintro rfl;rw [hb71] at he;cases he
         have he4:b4≠e:=by rintro rfl;rw [hb41] at he;cases he
         by_cases h0:e'=0
         ·subst h0
          have her0:=hfacts.2 rfl
          subst her0
          rw [if_neg (by simp)] at g3
          have he0:T3 (rd s pp' 0) (some (.obj Z12)) (some (.obj (ndV op n s' a b' v))) e=none:=hO1.fresh he
          have hOe:=hO1.add (r:=some (.obj (Nd.cs xo xm xs xa xb XK))) he
          have hb7e:(s3.set e (some (.obj (Nd.cs xo xm xs xa xb XK)))) b7=some (.obj (ndV op n s' a b' v)):=by rw [ASt.set_ne he7];exact hb71
          simp (disch:=first|assumption|omega) only [go_sem,Nat.reduceEqDiff,Nat.reduceAdd,Nat.reduceLeDiff,↓reduceIte,Bool.true_and,hf2,hb7e,ASt.set_set]
          refine OwnSl.app hOe hlD rfl rfl (by rw [hDm];simp only [List.length_cons,List.length_nil];omega) (by rw [hDm];simp only [List.length_cons,List.length_nil];omega) (by simp) fun v' σ' ⟨σ2,hd,hO2⟩=>?_
          have h70:((T3 (rd s pp' 0) (some (.obj Z12)) (some (.obj (ndV op n s' a b' v)))).set e (some (.obj (Nd.cs xo xm xs xa xb XK)))) b7=some (.obj (ndV op n s' a b' v)):=by rw [ASt.set_ne he7,t37]
          have hb7':=hd.had (hO2.at h70)
          have hO3:=hO2.put h70 (some (.obj (ndV op n s' a b' v')))
          rw [set_swap (Ne.symm he7),s37] at hO3
          have he0':T3 (rd s pp' 0) (some (.obj Z12)) (some (.obj (ndV op n s' a b' v'))) e=none:=by
           rw [<-s37 _ _ (some (.obj (ndV op n s' a b' v))),ASt.set_ne (Ne.symm he7)];exact he0
          obtain ⟨σ5,hd5,hO5⟩:=hO3.less he0'
          have hvl:=hO2.leaf
          have hvc:=hvl.2
          have hvv:leaves [v']=true:=by rw [leaf1];exact hvl.1
          have hD5:Drop (σ'.set b7 (some (.obj (ndV op n s' a b' v')))) σ5:=hd.set_cong.trans hd5
          simp (disch:=first|assumption|omega) only [go_sem,Nat.reduceEqDiff,Nat.reduceAdd,Nat.reduceLeDiff,↓reduceIte,hf2,hb7',hvc,hvv]
          refine ⟨(D ++ [Nd.mk xo xm xs xa xb xk],pp'),by dsimp only;rw [hDl];omega,Dr.drop hD5 ⟨⟨by dsimp only;omega,hfacts.1,?_⟩,?_,v',?_⟩⟩
          ·dsimp only;rw [hDl];exact g3
          ·dsimp only
           rw [hDl]
           simp (disch:=first|assumption|omega) only [go_sem,reduceCtorEq,Nat.reduceEqDiff,↓reduceIte,hf2]
          ·dsimp only
           rw [hDx];exact hO5
         ·rw [if_pos h0] at g3
          subst g3
          have hb4e:(s3.set e (some (.obj (Nd.cs xo xm xs xa xb XK)))) b4=some (.obj Z12):=by rw [ASt.set_ne he4];exact hb41
          have hO4:=hO1.put (t34 _ _ _) (some (.obj Z12))
          rw [s34] at hO4
          have hfin:∀ X:Option Role,Drop ((s3.set e X).set b4 (some (.obj Z12))) (σ.set b (rd s pp' er)):=fun X=>by
           rw [set_swap (Ne.symm he4)]
           exact ((Drop.set (by rw [ASt.set_ne (Ne.symm he4)];exact he)).trans hO4.drop).trans (d3 _ _ _)
          have hs4:∀ X:Option Role,((s3.set e X).set b4 (some (.obj Z12))) b4=some (.obj Z12):=fun X=>ASt.set_same _ _ _
          rw [hZ12] at hb4e hfin
          unfold zero12 at hb4e hfin
          rw [hQ]
          simp (disch:=first|assumption|omega) only [go_sem,Nat.reduceEqDiff,Nat.reduceAdd,Nat.reduceLeDiff,↓reduceIte,Bool.true_and,hf2,hb4e,h0,ASt.set_set]
          exact retC_by (hfin _) (.refl _) ⟨rfl,rfl⟩
        ·have hdl':¬ (D.length:Int)<cnt:=by omega
         rw [show cnt-D.length=0 by omega,kidsR] at g3
         subst g3
         have hnl:=nv_leaves (o:=op) (m:=n) (s:=s') (a:=a) (b:=b') hO.leaf.1
         have hO2:=hO.put (t34 _ _ _) (some (.obj (ndV op n s' a b' v)))
         rw [s34] at hO2
         have hDz:=d3 (rd s pp 0) (some (.obj (ndV op n s' a b' v))) (some (.obj (ndV op n s' a b' v)))
         have hz:=hO2.fz hlD (fun x hx=>hDz.nil hx)
         rw [hZ12] at hb4
         unfold zero12 at hb4
         rw [hQ]
         have hdv:Go.A.deep (.tuple [.agg (ndV op n s' a b' (.sl .shr (D.map Nd.av))),.int .i64 0]) = .tuple [(Nd.mk op n s' a b' D).av,.int .i64 0]:=by
          rw [Nd.av_cs]
          show AV.tuple [.agg (Nd.cs op n s' a b' (Go.A.deeps (D.map Nd.av))),.int .i64 0]=_
          rw [deeps_map]
         simp (disch:=first|assumption|omega) only [go_sem,Nat.reduceEqDiff,Nat.reduceAdd,Nat.reduceLeDiff,↓reduceIte,hf2,hdl',hb7,hb4,hnl]
         refine retC_by (r := .tuple [.agg (ndV op n s' a b' (.sl .shr (D.map Nd.av))),.int .i64 0]) (hO2.drop.trans hDz) ?_ ⟨hdv,rfl⟩
         exact .tuple (.cons (.agg (.cons (.refl _) (.cons (.refl _) (.cons (.refl _) (.cons (.refl _) (.cons (.refl _) (.cons (.refl _) (.cons (.refl _) (.cons (.refl _) (.cons (.refl _) (.cons (.refl _) (.cons (.refl _) (.cons hz .nil))))))))))))) (.cons (.refl _) .nil))
     ·rw [if_pos hE] at hR
      subst hR
      simp (disch:=first|assumption|omega) only [go_sem,reduceCtorEq,↓reduceIte,hf,hE]
      refine (rerr_ok s P E b _ (t3b _ _ _)).mono ?_
      rintro v σ1 ⟨rfl,rfl⟩
      rw [hQ,hZ12]
      unfold zero12
      simp (disch:=first|assumption|omega) only [go_sem,Nat.reduceEqDiff,Nat.reduceAdd,Nat.reduceLeDiff,↓reduceIte,Bool.true_and,hf,t34,s34]
      exact retC_by (d3 _ _ _) (.refl _) ⟨rfl,rfl⟩
    obtain ⟨B,hB⟩:∃ B,B=ACode.wp Tryz.prog c54_97:=⟨_,rfl⟩
    have brs:∀ (a1:AFr),(a1 0 = .ptr b 0/\a1 1 = .int .i64 dp/\a1 4 = .ptr b4 0/\a1 7 = .ptr b7 0/\a1 8 = .int .i64 (arity op:Nat)/\a1 9 = .bool true) →
      B Q a1 (T3 (rd s p1 0) (some (.obj Z12)) (some (.obj [.int .i64 op,.int .i64 0,.str [],.int .i64 0,.int .i64 0,.bool false,.bool false,.int .i64 0,.int .i64 0,.bool false,.bool false,.sl .full []]))):=by
     intro a1 hf
     rw [hB]
     clear hB hQ ih
     have hs2:s.length<=4611686018427387904:=by omega
     have e2000:((2000:Nat):Int)=2000:=rfl
     by_cases h134:op=1\/op=3\/op=4
     ·have hh:headR s op p1=⟨unfI (readU s p1 0).1,[],.zero,.zero,0,valueP op (unfI (readU s p1 0).1),(readU s p1 0).2.1,(readU s p1 0).2.2⟩:=if_pos h134
      have ha:arity op=0:=by unfold arity;rw [if_neg (by omega),if_neg (by omega)]
      rw [ha] at hf
      have hI:=fun τ h=>rint_ok s p1 0 b τ h hs2 f2
      obtain ⟨w1,_⟩:=readU_facts s p1 0 f2
      generalize readU s p1 0=V at *
      obtain ⟨v,P,E⟩:=V
      dsimp only at hh hI w1
      have hv : -9223372036854775808<=unfI v/\unfI v<=9223372036854775807:=by unfold unfI;split<;>omega
      generalize unfI v=n at *
      have hV:=evalue_ok op n [] .zero .zero [] hv.1 hv.2
      generalize valueP op n=ok at *
      rcases h134 with h1|h1|h1
      all_goals
       simp (disch:=first|assumption|omega) only [go_sem,reduceCtorEq,Nat.reduceEqDiff,Int.reduceEq,↓reduceIte,hf,h1,t37,←hF]
       refine (hI _ (t3b _ _ _)).mono ?_
       rintro w σ1 ⟨rfl,rfl⟩
       rw [s3b]
       simp (disch:=first|assumption|omega) only [go_sem,Nat.reduceEqDiff,Nat.reduceAdd,Nat.reduceLeDiff,↓reduceIte,Bool.true_and,hf,t37,s37]
       refine ACalls.deep (args' := [(Nd.mk op n [] .zero .zero []).av]) (by rw [Nd.av_cs];subst h1;rfl) (hV.use ?_)
       simp (disch:=first|assumption|omega) only [go_sem,↓reduceIte]
       first|(refine fin n [] .zero .zero 0 ok P E _ hh ?_)|(subst h1;refine fin n [] .zero .zero 0 ok P E _ hh ?_)
       simp (disch:=first|assumption|omega) only [go_sem,reduceCtorEq,Nat.reduceEqDiff,↓reduceIte,hf]
     have g1:op≠1:=by omega
     have g3:op≠3:=by omega
     have g4:op≠4:=by omega
     by_cases h2:op=2
     ·have hh:headR s op p1=⟨0,(rtxP s p1 0 2000).1,.zero,.zero,0,(sgT (rtxP s p1 0 2000).1).isSome,(rtxP s p1 0 2000).2.1,(rtxP s p1 0 2000).2.2⟩:=by unfold headR;rw [if_neg h134,if_pos h2]
      have ha:arity op=0:=by unfold arity;rw [if_neg (by omega),if_neg (by omega)]
      rw [ha] at hf
      have hI:=fun τ h=>rtext_ok s p1 0 2000 b τ h hs2 f2 (by omega)
      obtain ⟨w1,w2⟩:=rtxP_facts s p1 2000 f2
      rw [e2000] at hI
      generalize rtxP s p1 0 2000=V at *
      obtain ⟨t,P,E⟩:=V
      dsimp only at hh hI w1 w2
      have hS:=fun τ h=>tsigns_ok (σ:=τ) h t (by omega)
      subst h2
      simp (disch:=first|assumption|omega) only [go_sem,reduceCtorEq,Nat.reduceEqDiff,Int.reduceEq,↓reduceIte,hf,t37,←hF]
      refine (hI _ (t3b _ _ _)).mono ?_
      rintro w σ1 ⟨rfl,rfl⟩
      rw [s3b]
      simp (disch:=first|assumption|omega) only [go_sem,Nat.reduceEqDiff,Nat.reduceAdd,Nat.reduceLeDiff,↓reduceIte,Bool.true_and,hf,t37,s37]
      refine (hS _ (U3 _ _ _)).mono ?_
      rintro w σ1 ⟨rfl,rfl⟩
      unfold sgAV
      cases hsg:sgT t with
      | some m=>
        rw [hsg] at hh
        dsimp only
        simp (disch:=first|assumption|omega) only [go_sem,Nat.reduceEqDiff,↓reduceIte]
        refine fin 0 t .zero .zero 0 true P E _ hh ?_
        simp (disch:=first|assumption|omega) only [go_sem,reduceCtorEq,Nat.reduceEqDiff,↓reduceIte,hf]
      | none=>
        rw [hsg] at hh
        dsimp only
        simp (disch:=first|assumption|omega) only [go_sem,Nat.reduceEqDiff,↓reduceIte]
        refine fin 0 t .zero .zero 0 false P E _ hh ?_
        simp (disch:=first|assumption|omega) only [go_sem,reduceCtorEq,Nat.reduceEqDiff,↓reduceIte,hf]
     by_cases h5:op=5
     ·have hh:headR s op p1=⟨0,[],(refR s p1 0).1.1,.zero,0,(refR s p1 0).1.2,(refR s p1 0).2.1,(refR s p1 0).2.2⟩:=by unfold headR;rw [if_neg h134,if_neg h2,if_pos h5]
      have ha:arity op=0:=by unfold arity;rw [if_neg (by omega),if_neg (by omega)]
      rw [ha] at hf
      have hI:=fun τ h=>getref_ok s p1 0 b τ h hs f2
      generalize refR s p1 0=V at *
      obtain ⟨⟨r,ok⟩,P,E⟩:=V
      dsimp only at hh hI
      unfold refAV at hI
      subst h5
      simp (disch:=first|assumption|omega) only [go_sem,reduceCtorEq,Nat.reduceEqDiff,Int.reduceEq,↓reduceIte,hf,t37,←hF]
      refine (hI _ (t3b _ _ _)).mono ?_
      rintro w σ1 ⟨rfl,rfl⟩
      rw [s3b]
      simp (disch:=first|assumption|omega) only [go_sem,Nat.reduceEqDiff,Nat.reduceAdd,Nat.reduceLeDiff,↓reduceIte,Bool.true_and,hf,t37,s37]
      refine fin 0 [] r .zero 0 ok P E _ hh ?_
      simp (disch:=first|assumption|omega) only [go_sem,reduceCtorEq,Nat.reduceEqDiff,↓reduceIte,hf]
     by_cases h6:op=6
     ·have hh:headR s op p1=⟨0,[],(refR s p1 0).1.1,(refR s (refR s p1 0).2.1 (refR s p1 0).2.2).1.1,0,(refR s (refR s p1 0).2.1 (refR s p1 0).2.2).1.2 && (refR s p1 0).1.2,(refR s (refR s p1 0).2.1 (refR s p1 0).2.2).2.1,(refR s (refR s p1 0).2.1 (refR s p1 0).2.2).2.2⟩:=by
       unfold headR;rw [if_neg h134,if_neg h2,if_neg h5,if_pos h6]
      have ha:arity op=0:=by unfold arity;rw [if_neg (by omega),if_neg (by omega)]
      rw [ha] at hf
      have hI:=fun τ h=>getref_ok s p1 0 b τ h hs f2
      have r1:=refR_facts s p1 0 f2
      generalize refR s p1 0=V at *
      obtain ⟨⟨r,ok⟩,P,E⟩:=V
      dsimp only at hh hI r1
      have hJ:=fun τ h=>getref_ok s P E b τ h hs r1
      generalize refR s P E=V at *
      obtain ⟨⟨r',ok'⟩,P',E'⟩:=V
      dsimp only at hh hJ
      unfold refAV at hI hJ
      subst h6
      simp (disch:=first|assumption|omega) only [go_sem,reduceCtorEq,Nat.reduceEqDiff,Int.reduceEq,↓reduceIte,hf,t37,←hF]
      refine (hI _ (t3b _ _ _)).mono ?_
      rintro w σ1 ⟨rfl,rfl⟩
      rw [s3b]
      simp (disch:=first|assumption|omega) only [go_sem,reduceCtorEq,Nat.reduceEqDiff,Nat.reduceAdd,Nat.reduceLeDiff,↓reduceIte,Bool.true_and,hf,t37,s37]
      refine (hJ _ (t3b _ _ _)).mono ?_
      rintro w σ1 ⟨rfl,rfl⟩
      rw [s3b]
      cases ok'
      all_goals
       simp (disch:=first|assumption|omega) only [go_sem,Nat.reduceEqDiff,Nat.reduceAdd,Nat.reduceLeDiff,↓reduceIte,Bool.true_and,hf,t37,s37]
       refine fin 0 [] r r' 0 _ P' E' _ hh ?_
       simp (disch:=first|assumption|omega) only [go_sem,reduceCtorEq,Nat.reduceEqDiff,↓reduceIte,Bool.true_and,Bool.false_and,hf]
     by_cases h22:op=22
     ·have hh:headR s op p1=⟨0,(rtxP s p1 0 2000).1,.zero,.zero,min (readU s (rtxP s p1 0 2000).2.1 (rtxP s p1 0 2000).2.2).1 2001,nameOkP (rtxP s p1 0 2000).1 && decide (min (readU s (rtxP s p1 0 2000).2.1 (rtxP s p1 0 2000).2.2).1 2001<=2000),
        (readU s (rtxP s p1 0 2000).2.1 (rtxP s p1 0 2000).2.2).2.1,(readU s (rtxP s p1 0 2000).2.1 (rtxP s p1 0 2000).2.2).2.2⟩:=by
       unfold headR;rw [if_neg h134,if_neg h2,if_neg h5,if_neg h6,if_pos h22]
      have hI:=fun τ h=>rtext_ok s p1 0 2000 b τ h hs2 f2 (by omega)
      obtain ⟨w1,w2⟩:=rtxP_facts s p1 2000 f2
      rw [e2000] at hI
      generalize rtxP s p1 0 2000=V at *
      obtain ⟨t,P,E⟩:=V
      dsimp only at hh hI w1 w2
      have hS:=fun τ h=>ename_ok (σ:=τ) h t (by omega)
      have hJ:=fun τ h=>ruint_ok s P E b τ h hs2 w1
      obtain ⟨w3,_⟩:=readU_facts s P E w1
      generalize readU s P E=V at *
      obtain ⟨c,P',E'⟩:=V
      dsimp only at hh hJ w3
      have hmn:min (c:Int) 2001=((min c 2001:Nat):Int):=by omega
      generalize hc:min c 2001=cnt at *
      have hcw:IntKind.wrap .i64 (cnt:Int)=cnt:=by rw [IntKind.wrap_i64];omega
      have hdc:decide ((cnt:Int)<=2000)=decide (cnt<=2000):=decide_eq_decide.2 (by omega)
      subst h22
      simp (disch:=first|assumption|omega) only [go_sem,reduceCtorEq,Nat.reduceEqDiff,Int.reduceEq,↓reduceIte,hf,t37,←hF]
      refine (hI _ (t3b _ _ _)).mono ?_
      rintro w σ1 ⟨rfl,rfl⟩
      rw [s3b]
      simp (disch:=first|assumption|omega) only [go_sem,reduceCtorEq,Nat.reduceEqDiff,Nat.reduceAdd,Nat.reduceLeDiff,↓reduceIte,Bool.true_and,hf,t37,s37]
      refine (hJ _ (t3b _ _ _)).mono ?_
      rintro w σ1 ⟨rfl,rfl⟩
      rw [s3b]
      simp (disch:=first|assumption|omega) only [go_sem,Nat.reduceEqDiff,↓reduceIte,hf,t37,hmn]
      refine (hS _ (U3 _ _ _)).mono ?_
      rintro w σ1 ⟨rfl,rfl⟩
      cases hno:nameOkP t with
      | false=>
        rw [hno] at hh
        simp (disch:=first|assumption|omega) only [go_sem,Nat.reduceEqDiff,↓reduceIte]
        refine fin 0 t .zero .zero cnt false P' E' _ hh ?_
        simp (disch:=first|assumption|omega) only [go_sem,reduceCtorEq,Nat.reduceEqDiff,↓reduceIte,hf]
      | true=>
        rw [hno,Bool.true_and] at hh
        simp (disch:=first|assumption|omega) only [go_sem,Nat.reduceEqDiff,↓reduceIte,hdc]
        refine fin 0 t .zero .zero cnt (decide (cnt<=2000)) P' E' _ hh ?_
        simp (disch:=first|assumption|omega) only [go_sem,reduceCtorEq,Nat.reduceEqDiff,↓reduceIte,hf]
     have hh:headR s op p1=⟨0,[],.zero,.zero,arity op,true,p1,0⟩:=by unfold headR;rw [if_neg h134,if_neg h2,if_neg h5,if_neg h6,if_neg h22]
     simp (disch:=first|assumption|omega) only [go_sem,Nat.reduceEqDiff,↓reduceIte,hf,g1,g3,g4,h2,h5,h6,h22,t37,←hF]
     refine fin 0 [] .zero .zero (arity op) true p1 0 _ hh ?_
     simp (disch:=first|assumption|omega) only [go_sem,reduceCtorEq,Nat.reduceEqDiff,↓reduceIte,hf]
    clear fin
    rw [hZ12] at brs
    unfold zero12 at brs
    simp (disch:=first|assumption|omega) only [go_sem,Nat.reduceEqDiff,Nat.reduceAdd,Nat.reduceLeDiff,↓reduceIte,Bool.true_and,hT3,s37,t37,←hB]
    refine hki.use ?_
    simp (disch:=first|assumption|omega) only [go_sem,↓reduceIte]
    refine brs _ ?_
    simp (disch:=first|assumption|omega) only [go_sem,reduceCtorEq,Nat.reduceEqDiff,↓reduceIte]
   ·rw [if_pos he] at hR
    subst hR
    simp (disch:=first|assumption|omega) only [go_sem,reduceCtorEq,↓reduceIte,he]
    refine (rerr_ok s p1 e1 b _ (t2b _ _)).mono ?_
    rintro v σ1 ⟨rfl,rfl⟩
    rw [hQ]
    simp (disch:=first|assumption|omega) only [go_sem,Nat.reduceEqDiff,Nat.reduceAdd,Nat.reduceLeDiff,↓reduceIte,Bool.true_and,t24,s24]
    exact retC_by (d2 _ _) (.refl _) ⟨rfl,rfl⟩
end Go.A
namespace Go.A
open Go.Proofs Go.Lib Go.Vint
theorem arity_0 {op:Int} (h:op=1\/op=2\/op=3\/op=4\/op=5\/op=6):arity op=0:=by
 unfold arity
 rw [if_neg (by omega),if_neg (by omega)]
theorem drop_len {s l r:List UInt8} {p:Nat} (h:s.drop p=l++r):s.length-p=l.length+r.length:=by
 have:=congrArg List.length h
 rwa [List.length_drop,List.length_append] at this
theorem rtx_back {s t r:List UInt8} {p most:Nat} (h:s.drop p=textB t++r) (ht:t.length<=most) (hm:most<=1000000):rtxP s p 0 most=(t,p+(textB t).length,0):=by
 unfold textB at h ⊢
 rw [List.append_assoc] at h
 have hU:=readU_uint h (by omega)
 have hd:=drop_app h
 have hl:=drop_len h
 rw [List.length_append] at hl
 have hp:=uintB_pos t.length
 unfold rtxP
 rw [hU]
 dsimp only
 rw [if_neg (by simp),if_neg (by omega),if_neg (by omega),hd,List.take_left,List.length_append,Nat.add_assoc]
theorem ref_back {s q:List UInt8} {r:Ref} {p:Nat} (h:s.drop p=rfB r++q) (hr:r.good=true):refR s p 0=((r,true),p+(rfB r).length,0):=by
 obtain ⟨r1,r2,r3,r4⟩:=good_bd hr
 obtain ⟨row,col,ar,ac⟩:=r
 dsimp only at r1 r2 r3 r4
 obtain ⟨w,hw⟩:∃ w,absN ⟨row,col,ar,ac⟩+4*row.toNat=w:=⟨_,rfl⟩
 have hw3:absN ⟨row,col,ar,ac⟩<=3:=by unfold absN;split<;>split<;>omega
 unfold rfB at h ⊢
 rw [hw] at h ⊢
 dsimp only at h ⊢
 rw [List.append_assoc] at h
 have hU:=readU_uint h (by omega)
 have hd:=drop_app h
 have hV:=readU_uint hd (by omega)
 unfold refR
 rw [hU]
 dsimp only
 rw [hV]
 dsimp only
 rw [if_neg (by omega),List.length_append,Nat.add_assoc]
 have e1:((w / 4:Nat):Int)=row:=by omega
 have e2:((col.toNat:Nat):Int)=col:=by omega
 have e3:decide (w % 2=1)=ar:=by
  unfold absN at hw
  cases ar<;>cases ac<;>simp only [Bool.false_eq_true,if_false,if_true] at hw<;>simp<;>omega
 have e4:decide (w / 2 % 2=1)=ac:=by
  unfold absN at hw
  cases ar<;>cases ac<;>simp only [Bool.false_eq_true,if_false,if_true] at hw<;>simp<;>omega
 rw [e1,e2,e3,e4]
theorem value_back {op n:Int} {s:List UInt8} {a b:Ref} {k:Nat} (h:GdN op n s a b k) (h1:op=1\/op=3\/op=4):valueP op n=true:=by
 have n1:=h.n1
 have n3:=h.n3
 have n4:=h.n4
 unfold valueP
 by_cases c3:op=3
 ·rw [if_pos c3]
  have:=n3 c3
  simpa using this
 rw [if_neg c3]
 by_cases c4:op=4
 ·rw [if_pos c4]
  obtain ⟨m1,m2,m3⟩:=n4 c4
  have hm:=Int.mul_tdiv_add_tmod n 10000
  have hf:failT 4 n ≠ []:=by
   unfold failT
   rw [if_neg (by omega)]
   have hc:n.tdiv 10000=1\/n.tdiv 10000=2\/n.tdiv 10000=3\/n.tdiv 10000=4\/n.tdiv 10000=5\/n.tdiv 10000=6\/n.tdiv 10000=7:=by omega
   rcases hc with hc|hc|hc|hc|hc|hc|hc<;>(rw [hc];decide)
  simp [m1,hf]
 rw [if_neg c4]
 have:=n1 (by omega)
 simp;omega
theorem head_back {s r:List UInt8} {op n:Int} {s':List UInt8} {a b:Ref} {k p:Nat} (hg:GdN op n s' a b k) (h:s.drop p=restB op n s' a b k++r):headR s op p=⟨n,s',a,b,k,true,p+(restB op n s' a b k).length,0⟩:=by
 have hn:=hg.num
 unfold headR
 unfold restB at h ⊢
 by_cases c1:op=1\/op=3\/op=4
 ·rw [if_pos c1] at h ⊢
  rw [if_pos c1]
  have hfb:=foldI_bd (n:=n) (by omega) (by omega)
  rw [readU_uint h (by omega)]
  dsimp only
  rw [unf_fold (by omega) (by omega),value_back hg c1,hg.s0 (by omega) (by omega),hg.a0 (by omega) (by omega),hg.b0 (by omega),hg.ar (by omega),arity_0 (by omega)]
 rw [if_neg c1] at h ⊢
 rw [if_neg c1]
 by_cases c2:op=2
 ·rw [if_pos c2] at h ⊢
  rw [if_pos c2,rtx_back h (hg.s2 c2).1 (by omega)]
  dsimp only
  rw [(hg.s2 c2).2,hg.n0 (by omega) (by omega) (by omega),hg.a0 (by omega) (by omega),hg.b0 (by omega),hg.ar (by omega),arity_0 (by omega)]
 rw [if_neg c2] at h ⊢
 rw [if_neg c2]
 by_cases c5:op=5
 ·rw [if_pos c5] at h ⊢
  rw [if_pos c5,ref_back h (hg.ga (.inl c5))]
  dsimp only
  rw [hg.n0 (by omega) (by omega) (by omega),hg.s0 (by omega) (by omega),hg.b0 (by omega),hg.ar (by omega),arity_0 (by omega)]
 rw [if_neg c5] at h ⊢
 rw [if_neg c5]
 by_cases c6:op=6
 ·rw [if_pos c6] at h ⊢
  rw [List.append_assoc] at h
  rw [if_pos c6,ref_back h (hg.ga (.inr c6))]
  dsimp only
  rw [ref_back (drop_app h) (hg.gb c6)]
  dsimp only
  rw [hg.n0 (by omega) (by omega) (by omega),hg.s0 (by omega) (by omega),hg.ar (by omega),arity_0 (by omega),List.length_append,Nat.add_assoc]
  rfl
 rw [if_neg c6] at h ⊢
 rw [if_neg c6]
 by_cases c22:op=22
 ·rw [if_pos c22] at h ⊢
  obtain ⟨g1,g2,g3⟩:=hg.s22 c22
  rw [List.append_assoc] at h
  rw [if_pos c22,rtx_back h g1 (by omega)]
  dsimp only
  rw [readU_uint (drop_app h) (by omega)]
  dsimp only
  have hmn:min k 2001=k:=by omega
  rw [hmn,g2,decide_eq_true g3,hg.n0 (by omega) (by omega) (by omega),hg.a0 (by omega) (by omega),hg.b0 (by omega),List.length_append,Nat.add_assoc]
  rfl
 rw [if_neg c22]
 rw [if_neg c22]
 rw [hg.n0 (by omega) (by omega) (by omega),hg.s0 c2 c22,hg.a0 c5 c6,hg.b0 c6,← hg.ar c22]
 rfl
theorem kids_back {s:List UInt8} {g:Nat->Nd×Int×Nat×Int} (mk:List Nd->Nd):∀ (ks D:List Nd) (p:Nat) (r:List UInt8),(∀ x∈ks,∀ p r,s.drop p=x.bytes++r->g p=(x,0,p+x.bytes.length,0)) →
  s.drop p=Nd.bytess ks++r->kidsR g mk ks.length D p=(mk (D++ks),0,p+(Nd.bytess ks).length,0)
 | [],D,p,r,_,_=>by rw [List.length_nil,kidsR,List.append_nil];rfl
 | x::ks,D,p,r,hg,h=>by
   rw [Nd.bytess,List.append_assoc] at h
   rw [List.length_cons,kidsR,hg x (by simp) p _ h]
   dsimp only
   rw [if_neg (by simp),kids_back mk ks (D ++ [x]) _ r (fun y hy=>hg y (by simp [hy])) (drop_app h),Nd.bytess,List.length_append,Nat.add_assoc,List.append_assoc]
   rfl
theorem tree_back {s:List UInt8}:∀ (k:Nat) (n:Nd),n.wd->n.depth<=k->∀ (p:Nat) (r:List UInt8),s.drop p=n.bytes++r->treeR s k p=(n,0,p+n.bytes.length,0)
 | 0,n,_,hd=>by cases n;rw [Nd.depth] at hd;omega
 | k+1,n,hg,hd=>by
   intro p r h
   obtain ⟨op,m,s',a,b,ks⟩:=n
   rw [Nd.wd] at hg
   obtain ⟨hg,hgs⟩:=hg
   rw [Nd.depth] at hd
   have hk:∀ x∈ks,x.depth<=k:=by
    have key:∀ l:List Nd,Nd.depths l<=k->∀ x∈l,x.depth<=k:=by
     intro l
     induction l with
     | nil=>intro _ x hx;cases hx
     | cons y l ih=>
       intro hl x hx
       rw [Nd.depths] at hl
       rcases List.mem_cons.1 hx with rfl|hx
       ·omega
       ·exact ih (by omega) x hx
    exact key ks (by omega)
   have o1:=hg.op1
   have o2:=hg.op2
   obtain ⟨u,rfl⟩:∃ u:Nat,op=u:=⟨op.toNat,by omega⟩
   rw [Nd.bytes,Int.toNat_natCast] at h ⊢
   rw [List.append_assoc,List.append_assoc] at h
   have hU:=readU_uint h (by omega)
   have h2:=drop_app h
   have hH:=head_back hg h2
   have h3:=drop_app h2
   have hK:=kids_back (g:=treeR s k) (fun ks=>Nd.mk (u:Int) m s' a b ks) ks [] _ r (fun x hx p r hp=>tree_back k x (Nd.wds_mem.1 hgs x hx) (hk x hx) p r hp) h3
   rw [treeR,hU]
   dsimp only
   rw [hH]
   dsimp only
   rw [if_neg (by simp),if_neg (by omega),if_neg (by simp),if_neg (by simp),hK,List.length_append,List.length_append,List.nil_append,← Nat.add_assoc,← Nat.add_assoc]
end Go.A
namespace Go.A
open Go.Proofs Go.Lib
mutual
def Nd.strs (B:Nat):Nd->Prop
 | .mk _ _ s _ _ ks=>s.length<=B/\Nd.strss B ks
def Nd.strss (B:Nat):List Nd->Prop
 | []=>True
 | x::xs=>x.strs B/\Nd.strss B xs
end
theorem Nd.strss_mem {B:Nat}:∀ {l:List Nd},Nd.strss B l↔∀ x∈l,x.strs B
 | []=>by simp [Nd.strss]
 | y::l=>by rw [Nd.strss,Nd.strss_mem (l:=l)];simp
section
variable {T:List Tok} {B:Nat}
structure StrF (T:List Tok) (B:Nat) (f:Nat):Prop where
 betw:∀ lvl s r,betwP T f lvl s=some r->r.1.strs B
 loop:∀ lvl n s r,loopP T f lvl n s=some r->n.strs B->r.1.strs B
 signed:∀ s r,signedP T f s=some r->r.1.strs B
 hundred:∀ s r,hundredP T f s=some r->r.1.strs B
 hloop:∀ n s r,hloopP T f n s=some r->n.strs B->r.1.strs B
 prim:∀ s r,primP T f s=some r->r.1.strs B
 name:∀ s r,nameP T f s=some r->r.1.strs B
 args:∀ s r,argsP T f s=some r->Nd.strss B r.1
 aloop:∀ l s r,aloopP T f l s=some r->Nd.strss B l->Nd.strss B r.1
theorem strs_leaf (op n:Int) (a b:Ref):(Nd.mk op n [] a b []).strs B:=by
 rw [Nd.strs,Nd.strss]
 exact ⟨Nat.zero_le _,trivial⟩
theorem strF (hB:∀ s,(curT T s).text.length<=B):∀ f,StrF T B f
 | 0=>by
   constructor
   all_goals intros
   all_goals first
    | (rename_i h;simp only [betwP,signedP,hundredP,primP,nameP,argsP,reduceCtorEq] at h)
    | (rename_i h _;simp only [loopP,hloopP,aloopP,reduceCtorEq] at h)
 | f+1=>by
   have ih:=strF hB f
   have hz:zN.strs B:=strs_leaf _ _ _ _
   constructor
   ·intro lvl s r h
    rw [betwP] at h
    split at h
    ·exact ih.signed s r h
    ·split at h
     ·cases h
     ·rename_i r1 h1
      exact ih.loop _ _ _ _ h (ih.betw _ _ _ h1)
   ·intro lvl n s r h hn
    rw [loopP] at h
    split at h
    ·split at h
     ·cases h
     ·rename_i r1 h1
      refine ih.loop _ _ _ _ h ?_
      rw [Nd.strs,Nd.strss,Nd.strss,Nd.strss]
      exact ⟨Nat.zero_le _,hn,ih.betw _ _ _ h1,trivial⟩
    ·injection h with h;subst h;exact hn
   ·intro s r h
    rw [signedP] at h
    split at h
    ·split at h
     ·cases h
     ·rename_i r1 h1
      injection h with h;subst h
      dsimp only
      rw [Nd.strs,Nd.strss,Nd.strss]
      exact ⟨Nat.zero_le _,ih.signed _ _ h1,trivial⟩
    split at h
    ·split at h
     ·cases h
     ·rename_i r1 h1
      injection h with h;subst h
      dsimp only
      rw [Nd.strs,Nd.strss,Nd.strss]
      exact ⟨Nat.zero_le _,ih.signed _ _ h1,trivial⟩
    ·exact ih.hundred _ _ h
   ·intro s r h
    rw [hundredP] at h
    split at h
    ·cases h
    ·rename_i r1 h1
     exact ih.hloop _ _ _ h (ih.prim _ _ h1)
   ·intro n s r h hn
    rw [hloopP] at h
    split at h
    ·refine ih.hloop _ _ _ h ?_
     rw [Nd.strs,Nd.strss,Nd.strss]
     exact ⟨Nat.zero_le _,hn,trivial⟩
    ·injection h with h;subst h;exact hn
   ·intro s r h
    rw [primP] at h
    split at h
    ·split at h
     ·injection h with h;subst h;exact hz
     ·injection h with h;subst h;exact strs_leaf _ _ _ _
    split at h
    ·injection h with h;subst h
     dsimp only
     rw [Nd.strs,Nd.strss]
     exact ⟨hB s,trivial⟩
    split at h
    ·injection h with h;subst h;exact strs_leaf _ _ _ _
    split at h
    ·injection h with h;subst h
     unfold areaP
     split
     ·exact strs_leaf _ _ _ _
     ·split
      ·first|exact hz|exact strs_leaf _ _ _ _
      ·exact strs_leaf _ _ _ _
    split at h
    ·exact ih.name _ _ h
    split at h
    ·split at h
     ·cases h
     ·rename_i r1 h1
      injection h with h;subst h
      exact (ih.betw _ _ r1 h1:r1.1.strs B)
    ·injection h with h;subst h;exact hz
   ·intro s r h
    rw [nameP] at h
    split at h
    ·split at h
     ·injection h with h;subst h;exact hz
     ·split at h
      ·cases h
      ·rename_i r1 h1
       injection h with h;subst h
       dsimp only
       rw [Nd.strs]
       exact ⟨hB s,ih.args _ _ h1⟩
    split at h
    ·injection h with h;subst h;exact strs_leaf _ _ _ _
    split at h
    ·injection h with h;subst h;exact strs_leaf _ _ _ _
    ·injection h with h;subst h;exact hz
   ·intro s r h
    rw [argsP] at h
    split at h
    ·injection h with h;subst h;rw [Nd.strss];trivial
    ·exact ih.aloop _ _ _ h (by rw [Nd.strss];trivial)
   ·intro l s r h hl
    rw [aloopP] at h
    split at h
    ·injection h with h;subst h;exact hl
    ·split at h
     ·cases h
     ·rename_i r1 h1
      have key:r1.1.strs B:=by
       split at h1
       ·injection h1 with h1;subst h1;exact strs_leaf _ _ _ _
       ·exact ih.betw _ _ _ h1
      have hmem:Nd.strss B (l ++ [r1.1]):=by
       rw [Nd.strss_mem] at hl ⊢
       intro x hx
       rcases List.mem_append.1 hx with hx|hx
       ·exact hl x hx
       ·simp at hx;subst hx;exact key
      split at h
      ·exact ih.aloop _ _ _ h hmem
      ·injection h with h;subst h;exact hmem
end
theorem stepP_len (r:List UInt8) {kd:Int} {t:List UInt8} {n:Nat} (h:stepP r = .tok kd t n):t.length<=4*r.length+8:=by
 unfold stepP at h
 dsimp only at h
 split at h
 ·simp at h
 split at h
 ·simp at h
 split at h
 ·unfold wordsS at h
  dsimp only at h
  have hw:(r.take (runL wordB r)).length<=r.length:=by rw [List.length_take];omega
  split at h
  ·simp only [Step.tok.injEq] at h
   obtain ⟨rfl,rfl,rfl⟩:=h
   omega
  split at h
  ·simp only [Step.tok.injEq] at h
   obtain ⟨rfl,rfl,rfl⟩:=h
   rw [greatP_len];omega
  split at h
  ·simp only [Step.tok.injEq] at h
   obtain ⟨rfl,rfl,rfl⟩:=h
   rw [greatP_len];omega
  ·simp at h
 split at h
 ·obtain ⟨rfl,h2⟩:=quotedF_len _ _ _ _ _ _ _ h
  rw [List.length_drop] at h2
  simp only [List.length_nil] at h2
  omega
 split at h
 ·obtain ⟨rfl,h2⟩:=failS_gd _ _ _ _ _ h
  have hq:∀ x∈errTexts,x.length<=8:=by decide
  have:=hq t h2
  omega
 ·unfold opS at h
  split at h
  ·simp only [Step.tok.injEq] at h
   obtain ⟨rfl,rfl,rfl⟩:=h
   have:=alikeP_len ((decodeL r).1:Int)
   omega
  ·split at h
   ·rename_i e he
    simp only [Step.tok.injEq] at h
    obtain ⟨rfl,rfl,rfl⟩:=h
    have:=twos_len e (twoS_fits r _ _ he).1
    omega
   ·split at h
    ·simp only [Step.tok.injEq] at h
     obtain ⟨rfl,rfl,rfl⟩:=h
     rw [List.length_take];omega
    ·simp at h
theorem lexF_len {B:Nat}:∀ (k:Nat) (r:List UInt8) (a c:Nat) (acc L:List Tok) (x:Nat),4*r.length+8<=B->lexF k r a c acc=(L,x,0)->(∀ t∈acc,t.text.length<=B)->(∀ t∈L,t.text.length<=B)/\L.length<=acc.length+r.length+1
 | 0,r,a,c,acc,L,x,hr,h,hacc=>by simp [lexF] at h
 | k+1,r,a,c,acc,L,x,hr,h,hacc=>by
   rw [lexF] at h
   split at h
   ·simp only [Prod.mk.injEq] at h
    obtain ⟨rfl,_⟩:=h
    refine ⟨fun t ht=>?_,by rw [List.length_append,List.length_singleton];omega⟩
    rcases List.mem_append.1 ht with ht|ht
    ·exact hacc t ht
    ·simp at ht;subst ht;exact Nat.zero_le _
   ·rename_i hne
    have hpos:=List.length_pos_iff.2 hne
    split at h
    ·simp at h
    ·have:=lexF_len (B:=B) k _ _ _ _ _ _ (by rw [List.length_drop];omega) h hacc
     rw [List.length_drop] at this
     exact ⟨this.1,by omega⟩
    ·rename_i kd t n hst
     obtain ⟨f1,f2⟩:=(stepP_fits r hne).2 kd t n hst
     have:=lexF_len (B:=B) k _ _ _ _ _ _ (by rw [List.length_drop];omega) h (fun u hu=>by
      rcases List.mem_append.1 hu with hu|hu
      ·exact hacc u hu
      ·simp at hu;subst hu;have h9:=stepP_len r hst;exact Nat.le_trans h9 hr)
     rw [List.length_drop,List.length_append,List.length_singleton] at this
     exact ⟨this.1,by omega⟩
theorem lexP_len {s:List UInt8} (h:(lexP s).2.2=0):(∀ t∈(lexP s).1,t.text.length<=4*s.length+8)/\(lexP s).1.length<=s.length+1:=by
 unfold lexP at h ⊢
 split
 ·rename_i hl;rw [if_pos hl] at h;cases h
 ·rename_i hl
  rw [if_neg hl] at h
  obtain ⟨R,hR⟩:∃ R,lexF (s.length+1) s 0 0 []=R:=⟨_,rfl⟩
  rw [hR] at h ⊢
  obtain ⟨L,x,e⟩:=R
  dsimp only at h ⊢
  subst h
  have:=lexF_len (B:=4*s.length+8) _ _ _ _ _ _ _ (Nat.le_refl _) hR (by simp)
  exact ⟨this.1,by simpa using this.2⟩
theorem parseR_small {s:List UInt8} (h:(parseR s).2.2=0):(parseR s).1.strs (4*s.length+8)/\(parseR s).1.size<=2*s.length+2:=by
 unfold parseR parseT at h ⊢
 by_cases h1:(lexP s).2.2=0
 ·obtain ⟨hT,hL,hG⟩:=lex_toks h1
  obtain ⟨hl1,hl2⟩:=lexP_len h1
  obtain ⟨r,hr⟩:=betw_some h1
  have hr':=hr
  unfold st0 at hr
  rw [if_neg (by simp [h1]),hr] at h ⊢
  dsimp only at h ⊢
  have W:=(wentF hT.ends _).betw _ _ _ hr' (st0_fit hT.ends)
  obtain ⟨q,hq⟩:∃ q,(if (curT (lexP s).1 r.2).kind≠0 then failP (lexP s).1 r.2 10 else r.2)=q:=⟨_,rfl⟩
  rw [hq] at h ⊢
  by_cases he:q.err≠0
  ·rw [if_pos he] at h
   exact absurd h he
  ·rw [if_neg he]
   have h0:r.2.err=0:=by
    split at hq
    ·subst hq
     exact absurd (by simpa using he) fun h=>fail_err (T:=(lexP s).1) (s:=r.2) (e:=10) (by decide) h
    ·subst hq
     simpa using he
   obtain ⟨g1,g2⟩:=(goodF hT.ends hG (by omega) _).betw _ _ _ hr' (st0_fit hT.ends) h0
   have:=W.fit.i
   have hB:∀ p,(curT (lexP s).1 p).text.length<=4*s.length+8:=fun p=>by
    unfold curT
    split
    ·exact Nat.zero_le _
    ·rw [List.getD_eq_getElem?_getD]
     cases hx:(lexP s).1[p.i]? with
     | none=>exact Nat.zero_le _
     | some t=>exact hl1 t (List.mem_of_getElem? hx)
   refine ⟨(strF hB _).betw _ _ _ hr',?_⟩
   show r.1.size<=_
   omega
 ·rw [if_pos (by simpa using h1)] at h
  exact absurd h h1
theorem kt_of {t:Tok} {k:Int} {x:List UInt8} (h:kt t=(k,x)):t.kind=k/\t.text=x:=by
 unfold kt at h
 injection h with h1 h2
 exact ⟨h1,h2⟩
theorem name_alone {s:List UInt8} (h:NameOk s) (hl:s.length<=2000):nameOkP s=true:=by
 have h1:=lx_name h [] (fun c t e=>by cases e)
 rw [List.append_nil,relP_nil] at h1
 unfold nameOkP
 rw [lexP_rel hl]
 generalize relP s=R at *
 cases R with
 | inl j=>simp [kts] at h1
 | inr x=>
   obtain ⟨ts,m⟩:=x
   simp only [kts,List.map_nil,Option.map_some,List.append_nil,Option.some.injEq] at h1
   match ts,h1 with
   | [],h1=>cases h1
   | t::u::l,h1=>simp at h1
   | [t],h1=>
     injection h1 with h1
     obtain ⟨k1,k2⟩:=kt_of h1
     simp [endOf,k1,k2,Tok.sh]
theorem gdN_num {n:Int} (h0:0<=n) (h1:n<=999999999999999999):GdN 1 n [] .zero .zero 0 where
 op1:=by decide
 op2:=by decide
 n1:=fun _=>⟨h0,h1⟩
 n3:=fun h=>by omega
 n4:=fun h=>by omega
 n0:=fun h=>absurd rfl h
 s2:=fun h=>by omega
 s22:=fun h=>by omega
 s0:=fun _ _=>rfl
 ga:=fun h=>by omega
 a0:=fun _ _=>rfl
 gb:=fun h=>by omega
 b0:=fun _=>rfl
 ar:=fun _=>rfl
theorem nf_wd {n:Nd} (h:Nf n):n.strs 2000->n.size<=2000->n.wd:=by
 have leaf:∀ (op m:Int) (s:List UInt8) (a b:Ref),GdN op m s a b 0->(Nd.mk op m s a b []).wd:=fun op m s a b h=>by
  rw [Nd.wd,Nd.wds]
  exact ⟨h,trivial⟩
 have kid:∀ {op m:Int} {s:List UInt8} {a b:Ref} {ks:List Nd} {x:Nd},x∈ks->(Nd.mk op m s a b ks).strs 2000->(Nd.mk op m s a b ks).size<=2000->x.strs 2000/\x.size<=2000:=by
  intro op m s a b ks x hx hs hz
  rw [Nd.strs,Nd.strss_mem] at hs
  refine ⟨hs.2 x hx,?_⟩
  rw [Nd.size] at hz
  have:∀ l:List Nd,x∈l->x.size<=Nd.sizes l:=by
   intro l
   induction l with
   | nil=>intro h;cases h
   | cons y l ih=>
     intro h
     rw [Nd.sizes]
     rcases List.mem_cons.1 h with rfl|h
     ·omega
     ·have:=ih h;omega
  have:=this ks hx
  omega
 induction h with
 | num h0 h1=>exact fun _ _=>leaf _ _ _ _ _ (gdN_num h0 h1)
 | @text s h0 h1=>
   intro hs _
   rw [Nd.strs] at hs
   have hsg:(sgT s).isSome=true:=by
    have e:sgT s=sgP s:=rfl
    rw [e]
    cases hq:sgP s with
    | none=>exact absurd hq h0
    | some x=>rfl
   exact leaf _ _ _ _ _ ⟨by decide,by decide,fun h=>by omega,fun h=>by omega,fun h=>by omega,fun _ _ _=>rfl,fun _=>⟨hs.1,hsg⟩,fun h=>by omega,fun h=>absurd rfl h,fun h=>by omega,fun _ _=>rfl,fun h=>by omega,fun _=>rfl,fun _=>rfl⟩
 | @truth b hb=>exact fun _ _=>leaf _ _ _ _ _ ⟨by decide,by decide,fun h=>by omega,fun _=>hb,fun h=>by omega,fun _ h=>absurd rfl h,fun h=>by omega,fun h=>by omega,fun _ _=>rfl,fun h=>by omega,fun _ _=>rfl,fun h=>by omega,fun _=>rfl,fun _=>rfl⟩
 | @fail k hk=>exact fun _ _=>leaf _ _ _ _ _ ⟨by decide,by decide,fun h=>by omega,fun h=>by omega,fun _=>⟨by have:(((k:Int)+1)*10000).tmod 10000=0:=Int.mul_tmod_left _ _;exact this,by omega,by omega⟩,fun _ _ h=>absurd rfl h,fun h=>by omega,fun h=>by omega,fun _ _=>rfl,fun h=>by omega,fun _ _=>rfl,fun h=>by omega,fun _=>rfl,fun _=>rfl⟩
 | @cell r hr=>exact fun _ _=>leaf _ _ _ _ _ ⟨by decide,by decide,fun h=>by omega,fun h=>by omega,fun h=>by omega,fun _ _ _=>rfl,fun h=>by omega,fun h=>by omega,fun _ _=>rfl,fun _=>hr,fun h=>absurd rfl h,fun h=>by omega,fun _=>rfl,fun _=>rfl⟩
 | @area r q hr hq=>exact fun _ _=>leaf _ _ _ _ _ ⟨by decide,by decide,fun h=>by omega,fun h=>by omega,fun h=>by omega,fun _ _ _=>rfl,fun h=>by omega,fun h=>by omega,fun _ _=>rfl,fun _=>hr,fun _ h=>absurd rfl h,fun _=>hq,fun h=>absurd rfl h,fun _=>rfl⟩
 | @sign op x ho hx hne ih=>
   intro hs hz
   obtain ⟨k1,k2⟩:=kid (by simp:x ∈ [x]) hs hz
   rw [Nd.wd,Nd.wds,Nd.wds]
   refine ⟨⟨by omega,by omega,fun h=>by omega,fun h=>by omega,fun h=>by omega,fun _ _ _=>rfl,fun h=>by omega,fun h=>by omega,fun _ _=>rfl,fun h=>by omega,fun _ _=>rfl,fun h=>by omega,fun _=>rfl,fun _=>?_⟩,ih k1 k2,trivial⟩
   unfold arity
   rw [if_pos (by omega)]
   rfl
 | @hund x hx hne ih=>
   intro hs hz
   obtain ⟨k1,k2⟩:=kid (by simp:x ∈ [x]) hs hz
   rw [Nd.wd,Nd.wds,Nd.wds]
   exact ⟨⟨by decide,by decide,fun h=>by omega,fun h=>by omega,fun h=>by omega,fun _ _ _=>rfl,fun h=>by omega,fun h=>by omega,fun _ _=>rfl,fun h=>by omega,fun _ _=>rfl,fun h=>by omega,fun _=>rfl,fun _=>rfl⟩,ih k1 k2,trivial⟩
 | @bin i x y hi hx hnx hy hny ihx ihy=>
   intro hs hz
   obtain ⟨k1,k2⟩:=kid (by simp:x ∈ [x,y]) hs hz
   obtain ⟨k3,k4⟩:=kid (by simp:y ∈ [x,y]) hs hz
   rw [Nd.wd,Nd.wds,Nd.wds,Nd.wds]
   refine ⟨⟨by omega,by omega,fun h=>by omega,fun h=>by omega,fun h=>by omega,fun _ _ _=>rfl,fun h=>by omega,fun h=>by omega,fun _ _=>rfl,fun h=>by omega,fun _ _=>rfl,fun h=>by omega,fun _=>rfl,fun _=>?_⟩,ihx k1 k2,ihy k3 k4,trivial⟩
   unfold arity
   rw [if_neg (by omega),if_pos (by omega)]
   rfl
 | @call s ks hn hl hk hm ih=>
   intro hs hz
   have hst:=hs
   rw [Nd.strs] at hst
   have hlen:ks.length<=2000:=by
    have:=sizes_len ks
    rw [Nd.size] at hz
    omega
   rw [Nd.wd,Nd.wds_mem]
   refine ⟨⟨by decide,by decide,fun h=>by omega,fun h=>by omega,fun h=>by omega,fun _ _ _=>rfl,fun h=>by omega,fun _=>⟨hst.1,name_alone hn hst.1,hlen⟩,fun _ h=>absurd rfl h,fun h=>by omega,fun _ _=>rfl,fun h=>by omega,fun _=>rfl,fun h=>absurd rfl h⟩,fun x hx=>?_⟩
   obtain ⟨k1,k2⟩:=kid hx hs hz
   exact ih x hx k1 k2
 | miss=>exact fun _ _=>leaf _ _ _ _ _ ⟨by decide,by decide,fun h=>by omega,fun h=>by omega,fun h=>by omega,fun _ _ _=>rfl,fun h=>by omega,fun h=>by omega,fun _ _=>rfl,fun h=>by omega,fun _ _=>rfl,fun h=>by omega,fun _=>rfl,fun _=>rfl⟩
theorem tree_strs {B:Nat} (e:Edt) {n:Nd} (h:Nf n):n.strs B->(e.tree n).strs B:=by
 have one:∀ (op:Int) (m:Int) (s:List UInt8) (a b:Ref) (ks:List Nd),¬ (op=5\/op=6)->e.tree (.mk op m s a b ks) = .mk op m s a b (ks.map e.tree):=fun op m s a b ks ho=>by
  show Nd.map e.node _=_
  rw [Nd.map,if_neg ho,Nd.maps_map]
  rfl
 have lf:∀ {op m:Int} {s:List UInt8} {a b:Ref} {ks:List Nd},¬ (op=5\/op=6)->(∀ x∈ks,x.strs B->(e.tree x).strs B)->(Nd.mk op m s a b ks).strs B->(e.tree (.mk op m s a b ks)).strs B:=by
  intro op m s a b ks ho hk hs
  rw [one _ _ _ _ _ _ ho]
  rw [Nd.strs,Nd.strss_mem] at hs ⊢
  refine ⟨hs.1,fun x hx=>?_⟩
  obtain ⟨y,hy,rfl⟩:=List.mem_map.1 hx
  exact hk y hy (hs.2 y hy)
 induction h with
 | num _ _=>exact lf (by decide) (fun x hx=>by cases hx)
 | text _ _=>exact lf (by decide) (fun x hx=>by cases hx)
 | truth _=>exact lf (by decide) (fun x hx=>by cases hx)
 | fail _=>exact lf (by decide) (fun x hx=>by cases hx)
 | @cell r hr=>
   intro _
   have ht:e.tree (.mk 5 0 [] r .zero [])=e.node (.mk 5 0 [] r .zero []):=by
    show Nd.map e.node _=_
    rw [Nd.map,if_pos (.inl rfl)]
   rw [ht]
   rcases cell_is e r .zero with ⟨h1,_⟩|⟨_,h1⟩<;>rw [h1]<;>exact strs_leaf _ _ _ _
 | @area r q hr hq=>
   intro _
   have ht:e.tree (.mk 6 0 [] r q [])=e.node (.mk 6 0 [] r q []):=by
    show Nd.map e.node _=_
    rw [Nd.map,if_pos (.inr rfl)]
   rw [ht]
   rcases area_is e r q with ⟨h1,_⟩|⟨_,h1⟩<;>rw [h1]<;>exact strs_leaf _ _ _ _
 | sign ho hx hne ih=>exact lf (by omega) (fun y hy=>by rw [List.mem_singleton.1 hy];exact ih)
 | hund hx hne ih=>exact lf (by decide) (fun y hy=>by rw [List.mem_singleton.1 hy];exact ih)
 | bin hi hx hnx hy hny ihx ihy=>
   refine lf (by omega) (fun z hz=>?_)
   simp only [List.mem_cons,List.not_mem_nil,or_false] at hz
   rcases hz with rfl|rfl
   ·exact ihx
   ·exact ihy
 | call hs' hl hk hm ih=>exact lf (by decide) ih
 | miss=>exact lf (by decide) (fun x hx=>by cases hx)
end Go.A
namespace Go.A
open Go.Proofs
/-! 23: tabular/expr.Read -/
def c23_3:ACode := .seq (.ops [ oe 2 (.alloc [(.int .i64 0),(.int .i64 0),(.str []),(.int .i64 0),(.int .i64 0),(.bool false),(.bool false),(.int .i64 0),(.int .i64 0),(.bool false),(.bool false),(.sl .full [])]),oq 3 (.mv (.v (.int .i64 0)))]) (.seq (.ops [ oq 4 (.mv (.t 0)),oe 5 (.call 54 [(.t 4),(.v (.int .i64 0))]),oq 6 (.ext 0 (.t 5)),oq 7 (.ext 1 (.t 5)),oz (.store 12 (.t 2) (.t 6)),oq 3 (.mv (.t 7))]) .ret)
@[go_sem] def c23_3_wp:=wp_of c23_3.eq_1
def c23:AFn:=⟨8,[.c 2 (some 12),.t 3],c23_3⟩
theorem c23_ok:compF Tryz.prog Tryz.f23=some c23:=by kernel_rfl
theorem a23 {args:List AV} {σ:ASt} {R:AV->ASt->Prop} (hl:args.length<=8) (h:c23_3.wp Tryz.prog (RetQ [.c 2 (some 12),.t 3] R) (init args) σ):ACalls Tryz.prog 23 args σ R:=acalls_of Tryz.func23 c23_ok hl h
end Go.A
namespace Go.A
open Go.Proofs Go.Lib Go.Vint
theorem eRead_ok (s:List UInt8) (hs:s.length<=1000000) (b:Nat) (σ:ASt) (hU:U8 σ) (hb:σ b=rd s 0 0) :
  ACalls Tryz.prog 23 [.ptr b 0] σ fun v σ'=>v = .tuple [(treeR s 2101 0).1.av,.int .i64 (treeR s 2101 0).2.1]/\σ'=σ.set b (rd s (treeR s 2101 0).2.2.1 (treeR s 2101 0).2.2.2):=by
 have hR:=read_le s hs b 2101 0 (Nat.le_refl _) (Nat.zero_le _)
 rw [show (2101:Int)-((2101:Nat):Int)=0 by decide] at hR
 generalize treeR s 2101 0=R at *
 obtain ⟨n,e,P,E⟩:=R
 dsimp only at *
 obtain ⟨o,m,t,x,y,ks⟩:=n
 rw [Nd.av_cs] at *
 generalize ks.map Nd.av=KL at *
 refine a23 (by simp) ?_
 simp (disch:=first|assumption|omega) only [go_sem]
 refine allocC_by fun d hd=>?_
 have hbd:b≠d:=by rintro rfl;rw [hb] at hd;cases hd
 have hsw2:∀ (X Y Z:Option Role),((σ.set d X).set b Y).set d Z=(σ.set b Y).set d Z:=fun X Y Z=>by rw [set_swap (Ne.symm hbd),ASt.set_set]
 have hdd:∀ X Y:Option Role,Drop ((σ.set b X).set d Y) (σ.set b X):=fun X Y=>Drop.set (by rw [ASt.set_ne (Ne.symm hbd)];exact hd)
 have hdr:∀ X Y:Option Role,((σ.set d X).set b Y) d=X:=fun X Y=>by rw [ASt.set_ne (Ne.symm hbd),ASt.set_same]
 simp (disch:=first|assumption|omega) only [go_sem,reduceCtorEq,↓reduceIte]
 refine (hR _ (hU.set hd) (by rw [ASt.set_ne hbd];exact hb)).mono ?_
 rintro v σ1 ⟨rfl,rfl⟩
 simp (disch:=first|assumption|omega) only [go_sem,Nat.reduceEqDiff,Nat.reduceAdd,Nat.reduceLeDiff,↓reduceIte,hdr,hsw2]
 exact retC_by (hdd _ _) (.refl _) ⟨rfl,rfl⟩
theorem W.new {σ:ASt} {b:Nat} (hb:σ b=none):W σ b [] (σ.set b (some (.obj [.sl .full []]))):=⟨.full,.inl ⟨rfl,rfl,rfl⟩⟩
theorem W.at {σ0 σ:ASt} {b x:Nat} {l:List UInt8} {r:Role} (h:W σ0 b l σ) (hx:x≠b) (h0:σ0 x=some r):σ x=some r:=by
 obtain ⟨k,hg⟩:=h
 exact hg.at (by rw [ASt.set_ne hx];exact h0)
theorem W.drop {σ0 σ:ASt} {b:Nat} {l:List UInt8} (h:W σ0 b l σ) (hb:σ0 b=none):Drop σ σ0:=by
 obtain ⟨k,hg⟩:=h
 exact Drop.trans hg.drop (Drop.set hb)
end Go.A
namespace Go.A
open Go.Proofs Go.Lib Go.Vint
theorem uintB_len64 {u:Nat} (h:u<18446744073709551616):(uintB u).length<=10:=by
 have:=uintB_le (u:=(u:Int)) (by omega)
 rwa [Int.toNat_natCast] at this
theorem U8.over2 {σ0 σ:ASt} {b:Nat} {l:List UInt8} (h:U8 σ0) (hW:W σ0 b l σ) (hb:σ0 b=none):U8 σ:=
 ⟨hW.at (by rintro e;have:=h.1;rw [e,hb] at this;cases this) h.1,hW.at (by rintro e;have:=h.2;rw [e,hb] at this;cases this) h.2⟩
end Go.A
namespace Go.A
open Go.Proofs Go.Lib
theorem dbl_le2 (s:List UInt8):(dbl s).length<=2*s.length:=by
 unfold dbl
 induction s with
 | nil=>simp
 | cons c s ih=>
   rw [List.flatMap_cons,List.length_append,List.length_cons]
   split<;>simp only [List.length_cons,List.length_nil]<;>omega
theorem quotT_len (s:List UInt8):(quotT s).length<=2*s.length+2:=by
 have h:(quotT s).length=(dbl s).length+2:=by unfold quotT dbl;simp
 have:=dbl_le2 s
 omega
theorem insT_len (least op:Int) (x:List UInt8):(insT least op x).length<=x.length+2:=by
 unfold insT
 split
 ·omega
 ·simp
theorem signs_le2:∀ i<12,(signL.getD i []).length<=2:=by decide
theorem errL_len:∀ k<7,(errL.getD k []).length<=7:=by decide
theorem joinS_len (ks:List Nd) (h:∀ k∈ks,k.spell.length+1<=16300*k.size):(joinS ks).length<=16300*Nd.sizes ks:=by
 have flat:∀ l:List Nd,(∀ k∈l,k.spell.length+1<=16300*k.size)->(l.flatMap fun k=>44::k.spell).length<=16300*Nd.sizes l:=by
  intro l
  induction l with
  | nil=>intro _;simp
  | cons x l ih=>
    intro hl
    have h1:=hl x (by simp)
    have h2:=ih fun k hk=>hl k (by simp [hk])
    rw [List.flatMap_cons,List.length_append,List.length_cons,Nd.sizes]
    omega
 cases ks with
 | nil=>simp [joinS]
 | cons x l=>
   have h1:=h x (by simp)
   have h2:=flat l fun k hk=>h k (by simp [hk])
   rw [joinS,List.length_append,Nd.sizes]
   omega
theorem nf_spell {n:Nd} (h:Nf n):n.spell.length+1<=16300*n.size:=by
 induction h with
 | @num n h0 h1=>
   have e:(Nd.mk 1 n [] .zero .zero []).spell=textD n:=rfl
   have:=textD_len (a:=n) (by omega)
   rw [leaf_size,e]
   omega
 | @text s _ hs=>
   have e:(Nd.mk 2 0 s .zero .zero []).spell=quotT s:=rfl
   have:=quotT_len s
   rw [leaf_size,e]
   omega
 | @truth b hb=>
   rcases hb with rfl|rfl
   ·exact (by decide:6<=16300*1)
   ·exact (by decide:5<=16300*1)
 | @fail k hk=>
   have e:(Nd.mk 4 (((k:Int)+1)*10000) [] .zero .zero []).spell=errL.getD k []:=fail_text hk
   have:=errL_len k hk
   rw [leaf_size,e]
   omega
 | @cell r hr=>
   have e:(Nd.mk 5 0 [] r .zero []).spell=textP r:=rfl
   have:=text_len hr
   rw [leaf_size,e]
   omega
 | @area r q hr hq=>
   have e:(Nd.mk 6 0 [] r q []).spell=textP r ++ [58]++textP q:=rfl
   have:=text_len hr
   have:=text_len hq
   rw [leaf_size,e,List.length_append,List.length_append,List.length_singleton]
   omega
 | @sign op x ho hx hne ih=>
   have:=insT_len 6 x.op x.spell
   rw [one_size,spell_sign ho,List.length_append,List.length_singleton]
   omega
 | @hund x hx hne ih=>
   have:=insT_len 7 x.op x.spell
   rw [one_size,spell_hund,List.length_append,List.length_singleton]
   omega
 | @bin i x y hi hx hnx hy hny ihx ihy=>
   have h1:=insT_len (levelP (10+i)) x.op x.spell
   have h2:=insT_len (levelP (10+i)+1) y.op y.spell
   have h3:=signs_le2 i hi
   rw [two_size,spell_bin hi,List.length_append,List.length_append]
   omega
 | @call s ks hs hl hk hm ih=>
   have h1:=joinS_len ks ih
   rw [Nd.size,spell_call,List.length_append,List.length_append,List.length_append,List.length_singleton,List.length_singleton]
   omega
 | miss=>exact (by decide:1<=16300*1)
end Go.A
namespace Go.A
open Go.Proofs
/-! 5: tabular/tabulartop.TabularSpelled -/
def c5_21:ACode := .seq (.ops [ oe 12 (.alloc [(.sl .full [])])]) (.seq (.ops [ oq 41 (.ld (some 12) (.t 8)),oe 42 (.call 22 [(.t 12),(.t 41)])]) (.seq (.ops [ oe 44 (.call 25 [(.t 12)]),oe 45 (.call 24 [(.t 44)]),oe 46 (.call 23 [(.t 45)]),oq 43 (.mv (.t 46)),oq 47 (.ext 0 (.t 43)),oq 48 (.ext 1 (.t 43)),oe 13 (.alloc [(.int .i64 0),(.int .i64 0),(.str []),(.int .i64 0),(.int .i64 0),(.bool false),(.bool false),(.int .i64 0),(.int .i64 0),(.bool false),(.bool false),(.sl .full [])]),oz (.store 12 (.t 13) (.t 47)),oq 14 (.mv (.t 48))]) (.seq (.ops [ oq 49 (.mv (.t 11)),oq 50 (.bin .eql (.t 49) (.v (.int .i64 11))),oq 51 (.mv (.t 50)),⟨some 52,some (51,false),.q (.mv (.t 11)),[]⟩,⟨some 53,some (51,false),.q (.bin .eql (.t 52) (.v (.int .i64 0))),[]⟩,⟨some 54,some (51,false),.q (.mv (.t 53)),[]⟩,⟨some 55,some (54,true),.q (.ld (some 12) (.t 9)),[]⟩,⟨some 56,some (54,true),.q (.ld (some 12) (.t 8)),[]⟩,⟨some 57,some (54,true),.e (.call 10 [(.t 55),(.t 56)]),[]⟩,⟨some 58,some (51,false),.q (.pick (.t 54) (.t 57) (.v (.bool false))),[]⟩,oq 59 (.pick (.t 51) (.v (.bool true)) (.t 58)),oq 60 (.mv (.t 59)),⟨some 61,some (60,true),.q (.mv (.t 14)),[]⟩,⟨some 62,some (60,true),.q (.bin .eql (.t 61) (.v (.int .i64 0))),[]⟩,oq 63 (.pick (.t 60) (.t 62) (.v (.bool false))),oq 64 (.mv (.t 63)),⟨some 65,some (64,true),.q (.ld (some 12) (.t 13)),[]⟩,⟨some 66,some (64,true),.q (.ld (some 12) (.t 8)),[]⟩,⟨some 67,some (64,true),.e (.call 10 [(.t 65),(.t 66)]),[]⟩,oq 68 (.pick (.t 64) (.t 67) (.v (.bool false))),oq 4 (.mv (.t 68))]) .ret)))
def c5_27:ACode := .seq (.ops [ oe 3 (.box (.t 1)),oq 4 (.mv (.v (.bool false)))]) (.seq (.seq (.ops [ oe 15 (.call 6 []),oq 16 (.un .not (.t 15))]) (.cond (.t 16) (.seq (.ops [ oq 4 (.mv (.v (.bool false)))]) .ret) .skip)) (.seq (.ops [ oq 18 (.mv (.t 0)),oe 19 (.call 8 [(.t 18),(.v (.int .i64 300))]),oe 20 (.call 7 [(.t 19)]),oq 17 (.mv (.t 20)),oq 21 (.ext 0 (.t 17)),oq 22 (.ext 1 (.t 17)),oq 23 (.ext 2 (.t 17)),oe 5 (.alloc [(.int .i64 0),(.int .i64 0),(.str []),(.int .i64 0),(.int .i64 0),(.bool false),(.bool false),(.int .i64 0),(.int .i64 0),(.bool false),(.bool false),(.sl .full [])]),oz (.store 12 (.t 5) (.t 21)),oq 6 (.mv (.t 22)),oq 7 (.mv (.t 23))]) (.seq (.seq (.ops [ oq 24 (.mv (.t 7)),oq 25 (.bin .neq (.t 24) (.v (.int .i64 0))),oq 26 (.mv (.t 25)),⟨some 27,some (26,false),.q (.ld (some 5) (.t 3)),[]⟩,⟨some 28,some (26,false),.e (.call 9 [(.t 27),(.v (.int .i64 600))]),[]⟩,⟨some 29,some (26,false),.q (.un .not (.t 28)),[]⟩,oq 30 (.pick (.t 26) (.v (.bool true)) (.t 29))]) (.cond (.t 30) (.seq (.ops [ oq 4 (.mv (.v (.bool true)))]) .ret) .skip)) (.seq (.ops [ oq 31 (.ld (some 5) (.t 3)),oq 32 (.ld (some 12) (.t 5)),oe 33 (.call 11 [(.t 31),(.t 32)]),oe 8 (.alloc [(.int .i64 0),(.int .i64 0),(.str []),(.int .i64 0),(.int .i64 0),(.bool false),(.bool false),(.int .i64 0),(.int .i64 0),(.bool false),(.bool false),(.sl .full [])]),oz (.store 12 (.t 8) (.t 33))]) (.seq (.ops [ oq 35 (.ld (some 12) (.t 8)),oe 36 (.call 21 [(.t 35)]),oe 37 (.call 7 [(.t 36)]),oq 34 (.mv (.t 37)),oq 38 (.ext 0 (.t 34)),oq 39 (.ext 1 (.t 34)),oq 40 (.ext 2 (.t 34)),oe 9 (.alloc [(.int .i64 0),(.int .i64 0),(.str []),(.int .i64 0),(.int .i64 0),(.bool false),(.bool false),(.int .i64 0),(.int .i64 0),(.bool false),(.bool false),(.sl .full [])]),oz (.store 12 (.t 9) (.t 38)),oq 10 (.mv (.t 39)),oq 11 (.mv (.t 40))]) c5_21)))))
@[go_sem] def c5_21_wp:=wp_of c5_21.eq_1
@[go_sem] def c5_27_wp:=wp_of c5_27.eq_1
def c5:AFn:=⟨69,[.t 4],c5_27⟩
theorem c5_ok:compF Tryz.prog Tryz.f5=some c5:=by kernel_rfl
theorem a5 {args:List AV} {σ:ASt} {R:AV->ASt->Prop} (hl:args.length<=69) (h:c5_27.wp Tryz.prog (RetQ [.t 4] R) (init args) σ):ACalls Tryz.prog 5 args σ R:=acalls_of Tryz.func5 c5_ok hl h
end Go.A
namespace Go.A
open Go.Proofs Go.Lib Go.Vint
mutual
theorem Nd.strs_mono {B C:Nat} (h:B<=C):∀ n:Nd,n.strs B->n.strs C
 | .mk op m s a b ks,hs=>by
   rw [Nd.strs] at hs ⊢
   exact ⟨Nat.le_trans hs.1 h,Nd.strss_mono h ks hs.2⟩
theorem Nd.strss_mono {B C:Nat} (h:B<=C):∀ l:List Nd,Nd.strss B l->Nd.strss C l
 | [],_=>by rw [Nd.strss];trivial
 | x::l,hs=>by
   rw [Nd.strss] at hs ⊢
   exact ⟨Nd.strs_mono h x hs.1,Nd.strss_mono h l hs.2⟩
end
theorem rest_long {op n:Int} {s:List UInt8} {a b:Ref} {k:Nat} (hg:GdN op n s a b k) (hs:s.length<=1208):(restB op n s a b k).length<=1240:=by
 have hn:=hg.num
 have hf:=foldI_bd (n:=n) (by omega) (by omega)
 have h1:=uintB_le hf.2
 have h2:=uintB_len64 (u:=s.length) (by omega)
 have h3:=uintB_len64 (u:=k) (by have:=hg.kids;omega)
 have hr:∀ r:Ref,r.good=true->(rfB r).length<=20:=fun r hr=>by
  obtain ⟨r1,r2,r3,r4⟩:=good_bd hr
  have ha:absN r<=3:=by unfold absN;split<;>split<;>omega
  have h1:=uintB_len64 (u:=absN r+4*r.row.toNat) (by omega)
  have h2:=uintB_len64 (u:=r.col.toNat) (by omega)
  unfold rfB
  rw [List.length_append];omega
 unfold restB textB
 split
 ·omega
 split
 ·rw [List.length_append];omega
 split
 ·rename_i h;have:=hr a (hg.ga (.inl h));omega
 split
 ·rename_i h;have:=hr a (hg.ga (.inr h));have:=hr b (hg.gb h);rw [List.length_append];omega
 split
 ·rw [List.length_append,List.length_append];omega
 ·simp
mutual
theorem wd_bytes:∀ n:Nd,n.wd->n.strs 1208->n.bytes.length<=1260*n.size
 | .mk op m s a b ks,hg,hs=>by
   rw [Nd.wd] at hg
   rw [Nd.strs] at hs
   have h1:=wds_bytes ks hg.2 hs.2
   have h2:=rest_long hg.1 hs.1
   have o1:=hg.1.op1
   have o2:=hg.1.op2
   have h3:=uintB_len64 (u:=op.toNat) (by omega)
   rw [Nd.bytes,Nd.size,List.length_append,List.length_append]
   omega
theorem wds_bytes:∀ l:List Nd,Nd.wds l->Nd.strss 1208 l->(Nd.bytess l).length<=1260*Nd.sizes l
 | [],_,_=>by rw [Nd.bytess,Nd.sizes];simp
 | x::l,hg,hs=>by
   rw [Nd.wds] at hg
   rw [Nd.strss] at hs
   have h1:=wd_bytes x hg.1 hs.1
   have h2:=wds_bytes l hg.2 hs.2
   rw [Nd.bytess,Nd.sizes,List.length_append]
   omega
end
set_option maxHeartbeats 4000000 in
theorem TabularSpelled_any {σ:ASt} (hC:CkT σ) (hT:Tab σ) (hM:MaxL σ) (hU:U8 σ) (hV:LV σ) (s:List UInt8) (p1:Bool) (k1 a1 n1 d1:Int) :
  ACalls Tryz.prog 5 [.str s,.agg [.bool p1,.int .i64 k1,.int .i64 a1,.int .i64 n1,.int .i64 d1]] σ fun v σ'=>v = .bool true/\σ'=σ:=by
 have hL:∀ τ,CkT τ->ACalls Tryz.prog 6 [] τ fun v σ'=>v = .bool true/\σ'=τ:=fun τ h=>live_ok h
 have hc:Pure Tryz.prog 8 [.str s,.int .i64 300] (.str (s.take 300)):=cut_ok s 300
 have hlen:(s.take 300).length<=300:=by rw [List.length_take];omega
 have hP:=fun (τ:ASt) (h1:U8 τ) (h2:LV τ)=>parseR_ok h1 h2 (s.take 300) (by omega)
 have hgd:=parseR_gd (s:=s.take 300)
 have hnf:=parseR_nf (s:=s.take 300)
 have hsm:=parseR_small (s:=s.take 300)
 obtain ⟨⟨n,k,er⟩,hR⟩:∃ R,parseR (s.take 300)=R:=⟨_,rfl⟩
 rw [hR] at hP hgd hnf hsm
 dsimp only at hP hgd hnf hsm
 clear hR
 generalize s.take 300=s' at *
 have hgr:Pure Tryz.prog 9 [.agg [.bool p1,.int .i64 k1,.int .i64 a1,.int .i64 n1,.int .i64 d1],.int .i64 600] (.bool ((Edt.mk p1 k1 a1 n1 d1).good 600)):=shgood_ok ⟨p1,k1,a1,n1,d1⟩ 600
 by_cases he:er=0
 ·obtain ⟨hg,hsz⟩:=hgd he
  obtain ⟨hn,hn2,hn3⟩:=hnf he
  obtain ⟨hst,hz⟩:=hsm he
  subst he
  cases g1:(Edt.mk p1 k1 a1 n1 d1).good 600 with
  | false=>
    rw [g1] at hgr
    clear hgd hnf hsm hg hn hst
    obtain ⟨op,m,x,a,b,ks⟩:=n
    simp only [Nd.av_cs] at hP
    generalize ks.map Nd.av=L at *
    refine a5 (by simp) ?_
    simp (disch:=first|assumption|omega) only [go_sem]
    refine boxC_by rfl fun c3 h3=>?_
    have C1:=fun r=>CkT.set (r:=r) hC h3
    have T1:=fun r=>Tab.set (r:=r) hT h3
    have M1:=fun r=>MaxL.set (r:=r) hM h3
    have U1:=fun r=>U8.set (r:=r) hU h3
    have V1:=fun r=>LV.set (r:=r) hV h3
    simp (disch:=first|assumption|omega) only [go_sem]
    refine (hL _ (C1 _)).mono ?_
    rintro v σ' ⟨rfl,rfl⟩
    simp (disch:=first|assumption|omega) only [go_sem,reduceCtorEq,↓reduceIte]
    refine hc.use ?_
    simp (disch:=first|assumption|omega) only [go_sem,↓reduceIte]
    refine (hP _ (U1 _) (V1 _)).mono ?_
    rintro v σ' ⟨rfl,rfl⟩
    simp (disch:=first|assumption|omega) only [go_sem,Nat.reduceEqDiff,↓reduceIte]
    refine allocC_by fun c5 h5=>?_
    have T2:=fun r=>Tab.set (r:=r) (T1 _) h5
    have M2:=fun r=>MaxL.set (r:=r) (M1 _) h5
    have U2:=fun r=>U8.set (r:=r) (U1 _) h5
    have V2:=fun r=>LV.set (r:=r) (V1 _) h5
    repeat (with_reducible replace h5:=set_none h5;obtain ⟨_,_,h5⟩:=h5)
    simp (disch:=first|assumption|omega) only [go_sem,Nat.reduceEqDiff,Nat.reduceAdd,Nat.reduceLeDiff,↓reduceIte,ASt.set_set]
    refine hgr.use ?_
    simp (disch:=first|assumption|omega) only [go_sem,Nat.reduceEqDiff,↓reduceIte]
    exact retC_by (by repeat' (first|exact Drop.refl _|with_reducible refine Drop.off ?_ (by assumption))) (.refl _) ⟨rfl,rfl⟩
  | true=>
    rw [g1] at hgr
    have s1:=good_six g1
    obtain ⟨f1,f2,f3,f4,z1⟩:=tree_nf s1 hn
    have y1:=tree_gd s1 hg
    have hstr:∀ q:Nd,q.strs (4*s'.length+8)->q.strs 1208:=Nd.strs_mono (by omega)
    have hst2:=hstr _ (tree_strs (Edt.mk p1 k1 a1 n1 d1) hn hst)
    have hw:=nf_wd f1 (Nd.strs_mono (by decide) _ hst2) (by omega)
    have hdp:=((Edt.mk p1 k1 a1 n1 d1).tree n).depth_le_size
    have hbl:=wd_bytes _ hw hst2
    have hsp:=nf_spell f1
    have hlaw:=spelled_law s1 hn hn2 hn3
    have t1:Pure Tryz.prog 11 [.agg [.bool p1,.int .i64 k1,.int .i64 a1,.int .i64 n1,.int .i64 d1],n.av] ((Edt.mk p1 k1 a1 n1 d1).tree n).av:=shtree_ok ⟨p1,k1,a1,n1,d1⟩ (Edt.good_fit g1) n hg.1 (by omega)
    generalize (Edt.mk p1 k1 a1 n1 d1).tree n=m at *
    have hp:=fun (τ:ASt) (hT:Tab τ) (hM:MaxL τ)=>print_ok hT hM m y1.1 (by omega)
    have hP2:=fun (τ:ASt) (h1:U8 τ) (h2:LV τ)=>parseR_ok h1 h2 m.spell (by omega)
    have hS:=esame_ok m m (by omega) (by omega)
    rw [Nd.same_refl] at hS
    have hR:=fun b τ (h1:U8 τ) h2=>eRead_ok m.bytes (by omega) b τ h1 h2
    rw [tree_back (s:=m.bytes) 2101 m hw (by omega) 0 [] (by rw [List.drop_zero,List.append_nil])] at hR
    rw [Nat.zero_add] at hR
    dsimp only at hR
    have hRd:=rread_ok m.bytes
    have hW:=ewrite_ok m hw
    have hbl2:m.bytes.length<=900000:=by omega
    clear hw hbl hsp hdp hst2 hstr hst f1 f2 f3 f4 y1 hg hn hgd hnf hsm s1 g1
    generalize m.bytes=BY at *
    generalize m.spell=SP at *
    obtain ⟨⟨⟨op2,m2,x2,a2,b2,ks2⟩,q2,e2⟩,hR2⟩:∃ R,parseR SP=R:=⟨_,rfl⟩
    rw [hR2] at hlaw hP2
    dsimp only at hP2
    have hlaw2:(e2=0/\Nd.mk op2 m2 x2 a2 b2 ks2=m)\/e2=11:=by
     rcases hlaw with h|h
     ·injection h with h1 h2
      injection h2 with h2 h3
      exact .inl ⟨h3,h1⟩
     ·exact .inr h
    clear hlaw hR2
    obtain ⟨mo,mm,mx,ma,mb,mks⟩:=m
    obtain ⟨op,nm,x,a,b,ks⟩:=n
    have hlaw3:(e2=0/\Nd.cs op2 m2 x2 a2 b2 (ks2.map Nd.av)=Nd.cs mo mm mx ma mb (mks.map Nd.av))\/e2=11:=by
     rcases hlaw2 with ⟨h1,h2⟩|h
     ·injection h2 with i1 i2 i3 i4 i5 i6
      subst i1 i2 i3 i4 i5 i6
      exact .inl ⟨h1,rfl⟩
     ·exact .inr h
    clear hlaw2
    simp only [Nd.av_cs] at hP hP2 hp hS hR hW t1
    generalize ks.map Nd.av=L at *
    generalize ks2.map Nd.av=L2 at *
    generalize mks.map Nd.av=LM at *
    obtain ⟨F,hF⟩:∃ F,F=ACode.wp Tryz.prog c5_21:=⟨_,rfl⟩
    have tail:∀ (ρ:ASt) (a3:AFr) (c8 c9:Nat),Drop ρ σ->U8 ρ->ρ c8=some (.obj (Nd.cs mo mm mx ma mb LM))->ρ c9=some (.obj (Nd.cs op2 m2 x2 a2 b2 L2))->(a3 8 = .ptr c8 0/\a3 9 = .ptr c9 0/\a3 11 = .int .i64 e2)->F (RetQ [.t 4] fun v σ'=>v = .bool true/\σ'=σ) a3 ρ:=by
     intro τ a3 c8 c9 D3 U3 r8 r9 hf
     rw [hF]
     simp (disch:=first|assumption|omega) only [go_sem]
     refine allocC_by fun b4 h4=>?_
     have n84:c8≠b4:=by rintro rfl;rw [r8] at h4;cases h4
     have n94:c9≠b4:=by rintro rfl;rw [r9] at h4;cases h4
     have r84:∀ X:Option Role,(τ.set b4 X) c8=some (.obj (Nd.cs mo mm mx ma mb LM)):=fun X=>by rw [ASt.set_ne n84];exact r8
     simp (disch:=first|assumption|omega) only [go_sem,Nat.reduceEqDiff,Nat.reduceLeDiff,↓reduceIte,hf,r84]
     refine (hW τ b4 [] _ (W.new h4) (by simp only [List.length_nil];omega)).mono ?_
     rintro v σ1 ⟨rfl,W1⟩
     rw [List.nil_append] at W1
     have U1:=U3.over2 W1 h4
     have r8:σ1 c8=some (.obj (Nd.cs mo mm mx ma mb LM)):=W1.at n84 r8
     have r9:σ1 c9=some (.obj (Nd.cs op2 m2 x2 a2 b2 L2)):=W1.at n94 r9
     have D1:=(W1.drop h4).trans D3
     simp (disch:=first|assumption|omega) only [go_sem,Nat.reduceEqDiff,↓reduceIte]
     refine (wbytes_ok _ b4 BY _ W1).mono ?_
     rintro v σ2 ⟨rfl,rfl⟩
     simp (disch:=first|assumption|omega) only [go_sem,↓reduceIte]
     refine (hRd _).mono ?_
     rintro v σ3 ⟨b5,rfl,h5,rfl⟩
     simp (disch:=first|assumption|omega) only [go_sem,↓reduceIte]
     refine (hR b5 _ (U1.set h5) (ASt.set_same _ _ _)).mono ?_
     rintro v σ3 ⟨rfl,rfl⟩
     rw [ASt.set_set]
     have n85:c8≠b5:=by rintro rfl;rw [r8] at h5;cases h5
     have n95:c9≠b5:=by rintro rfl;rw [r9] at h5;cases h5
     have D5:∀ X:Option Role,Drop (σ2.set b5 X) σ:=fun X=>(Drop.set h5).trans D1
     have r85:∀ X:Option Role,(σ2.set b5 X) c8=some (.obj (Nd.cs mo mm mx ma mb LM)):=fun X=>by rw [ASt.set_ne n85];exact r8
     have r95:∀ X:Option Role,(σ2.set b5 X) c9=some (.obj (Nd.cs op2 m2 x2 a2 b2 L2)):=fun X=>by rw [ASt.set_ne n95];exact r9
     have D5:=D5 (rd BY BY.length 0)
     have r85:=r85 (rd BY BY.length 0)
     have r95:=r95 (rd BY BY.length 0)
     generalize σ2.set b5 (rd BY BY.length 0)=ρ at *
     simp (disch:=first|assumption|omega) only [go_sem,Nat.reduceEqDiff,↓reduceIte]
     refine allocC_by fun b6 h6=>?_
     have n86:c8≠b6:=by rintro rfl;rw [r85] at h6;cases h6
     have n96:c9≠b6:=by rintro rfl;rw [r95] at h6;cases h6
     have r86:∀ X:Option Role,(ρ.set b6 X) c8=some (.obj (Nd.cs mo mm mx ma mb LM)):=fun X=>by rw [ASt.set_ne n86];exact r85
     have r96:∀ X:Option Role,(ρ.set b6 X) c9=some (.obj (Nd.cs op2 m2 x2 a2 b2 L2)):=fun X=>by rw [ASt.set_ne n96];exact r95
     rcases hlaw3 with ⟨rfl,hcs⟩|rfl
     ·rw [hcs] at r96
      simp (disch:=first|assumption|omega) only [go_sem,Nat.reduceEqDiff,Nat.reduceAdd,Nat.reduceLeDiff,Int.reduceEq,↓reduceIte,hf,r86,r96,ASt.set_set]
      refine hS.use ?_
      simp (disch:=first|assumption|omega) only [go_sem,Nat.reduceEqDiff,Nat.reduceLeDiff,↓reduceIte,hf,r86]
      refine hS.use ?_
      simp (disch:=first|assumption|omega) only [go_sem,Nat.reduceEqDiff,↓reduceIte]
      exact retC_by ((Drop.set h6).trans D5) (.refl _) ⟨rfl,rfl⟩
     ·simp (disch:=first|assumption|omega) only [go_sem,Nat.reduceEqDiff,Nat.reduceAdd,Nat.reduceLeDiff,↓reduceIte,hf,r86,ASt.set_set]
      refine hS.use ?_
      simp (disch:=first|assumption|omega) only [go_sem,Nat.reduceEqDiff,↓reduceIte]
      exact retC_by ((Drop.set h6).trans D5) (.refl _) ⟨rfl,rfl⟩
    refine a5 (by simp) ?_
    simp (disch:=first|assumption|omega) only [go_sem]
    refine boxC_by rfl fun c3 h3=>?_
    have C1:=fun r=>CkT.set (r:=r) hC h3
    have T1:=fun r=>Tab.set (r:=r) hT h3
    have M1:=fun r=>MaxL.set (r:=r) hM h3
    have U1:=fun r=>U8.set (r:=r) hU h3
    have V1:=fun r=>LV.set (r:=r) hV h3
    simp (disch:=first|assumption|omega) only [go_sem]
    refine (hL _ (C1 _)).mono ?_
    rintro v σ' ⟨rfl,rfl⟩
    simp (disch:=first|assumption|omega) only [go_sem,reduceCtorEq,↓reduceIte]
    refine hc.use ?_
    simp (disch:=first|assumption|omega) only [go_sem,↓reduceIte]
    refine (hP _ (U1 _) (V1 _)).mono ?_
    rintro v σ' ⟨rfl,rfl⟩
    simp (disch:=first|assumption|omega) only [go_sem,Nat.reduceEqDiff,↓reduceIte]
    refine allocC_by fun c5 h5=>?_
    have T2:=fun r=>Tab.set (r:=r) (T1 _) h5
    have M2:=fun r=>MaxL.set (r:=r) (M1 _) h5
    have U2:=fun r=>U8.set (r:=r) (U1 _) h5
    have V2:=fun r=>LV.set (r:=r) (V1 _) h5
    repeat (with_reducible replace h5:=set_none h5;obtain ⟨_,_,h5⟩:=h5)
    simp (disch:=first|assumption|omega) only [go_sem,Nat.reduceEqDiff,Nat.reduceAdd,Nat.reduceLeDiff,↓reduceIte,ASt.set_set]
    refine hgr.use ?_
    simp (disch:=first|assumption|omega) only [go_sem,Nat.reduceEqDiff,Nat.reduceAdd,Nat.reduceLeDiff,↓reduceIte]
    refine t1.use ?_
    simp (disch:=first|assumption|omega) only [go_sem]
    refine allocC_by fun c8 h8=>?_
    have T3:=fun r=>Tab.set (r:=r) (T2 _) h8
    have M3:=fun r=>MaxL.set (r:=r) (M2 _) h8
    have U3:=fun r=>U8.set (r:=r) (U2 _) h8
    have V3:=fun r=>LV.set (r:=r) (V2 _) h8
    repeat (with_reducible replace h8:=set_none h8;obtain ⟨_,_,h8⟩:=h8)
    simp (disch:=first|assumption|omega) only [go_sem,Nat.reduceEqDiff,Nat.reduceAdd,Nat.reduceLeDiff,↓reduceIte,ASt.set_set,←hF]
    refine (hp _ (T3 _) (M3 _)).mono ?_
    rintro v σ' ⟨rfl,rfl⟩
    simp (disch:=first|assumption|omega) only [go_sem,↓reduceIte]
    refine (hP2 _ (U3 _) (V3 _)).mono ?_
    rintro v σ' ⟨rfl,rfl⟩
    simp (disch:=first|assumption|omega) only [go_sem,Nat.reduceEqDiff,↓reduceIte]
    refine allocC_by fun c9 h9=>?_
    have U4:=fun r=>U8.set (r:=r) (U3 _) h9
    repeat (with_reducible replace h9:=set_none h9;obtain ⟨_,_,h9⟩:=h9)
    simp (disch:=first|assumption|omega) only [go_sem,Nat.reduceEqDiff,Nat.reduceAdd,Nat.reduceLeDiff,↓reduceIte,ASt.set_set]
    refine tail _ _ c8 c9 (by repeat' (first|exact Drop.refl _|with_reducible refine Drop.off ?_ (by assumption))) (U4 _) ?_ ?_ ?_
    ·simp (disch:=first|assumption|omega) only [go_sem]
    ·simp (disch:=first|assumption|omega) only [go_sem]
    ·simp (disch:=first|assumption|omega) only [go_sem,Nat.reduceEqDiff,↓reduceIte]
 ·clear hgd hnf hsm
  obtain ⟨op,m,x,a,b,ks⟩:=n
  simp only [Nd.av_cs] at hP
  generalize ks.map Nd.av=L at *
  refine a5 (by simp) ?_
  simp (disch:=first|assumption|omega) only [go_sem]
  refine boxC_by rfl fun c3 h3=>?_
  have C1:=fun r=>CkT.set (r:=r) hC h3
  have T1:=fun r=>Tab.set (r:=r) hT h3
  have M1:=fun r=>MaxL.set (r:=r) hM h3
  have U1:=fun r=>U8.set (r:=r) hU h3
  have V1:=fun r=>LV.set (r:=r) hV h3
  simp (disch:=first|assumption|omega) only [go_sem]
  refine (hL _ (C1 _)).mono ?_
  rintro v σ' ⟨rfl,rfl⟩
  simp (disch:=first|assumption|omega) only [go_sem,reduceCtorEq,↓reduceIte]
  refine hc.use ?_
  simp (disch:=first|assumption|omega) only [go_sem,↓reduceIte]
  refine (hP _ (U1 _) (V1 _)).mono ?_
  rintro v σ' ⟨rfl,rfl⟩
  simp (disch:=first|assumption|omega) only [go_sem,Nat.reduceEqDiff,↓reduceIte]
  refine allocC_by fun c5 h5=>?_
  have T2:=fun r=>Tab.set (r:=r) (T1 _) h5
  have M2:=fun r=>MaxL.set (r:=r) (M1 _) h5
  have U2:=fun r=>U8.set (r:=r) (U1 _) h5
  have V2:=fun r=>LV.set (r:=r) (V1 _) h5
  repeat (with_reducible replace h5:=set_none h5;obtain ⟨_,_,h5⟩:=h5)
  simp (disch:=first|assumption|omega) only [go_sem,Nat.reduceEqDiff,Nat.reduceAdd,Nat.reduceLeDiff,↓reduceIte,he,ASt.set_set]
  exact retC_by (by repeat' (first|exact Drop.refl _|with_reducible refine Drop.off ?_ (by assumption))) (.refl _) ⟨rfl,rfl⟩
end Go.A
namespace Go.Proofs.YthdpkgfdjmeaiaaGreatDoor
open Go Go.ChangeShapes Go.WideShapes Go.ChangeAt Go.RowKit Go.A Go.Lib Go.Shelf
theorem row_own:ownKnob Tryz.prog.godebug=none:=by kernel_rfl
theorem row_laid:laidOutB Tryz.prog=true:=by kernel_rfl
theorem first_eq:Rows.laid_unicode_utf8_first=firstData:=by kernel_rfl
theorem acc_eq:(Rows.laid_unicode_utf8_acceptRanges:DataW Unit)=acceptData:=by kernel_rfl
theorem u8_extra:U8Extra Tryz.prog Tryz.lays260_ren:=⟨by kernel_rfl,by kernel_rfl,by kernel_rfl,by kernel_rfl,by kernel_rfl,by kernel_rfl,by kernel_rfl⟩
theorem var_size {P:Program} {w:World} {n:String} {d:DataW Unit} (h:VarReads P w n d) {g:Nat} (hg:P.globalNamed n=some g) {t e:TypeId} {k:Nat} (hty:(P.globals[g]?).map (·.type)=some t) (ht:P.underlying t=some (.array k e)) :
  ∃ cs T fr,w.heap[g]? = some (.cells cs T fr)/\cs.size=P.cellsOf t:=by
 obtain ⟨g',t',cs,fuel,p,hg',hty',hvar,hd⟩:=h
 obtain rfl:=Option.some.inj (hg.symm.trans hg')
 obtain rfl:=Option.some.inj (hty.symm.trans hty')
 have hlen:cs.toList.length=P.cellsOf t:=by
  cases fuel with
  | zero=>simp [DataW.trod] at hd
  | succ fuel=>
    simp only [DataW.trod,ht] at hd
    split at hd
    ·assumption
    ·cases hd
 unfold World.var? at hvar
 rw [hg,Option.bind_some] at hvar
 split at hvar
 ·rename_i cs' T fr hheap
  injection hvar with hvar
  subst hvar
  exact ⟨_,_,_,hheap,by simpa using hlen⟩
 ·cases hvar
theorem ints_reps {σ:ASt} {w:World} {k:IntKind}:∀ zs:List Int,Reps σ w (zs.map (AV.int k)) (zs.map (Value.int k))
 | [] => .nil
 | z::zs => .cons (.int k z) (ints_reps zs)
theorem fix_ok {σ:ASt} {W:World} {b:Nat} {zs:List Int} (hs:σ b=some (.fix (zs.map (AV.int .u8)))) {cs:Array Value} {T:TypeId} {fr:Nat×Nat} (hh:W.heap[b]? = some (.cells cs T fr)) (hsz:cs.size=zs.length)
  (hc:∀ j z,zs[j]? = some z->W.cell? ⟨b,j,none⟩=some (.int .u8 z)):RoleOk σ W b (.fix (zs.map (AV.int .u8))):=by
 have hlt:b<W.heap.size:=(Array.getElem?_eq_some_iff.1 hh).1
 refine ⟨At.mk' (ints_reps _) (fun j _=>⟨hlt,.inr (.inl ⟨_,hs⟩)⟩) (fun j v hj=>?_),cs,T,fr,hh,by simpa using hsz⟩
 rw [List.getElem?_map] at hj
 obtain ⟨z,hz,rfl⟩:=Option.map_eq_some_iff.1 hj
 rw [Nat.zero_add]
 exact hc j z hz
def stOf:List (Nat×List AV)->ASt
 | [],_=>none
 | p::ps,b=>if b=p.1 then some (.fix p.2) else stOf ps b
theorem stOf_fix:∀ {ps:List (Nat×List AV)} {b:Nat} {r:Role},stOf ps b=some r->∃ l,r = .fix l
 | [],_,_,h=>by cases h
 | p::ps,b,r,h=>by
   simp only [stOf] at h
   split at h
   ·injection h with h;exact ⟨_,h.symm⟩
   ·exact stOf_fix h
theorem stOf_mem:∀ {ps:List (Nat×List AV)} {b:Nat} {r:Role},stOf ps b=some r->∃ l,(b,l)∈ps/\r = .fix l
 | [],_,_,h=>by cases h
 | p::ps,b,r,h=>by
   simp only [stOf] at h
   split at h
   ·rename_i hb
    injection h with h
    subst hb
    exact ⟨p.2,List.mem_cons_self,h.symm⟩
   ·obtain ⟨l,hl,he⟩:=stOf_mem h
    exact ⟨l,List.mem_cons_of_mem _ hl,he⟩
theorem still_fix {σ:ASt} (hfx:∀ b r,σ b=some r->∃ l,r = .fix l) {w:World} {b o:Nat} (h:b<w.heap.size):Still σ w b o:=by
 refine ⟨h,?_⟩
 cases hb:σ b with
 | none=>exact .inl rfl
 | some r=>obtain ⟨l,rfl⟩:=hfx b r hb;exact .inr (.inl ⟨_,rfl⟩)
end Go.Proofs.YthdpkgfdjmeaiaaGreatDoor
namespace Go.A
section
variable {σ:ASt} {w:World}
theorem Still.fixed (hfx:∀ b r,σ b=some r->∃ l,r = .fix l) {b o:Nat} (h:Still noRole w b o):Still σ w b o:=by
 refine ⟨h.1,?_⟩
 cases hb:σ b with
 | none=>exact .inl rfl
 | some r=>obtain ⟨l,rfl⟩:=hfx b r hb;exact .inr (.inl ⟨_,rfl⟩)
theorem Stands.fixed (hfx:∀ b r,σ b=some r->∃ l,r = .fix l) (b:Nat):Stands σ b:=by
 refine ⟨fun cs h=>?_,fun l p h=>?_,fun T cs h=>?_⟩<;>(obtain ⟨l,hl⟩:=hfx b _ h;cases hl)
theorem SK.ok_fixed (hfx:∀ b r,σ b=some r->∃ l,r = .fix l) {k:SK} {b o n c sz:Nat} (h:k.ok noRole w b o n c sz):k.ok σ w b o n c sz:=by
 cases k with
 | shr=>trivial
 | full=>exact h
 | tok t s T=>exact ⟨h.1,h.2.1,h.2.2.1,h.2.2.2.1,Stands.fixed hfx b⟩
mutual
theorem Rep.fixed (hfx:∀ b r,σ b=some r->∃ l,r = .fix l):∀ {a:AV} {v:Value},Rep noRole w a v->Rep σ w a v
 | _,_,.any v => .any v
 | _,_,.bool b => .bool b
 | _,_,.int k n => .int k n
 | _,_,.str l => .str l
 | _,_,.ptr b o => .ptr b o
 | _,_,.imm h1 => .imm (h1.fixed hfx)
 | _,_,.nilp => .nilp
 | _,_,.slE A c => .slE A c
 | _,_,.slN => .slN
 | _,_,.sl h1 h2 h3 h4 h5 => .sl (h1.fixed hfx) h2 h3 (SK.ok_fixed hfx h4) h5
 | _,_,.msl b o n c => .msl b o n c
 | _,_,.agg h1 => .agg (h1.fixed hfx)
 | _,_,.tuple h1 => .tuple (h1.fixed hfx)
 | _,_,.iface h1 => .iface (h1.fixed hfx)
 | _,_,.nili => .nili
 | _,_,.func h1 h2 => .func (h1.fixed hfx) (h2.fixed hfx)
 | _,_,.nilf => .nilf
theorem Reps.fixed (hfx:∀ b r,σ b=some r->∃ l,r = .fix l):∀ {avs:List AV} {vs:List Value},Reps noRole w avs vs->Reps σ w avs vs
 | _,_,.nil => .nil
 | _,_,.cons h1 h2 => .cons (h1.fixed hfx) (h2.fixed hfx)
theorem At.fixed (hfx:∀ b r,σ b=some r->∃ l,r = .fix l):∀ {b o:Nat} {avs:List AV},At noRole w b o avs->At σ w b o avs
 | _,_,_,.nil b o => .nil b o
 | _,_,_,.cons h1 h2 h3 h4 => .cons (h1.fixed hfx) h2 (h3.fixed hfx) (h4.fixed hfx)
theorem Row.fixed (hfx:∀ b r,σ b=some r->∃ l,r = .fix l):∀ {b o sz:Nat} {avs:List AV},Row noRole w b o sz avs->Row σ w b o sz avs
 | _,_,_,_,.nil b o sz => .nil b o sz
 | _,_,_,_,.cons h1 h2 h3 => .cons h1 (h2.fixed hfx) (h3.fixed hfx)
end
end
end Go.A
namespace Go.Proofs.YthdpkgfdjmeaiaaGreatDoor
open Go Go.ChangeShapes Go.WideShapes Go.ChangeAt Go.RowKit Go.A Go.Lib Go.Shelf
theorem u8_roles {σ : ASt} {W : World} (h3 : VarReads Tryz.prog W "unicode/utf8.first" firstData) (h4 : VarReads Tryz.prog W "unicode/utf8.acceptRanges" acceptData) :
  (σ 3=some (.fix (firstTab.map (AV.int .u8)))->RoleOk σ W 3 (.fix (firstTab.map (AV.int .u8))))/\(σ 4=some (.fix (accTab.map (AV.int .u8)))->RoleOk σ W 4 (.fix (accTab.map (AV.int .u8)))):=by
 have hT:=utf8Tabs_of_reads (ρ:=Tryz.lays260_ren) Tryz.lays260 u8_extra h3 h4
 obtain ⟨hT1,hT2⟩:=hT
 have hT1:∀ c,c<256->W.cell? ⟨3,c,none⟩=some (.int .u8 (firstT c)):=hT1
 have hT2:∀ i,i<16->W.cell? ⟨4,2*i,none⟩=some (.int .u8 (accLo i))/\W.cell? ⟨4,2*i+1,none⟩=some (.int .u8 (accHi i)):=hT2
 constructor
 ·intro hs
  obtain ⟨cs,T,fr,hh,hsz⟩:=var_size h3 (g:=3) (by kernel_rfl) u8_extra.y3 (Tryz.lays260.t119)
  refine fix_ok hs hh (hsz.trans (by kernel_rfl)) fun j z hj=>?_
  have hl:=(List.getElem?_eq_some_iff.1 hj).1
  simp only [firstTab,List.length_map,List.length_range] at hl
  simp only [firstTab,List.getElem?_map,List.getElem?_range hl,Option.map_some,Option.some.injEq] at hj
  subst hj
  exact hT1 j hl
 ·intro hs
  obtain ⟨cs,T,fr,hh,hsz⟩:=var_size h4 (g:=4) (by kernel_rfl) u8_extra.y4 (Tryz.lays260.t139)
  refine fix_ok hs hh (hsz.trans (by kernel_rfl)) fun j z hj=>?_
  have hl:=(List.getElem?_eq_some_iff.1 hj).1
  have key:∀ j,j<32->accTab[j]? = some (if j % 2=0 then (accLo (j / 2):Int) else accHi (j / 2)):=by decide
  have hl:j<32:=hl
  rw [key j hl] at hj
  injection hj with hj
  subst hj
  obtain ⟨g1,g2⟩:=hT2 (j / 2) (by omega)
  split
  ·rw [show 2*(j / 2)=j by omega] at g1;exact g1
  ·rw [show 2*(j / 2)+1=j by omega] at g2;exact g2
theorem pow_role {σ : ASt} {W : World} (hfx : ∀ b r, σ b = some r → ∃ l, r = .fix l) (h3 : VarReads Tryz.prog W "internal/strconv.uint64pow10" (Lib.tabData .u64 Lib.pow10Tab)) :
  RoleOk σ W 5 (.fix (Lib.pow10Tab.map (AV.int .u64))):=by
 obtain ⟨g',t',cs,fuel,p,hg',ht',hvar,hd⟩:=h3
 obtain rfl := Option.some.inj ((show Tryz.prog.globalNamed "internal/strconv.uint64pow10" = some 5 by kernel_rfl).symm.trans hg')
 obtain rfl:=Option.some.inj ((show (Tryz.prog.globals[5]?).map (·.type)=some 211 by kernel_rfl).symm.trans ht')
 have hcs:=cells_of_tab (n:=20) (e:=103) (k := .u64) (by kernel_rfl) (by kernel_rfl) (by kernel_rfl) (by kernel_rfl) hd
 unfold World.var? at hvar
 rw [show Tryz.prog.globalNamed "internal/strconv.uint64pow10" = some 5 by kernel_rfl, Option.bind_some] at hvar
 split at hvar
 ·rename_i cs' T fr hheap
  injection hvar with hvar
  have hlt:5<W.heap.size:=(Array.getElem?_eq_some_iff.1 hheap).1
  have he:cs'=(Lib.pow10Tab.map fun z=>Value.int .u64 z).toArray:=by rw [hvar];exact Array.ext' (by simpa using hcs)
  refine ⟨At.mk' (ints_reps _) (fun j _=>still_fix hfx hlt) (fun j v hj=>?_),cs',T,fr,hheap,by rw [he];simp⟩
  simp only [World.cell?,hheap,Nat.zero_add,he]
  simpa using hj
 ·cases hvar
end Go.Proofs.YthdpkgfdjmeaiaaGreatDoor
namespace Go.Proofs.YthdpkgfdjmeaiaaGreatDoor
open Go Go.ChangeShapes Go.WideShapes Go.ChangeAt Go.RowKit Go.A Go.Lib Go.Shelf
def vPs:List (Nat×List AV) := [(3,firstTab.map (AV.int .u8)),(4,accTab.map (AV.int .u8)),(5,Lib.pow10Tab.map (AV.int .u64))]
def vSt:ASt:=stOf vPs
end Go.Proofs.YthdpkgfdjmeaiaaGreatDoor
namespace Go
variable {H:Type} {enc:TypeId×Value->H}
theorem A.returnsInHanded_and_shaped {a:Assume} {C:Checked} {os:Os} {f:FuncId} {fn:Func} {s:ChangeSpec} {conds:List PathCond} {apart fresh handsOn again:Bool} {X:World->Array Value->Prop}
  (hX:∀ (w w':World) (args:Array Value),w.heap=w'.heap->X w args->X w' args)
  (own:ownKnob C.prog.godebug=none) (started:os.Started) (noInit:C.prog.inits.idxOf? f=none) (hfn:C.prog.funcs[f]? = some fn)
  (witness:∃ (w:World) (tape:Tape) (i:Input),w.os=os/\(w.forCall tape i).Shaped C.prog/\i.vars = []/\Input.okWide C.prog (w.forCall tape i) .any w.heap.size f i ∧
   ((s.pre enc C.prog fn conds apart (w.forCall tape i).memory i.args/\X (w.forCall tape i).memory i.args)/\sizedMet enc C.prog fn (OpenSpec.ofChange s) apart (w.forCall tape i).memory i.args)/\a.holds C.prog (lone (Frame.enter C.prog f i.args .normal) [] (w.forCall tape i)))
  (contract:∀ (W:World) (base:Nat) (args:Array Value) (ds gs:List (DataW H)) (before:List MemPlace),
   (∀ (j:Nat) t v,fn.params[j]? = some t->args[j]? = some v->Value.okWide C.prog W .any base t v) →
   DataW.Whole enc C.prog fn.params.toList s.vars apart W args.toList ds gs before →
   W.ShapedOpen C.prog->X W args →
   Calls C.prog f args W fun e W'=>∃ v,e = .returned v/\s.post enc C.prog fn apart fresh handsOn again W args v W') :
  ReturnsInHanded a C os f .any (fun w args=>(s.pre enc C.prog fn conds apart w args/\X w args)/\sizedMet enc C.prog fn (OpenSpec.ofChange s) apart w args) (s.post enc C.prog fn apart fresh handsOn again):=by
 refine returnsInHanded_of_calls own started noInit witness ?_
 intro w tape i _ hsh _ hok hpre hholds
 obtain ⟨_,_,_,fn',hfn',_,_,_,_,hval⟩:=hok
 have e:fn'=fn:=Option.some.inj (hfn'.symm.trans hfn)
 subst e
 obtain ⟨⟨⟨ds,gs,before,hw,hc⟩,hx⟩,hz⟩:=hpre
 have hw':=DataW.Whole.of_heap (w':=w.forCall tape i) (by rfl) hw
 refine (contract (w.forCall tape i) w.heap.size i.args ds gs before hval hw' hsh (hX _ _ _ (by rfl) hx)).mono fun e W' ⟨v,he,hp⟩=>?_
 subst he
 exact ChangeSpec.post_blind hp
end Go
namespace Go.Proofs.YthdpkgfdjmeaiaaGreatDoor
open Go Go.ChangeShapes Go.WideShapes Go.ChangeAt Go.RowKit Go.A Go.Lib Go.Shelf
def wSt (m:Int):ASt:=fun b=>if b=2 then some (.fix ([m].map (AV.int .i64))) else vSt b
theorem wSt_fix {m:Int} {b:Nat} {r:Role} (h:wSt m b=some r):∃ l,r = .fix l:=by
 unfold wSt at h
 split at h
 ·injection h with h;exact ⟨_,h.symm⟩
 ·exact stOf_fix h
end Go.Proofs.YthdpkgfdjmeaiaaGreatDoor
namespace Go.Proofs.YthdpkgfdjmeaiaaGreatDoor
open Go Go.ChangeShapes Go.WideShapes Go.ChangeAt Go.RowKit Go.A Go.Lib Go.Shelf
theorem strs_trod {H:Type} {enc:TypeId×Value->H} {P:Program} {w:World} {base:Nat} {spare:Nat->Bool} {held:Bool} {fuel:Nat} {t e:TypeId} {cs:List Value} {l:List (List UInt8)} {m:List MemPlace}
  (ht:P.underlying t=some (.slice e)) (he:P.underlying e=some .string) (hc:P.cellsOf e=1) (hl:0<l.length)
  (hd:DataW.trod enc P w base spare held fuel t cs=some (.slice (l.map fun s => .lit (.string s)) [],m)) :
  ∃ R o cap,cs = [.slice (some ⟨R,o,none⟩) l.length cap]/\l.length<=cap/\∀ j s,l[j]? = some s->w.cell? ⟨R,o+j,none⟩=some (.string ⟨⟨s⟩⟩):=by
 rcases DataW.trod_slice ht hd with ⟨_,hx⟩|⟨a,len,cap,el,rs,k,rfl,hcs,hx,_,hlc,_,hel,helem,hsp,_⟩
 ·cases hx
 have e0:=congrArg Prod.fst hx
 simp only [DataW.slice.injEq] at e0
 obtain ⟨eE,eR⟩:=e0
 have hlen:len=l.length:=by
  have:=congrArg List.length eE
  simp at this
  omega
 have hcell:∀ i z,l[i]? = some z->w.cell? (a.add i)=some (.string ⟨⟨z⟩⟩):=by
  intro i z hiz
  have hi:i<l.length:=(List.getElem?_eq_some_iff.1 hiz).1
  have h1:=helem i (by omega)
  rw [hc] at h1
  obtain ⟨b, hb⟩ : ∃ b, el[i]? = some b := ⟨el[i]'(by omega), List.getElem?_eq_getElem (by omega)⟩
  rw [hb] at h1
  obtain ⟨ce,hce,hte⟩:=Option.bind_eq_some_iff.1 h1
  obtain ⟨z',hz,hbz,_⟩:=DataW.trod_string he hte
  have hb1:b.1 = .lit (.string z):=by
   have:=congrArg (·[i]?) eE
   simp only [List.getElem?_map,hiz,hb,Option.map_some,Option.some.injEq] at this
   exact this.symm
  rw [hbz] at hb1
  simp only [DataW.lit.injEq,Lit.string.injEq] at hb1
  obtain ⟨_,_,hcc⟩:=World.cells?_some hce
  have:=hcc 0 (by omega)
  rw [hz] at this
  simp only [Nat.mul_one] at this
  have e1:(a.add i).add 0=a.add i:=by simp [Addr.add]
  rw [e1] at this
  rw [this,← hb1]
  rfl
 obtain ⟨z0,hz0⟩:∃ z,l[0]? = some z:=⟨l[0],List.getElem?_eq_getElem hl⟩
 obtain ⟨R,o,sR⟩:=a
 obtain rfl:sR=none:=by
  have h00:=hcell 0 z0 hz0
  have:(Addr.add ⟨R,o,sR⟩ 0)=⟨R,o,sR⟩:=by simp [Addr.add]
  rw [this] at h00
  exact Go.Proofs.cell_spot h00
 exact ⟨R,o,cap,by rw [hcs,hlen],by omega,fun j s hj=>by have:=hcell j s hj;rwa [Addr.add_lit] at this⟩
theorem block_lt {w:World} {R o:Nat} {s:Option Nat} {v:Value} (h:w.cell? ⟨R,o,none⟩=some v):R<w.heap.size:=by
 refine Nat.lt_of_not_le fun hge=>?_
 simp [World.cell?,Array.getElem?_eq_none hge] at h
theorem strs_row {σ:ASt} {w:World} {b:Nat} (hst:∀ o,Still σ w b o):∀ (zs:List (List UInt8)) (o:Nat),(∀ j z,zs[j]? = some z->w.cell? ⟨b,o+j,none⟩=some (.string ⟨⟨z⟩⟩))->Row σ w b o 1 (zs.map AV.str)
 | [],o,_ => .nil _ _ _
 | z::zs,o,h => .cons rfl (.cons (hst o) (h 0 z rfl) (.str z) (.nil _ _)) (strs_row hst zs (o+1) fun j z' hj=>by
   have:=h (j+1) z' (by simpa using hj)
   rwa [show o+(j+1)=o+1+j by omega] at this)
theorem strss_row {σ:ASt} {w:World} {b:Nat} (hst:∀ o,Still σ w b o):∀ (zs:List (List (List UInt8))) (o:Nat),
  (∀ j z,zs[j]? = some z->∃ v,w.cell? ⟨b,o+j,none⟩=some v/\Rep σ w (.sl .shr (z.map AV.str)) v)->Row σ w b o 1 (zs.map fun l=>AV.sl .shr (l.map AV.str))
 | [],o,_ => .nil _ _ _
 | z::zs,o,h=>by
   obtain ⟨v,hv,hr⟩:=h 0 z rfl
   exact .cons rfl (.cons (hst o) hv hr (.nil _ _)) (strss_row hst zs (o+1) fun j z' hj=>by
    have:=h (j+1) z' (by simpa using hj)
    rwa [show o+(j+1)=o+1+j by omega] at this)
theorem levels_role {σ : ASt} {W : World} (hfx : ∀ b r, σ b = some r → ∃ l, r = .fix l) (h : VarReads Tryz.prog W "tabular/parse.levels" (.slice (levelsL.map fun l => .slice (l.map fun s => .lit (.string s)) []) [])) :
  RoleOk σ W 0 (.fix [lvAV]):=by
 obtain ⟨g',t',cs,fuel,p,hg,hty,hvar,hd⟩:=h
 obtain rfl := Option.some.inj ((show Tryz.prog.globalNamed "tabular/parse.levels" = some 0 by kernel_rfl).symm.trans hg)
 obtain rfl:=Option.some.inj ((show (Tryz.prog.globals[0]?).map (·.type)=some 130 by kernel_rfl).symm.trans hty)
 have ht:Tryz.prog.underlying 130=some (.slice 132):=by kernel_rfl
 have ht2:Tryz.prog.underlying 132=some (.slice 9):=by kernel_rfl
 have he:Tryz.prog.underlying 9=some .string:=by kernel_rfl
 have hc:Tryz.prog.cellsOf 132=1:=by kernel_rfl
 have hc2:Tryz.prog.cellsOf 9=1:=by kernel_rfl
 have hpos:∀ (j:Nat) (z:List (List UInt8)),levelsL[j]? = some z->0<z.length:=by
  intro j z hj
  match j,hj with
  | 0,hj|1,hj|2,hj|3,hj|4,hj=>injection hj with hj;subst hj;decide
 rcases DataW.trod_slice ht hd with ⟨_,hx⟩|⟨a,len,cap,el,rs,k,rfl,hcs,hx,_,hlc,_,hel,helem,hsp,_⟩
 ·cases hx
 have e0:=congrArg Prod.fst hx
 simp only [DataW.slice.injEq] at e0
 obtain ⟨eE,eR⟩:=e0
 have hlen:len=levelsL.length:=by
  have:=congrArg List.length eE
  simp at this
  omega
 have hcell:∀ i z,levelsL[i]? = some z->∃ v,W.cell? (a.add i)=some v/\Rep σ W (.sl .shr (z.map AV.str)) v:=by
  intro i z hiz
  have hi:i<levelsL.length:=(List.getElem?_eq_some_iff.1 hiz).1
  have h1:=helem i (by omega)
  rw [hc] at h1
  obtain ⟨b, hb⟩ : ∃ b, el[i]? = some b := ⟨el[i]'(by omega), List.getElem?_eq_getElem (by omega)⟩
  rw [hb] at h1
  obtain ⟨ce,hce,hte⟩:=Option.bind_eq_some_iff.1 h1
  have hb1:b.1 = .slice (z.map fun s => .lit (.string s)) []:=by
   have:=congrArg (·[i]?) eE
   simp only [List.getElem?_map,hiz,hb,Option.map_some,Option.some.injEq] at this
   exact this.symm
  obtain ⟨b1,b2⟩:=b
  dsimp only at hb1
  subst hb1
  obtain ⟨R,o,cap',rfl,hle,hcells⟩:=strs_trod ht2 he hc2 (hpos i z hiz) hte
  obtain ⟨_,_,hcc⟩:=World.cells?_some hce
  have:=hcc 0 (by omega)
  simp only [Nat.mul_one] at this
  have e1:(a.add i).add 0=a.add i:=by simp [Addr.add]
  rw [e1] at this
  obtain ⟨z0, hz0⟩ : ∃ z0, z[0]? = some z0 := ⟨z[0]'(hpos i z hiz), List.getElem?_eq_getElem (hpos i z hiz)⟩
  have hR:=block_lt (s:=none) (hcells 0 z0 hz0)
  exact ⟨_,this,.sl (sz:=1) (strs_row (fun o=>still_fix hfx hR) z o hcells) (by simp) hle trivial hR⟩
 obtain ⟨R,o,sR⟩:=a
 obtain ⟨v0,h00,_⟩:=hcell 0 [[61],[60,62],[60],[60,61],[62],[62,61]] rfl
 obtain rfl:sR=none:=by
  have:(Addr.add ⟨R,o,sR⟩ 0)=⟨R,o,sR⟩:=by simp [Addr.add]
  rw [this] at h00
  exact Go.Proofs.cell_spot h00
 have hR:R<W.heap.size:=by
  have:(Addr.add ⟨R,o,none⟩ 0)=⟨R,o,none⟩:=by simp [Addr.add]
  rw [this] at h00
  exact block_lt (s:=none) h00
 have hrow:=strss_row (fun o=>still_fix hfx hR) levelsL o fun j z hj=>by
  obtain ⟨v,hv,hr⟩:=hcell j z hj
  rw [Addr.add_lit] at hv
  exact ⟨v,hv,hr⟩
 unfold World.var? at hvar
 rw [hg,Option.bind_some] at hvar
 split at hvar
 ·rename_i cs' T fr hheap
  injection hvar with hvar
  subst hvar
  have hcs2:cs' = #[.slice (some ⟨R,o,none⟩) levelsL.length cap]:=by
   rw [<-hlen]
   exact Array.ext' (by simpa using hcs)
  subst hcs2
  have hlt:0<W.heap.size:=(Array.getElem?_eq_some_iff.1 hheap).1
  have hce:W.cell? ⟨0,0,none⟩=some (.slice (some ⟨R,o,none⟩) levelsL.length cap):=by simp [World.cell?,hheap]
  have hrep:Rep σ W lvAV (.slice (some ⟨R,o,none⟩) levelsL.length cap) := .sl (sz:=1) hrow (by simp) (by omega) trivial hR
  exact ⟨.cons (still_fix hfx hlt) hce hrep (.nil _ _),_,T,fr,hheap,rfl⟩
 ·cases hvar
def xSt (m:Int):ASt:=fun b=>if b=0 then some (.fix [lvAV]) else wSt m b
theorem xSt_fix {m:Int} {b:Nat} {r:Role} (h:xSt m b=some r):∃ l,r = .fix l:=by
 unfold xSt at h
 split at h
 ·injection h with h;exact ⟨_,h.symm⟩
 ·exact wSt_fix h
end Go.Proofs.YthdpkgfdjmeaiaaGreatDoor
