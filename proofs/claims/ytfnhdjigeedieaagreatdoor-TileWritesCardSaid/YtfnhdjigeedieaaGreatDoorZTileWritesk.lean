/- Part 11 of what TileWrites leans on: Rb CodeOj Oj CodeOk Ok CodeOl Ol Sza CodeOm Om Ms Mv Mw Mx. -/
import Derived.Test.YtfnhdjigeedieaaGreatDoorProg
import Derived.KernelRfl
import Derived.Test.YtfnhdjigeedieaaGreatDoorRows
import Derived.ProofKit
import Derived.LaidMore
import Derived.OpenShut
import Derived.Stop.LaidErr
import Derived.MakeChecks
import Derived.SevenTiedAt
import Derived.Lay
import Derived.ChangeArms
import Derived.Lib.LaidU8
import Derived.Lib.LaidTab
import Derived.Shelf.Vars
import Derived.HandedShaped
import Derived.Test.YtfnhdjigeedieaaGreatDoorZTileWritesj
set_option linter.defProp false
set_option linter.unusedSimpArgs false
set_option linter.unusedVariables false
set_option maxRecDepth 100000
section
attribute [local go_sem] reduceCtorEq Nat.reduceEqDiff Nat.reduceAdd Nat.reduceSub Nat.reduceMul Nat.reduceLeDiff Int.reduceLT Int.reduceLE Int.reduceEq Int.reduceNeg Int.reduceAdd Int.reduceSub Int.reduceMul true_imp_iff forall_const Nat.mul_one Int.reduceToNat Nat.reducePow Int.reducePow Bool.true_and Bool.false_and Bool.and_false
attribute [local go_sem ↓] reduceIte
namespace Go.A
open Go.Proofs Go.Lib
theorem rerrors_ok:Pure Tryz.prog 82 [] (.sl .full (errL.map AV.str)):=by
 intro σ
 refine a82 (by simp) ?_
 simp (disch:=first|assumption|omega) only [go_sem]
 exact retC_by (.refl _) (.refl _) ⟨rfl,rfl⟩
theorem rquote_ok (s:List UInt8) (hs:s.length<=1000000):Pure Tryz.prog 81 [.str s] (.str (quotT s)):=by
 intro σ
 have hq:quotT s=34::dbl s ++ [34]:=rfl
 rw [hq]
 have hdl:=dbl_le2 s
 refine a81 (by simp) ?_
 simp (disch:=first|assumption|omega|(simp only [List.length_append,List.length_cons,List.length_nil];omega)) only [go_sem]
 refine wp_loop_by (fun (i:Nat) a σ'=>i<=s.length/\(a 0 = .str s/\a 3 = .str (34::dbl (s.take i))/\a 4 = .int .i64 i)/\σ'=σ) (fun i=>s.length-i) 0 (Dr.now ⟨Nat.zero_le _,by simp [AFr.upd,init,dbl],rfl⟩) ?_
 rintro i a σ1 ⟨hi,hf,rfl⟩
 by_cases hlt:i<s.length
 ·have hlt':(i:Int)<s.length:=by omega
  have hx : s[i]? = some (s[i]'hlt) := List.getElem?_eq_getElem hlt
  have htk : s.take (i + 1) = s.take i ++ [s[i]'hlt] := List.take_succ_eq_append_getElem hlt
  have hdi:=dbl_le2 (s.take i)
  have hli:(s.take i).length=i:=by rw [List.length_take];omega
  obtain ⟨c, hc⟩ : ∃ c, s[i]'hlt = c := ⟨_, rfl⟩
  rw [hc] at hx htk
  have hpc:(s.take (i+1)).drop i = [c]:=by rw [htk];exact List.drop_left' hli
  have e1:((i:Int)+1).toNat=i+1:=by omega
  have e2:(i:Int)<=(i:Int)+1:=by omega
  have e3:(i:Int)+1<=s.length:=by omega
  have hdb:dbl (s.take (i+1))=dbl (s.take i)++dbl [c]:=by rw [htk,dbl_app]
  generalize dbl (s.take i)=D at *
  by_cases h34:c=34
  ·subst h34
   have hd2:dbl [34] = [34,34]:=rfl
   rw [hd2] at hdb
   have c34:((34:UInt8).toNat:Int)=34:=rfl
   simp (disch:=first|assumption|omega|(simp only [List.length_append,List.length_cons,List.length_nil];omega)) only [go_sem,hf,hlt',hx,c34,e1,hpc]
   refine ⟨i+1,by dsimp only;omega,Dr.now ⟨hlt,?_,rfl⟩⟩
   rw [hdb]
   simp [hf,AFr.upd]
  ·have hd2:dbl [c] = [c]:=by rw [dbl_o h34];rfl
   rw [hd2] at hdb
   have c34:¬ ((c.toNat:Int)=34):=by
    intro h
    apply h34
    apply UInt8.toNat_inj.1
    have:c.toNat=34:=by omega
    rw [this]
    rfl
   simp (disch:=first|assumption|omega|(simp only [List.length_append,List.length_cons,List.length_nil];omega)) only [go_sem,hf,hlt',hx,c34,e1,hpc]
   refine ⟨i+1,by dsimp only;omega,Dr.now ⟨hlt,?_,rfl⟩⟩
   rw [hdb]
   simp [hf,AFr.upd]
 ·have hlt':¬ (i:Int)<s.length:=by omega
  rw [List.take_of_length_le (by omega)] at hf
  generalize dbl s=D at *
  simp (disch:=first|assumption|omega|(simp only [List.length_append,List.length_cons,List.length_nil];omega)) only [go_sem,hf,hlt']
  exact retC_by (.refl _) (.refl _) ⟨rfl,rfl⟩
theorem nf_op {n:Nd} (h:Nf n):1<=n.op/\n.op<=23:=by
 cases h with
 | sign ho _ _=>simp only [Nd.op];omega
 | bin hi _ _ _ _=>simp only [Nd.op];omega
 | _=>simp only [Nd.op];omega
theorem rlevel_ok (op:Int) (h1:1<=op) (h2:op<=23):Pure Tryz.prog 85 [.int .i64 op] (.int .i64 (levelP op)):=by
 intro σ
 have:op=1\/op=2\/op=3\/op=4\/op=5\/op=6\/op=7\/op=8\/op=9\/op=10\/op=11\/op=12\/op=13\/op=14\/op=15\/op=16\/op=17\/op=18\/op=19\/op=20\/op=21\/op=22\/op=23:=by omega
 rcases this with rfl|rfl|rfl|rfl|rfl|rfl|rfl|rfl|rfl|rfl|rfl|rfl|rfl|rfl|rfl|rfl|rfl|rfl|rfl|rfl|rfl|rfl|rfl
 all_goals
  refine a85 (by simp) ?_
  simp (disch:=first|assumption|omega) only [go_sem]
  exact retC_by (.refl _) (.refl _) ⟨rfl,rfl⟩
theorem rinside_ok {x:Nd} (hp:Pure Tryz.prog 38 [x.av] (.str x.spell)) (ho:1<=x.op/\x.op<=23) (least:Int) (hl:x.spell.length<=900000000):Pure Tryz.prog 84 [x.av,.int .i64 least] (.str (insT least x.op x.spell)):=by
 intro σ
 have hv:=rlevel_ok x.op ho.1 ho.2
 unfold insT
 generalize x.spell=w at *
 obtain ⟨l,hl0⟩:∃ l,levelP x.op=l:=⟨_,rfl⟩
 rw [hl0] at hv ⊢
 clear hl0
 obtain ⟨o,m,s,a,b,ks⟩:=x
 rw [op_mk] at hv
 rw [Nd.av_cs] at hp ⊢
 generalize ks.map Nd.av=L at *
 refine a84 (by simp) ?_
 simp (disch:=first|assumption|omega) only [go_sem]
 refine boxC_by rfl fun c hc=>?_
 simp (disch:=first|assumption|omega) only [go_sem]
 refine hv.use ?_
 by_cases hlt:l<least
 ·rw [if_neg (by omega)]
  have e1:binS .add [40] w=some (.str (40::w)):=binS_add (by simp;omega)
  have e2:binS .add (40::w) [41]=some (.str (40::w ++ [41])):=binS_add (by simp;omega)
  simp (disch:=first|assumption|omega) only [go_sem,hlt]
  refine hp.use ?_
  simp (disch:=first|assumption|omega) only [go_sem,e1,e2]
  exact retC_by (Drop.set hc) (.refl _) ⟨rfl,rfl⟩
 ·rw [if_pos (by omega)]
  simp (disch:=first|assumption|omega) only [go_sem,hlt]
  refine hp.use ?_
  simp (disch:=first|assumption|omega) only [go_sem]
  exact retC_by (Drop.set hc) (.refl _) ⟨rfl,rfl⟩
theorem nf_kid_len {least op:Int} {x:List UInt8}:x.length<=(insT least op x).length:=by
 unfold insT
 split
 ·omega
 ·simp;omega
theorem joinS_kid {ks:List Nd} {x:Nd} (h:x∈ks):x.spell.length<=(joinS ks).length:=by
 have flat:∀ l:List Nd,x∈l->x.spell.length<=(l.flatMap fun k=>44::k.spell).length:=by
  intro l
  induction l with
  | nil=>intro h;cases h
  | cons y l ih=>
    intro h
    rw [List.flatMap_cons,List.length_append,List.length_cons]
    rcases List.mem_cons.1 h with rfl|h
    ·omega
    ·have:=ih h;omega
 cases ks with
 | nil=>cases h
 | cons y l=>
   rw [joinS,List.length_append]
   rcases List.mem_cons.1 h with rfl|h
   ·omega
   ·have:=flat l h;omega
theorem joinS_take (ks:List Nd) (i:Nat) (hi:i<ks.length):joinS (ks.take (i+1))=joinS (ks.take i)++((if i=0 then [] else [44])++(ks[i]).spell):=by
 cases ks with
 | nil=>simp at hi
 | cons x l=>
   cases i with
   | zero=>simp [joinS]
   | succ i=>
     rw [List.take_succ_cons,List.take_succ_cons,joinS,joinS]
     have hl:i<l.length:=by simpa using hi
     have e:(l.take (i+1)).flatMap (fun k=>44::k.spell)=(l.take i).flatMap (fun k=>44::k.spell)++(44::(l[i]).spell):=by rw [List.take_succ_eq_append_getElem hl,List.flatMap_append,List.flatMap_singleton]
     rw [e]
     simp
theorem joinS_take_le (ks:List Nd) (i:Nat) (hi:i<=ks.length):(joinS (ks.take i)).length<=(joinS ks).length:=by
 induction h:ks.length-i generalizing i with
 | zero=>
   rw [List.take_of_length_le (by omega)]
   omega
 | succ d ih=>
   have:=ih (i+1) (by omega) (by omega)
   rw [joinS_take ks i (by omega),List.length_append] at this
   omega
set_option maxHeartbeats 2000000 in
theorem rprint_nf {n:Nd} (h:Nf n):n.spell.length<=900000000->Pure Tryz.prog 38 [n.av] (.str n.spell):=by
 induction h with
 | @num n h0 h1=>
   intro hl σ
   have e:(Nd.mk 1 n [] .zero .zero []).spell=textD n:=rfl
   have hc:=drtext_ok (a:=n) (by omega)
   rw [e,Nd.av_cs]
   generalize textD n=w at *
   refine a38 (by simp) ?_
   simp (disch:=first|assumption|omega|(simp only [List.length_append,List.length_cons,List.length_nil];omega)) only [go_sem]
   refine boxC_by rfl fun c hc'=>?_
   simp (disch:=first|assumption|omega|(simp only [List.length_append,List.length_cons,List.length_nil];omega)) only [go_sem]
   refine hc.use ?_
   simp (disch:=first|assumption|omega|(simp only [List.length_append,List.length_cons,List.length_nil];omega)) only [go_sem]
   exact retC_by (Drop.set hc') (.refl _) ⟨rfl,rfl⟩
 | @text s _ hs=>
   intro hl σ
   have e:(Nd.mk 2 0 s .zero .zero []).spell=quotT s:=rfl
   have hc:=rquote_ok s (by omega)
   rw [e,Nd.av_cs]
   generalize quotT s=w at *
   refine a38 (by simp) ?_
   simp (disch:=first|assumption|omega|(simp only [List.length_append,List.length_cons,List.length_nil];omega)) only [go_sem]
   refine boxC_by rfl fun c hc'=>?_
   simp (disch:=first|assumption|omega|(simp only [List.length_append,List.length_cons,List.length_nil];omega)) only [go_sem]
   refine hc.use ?_
   simp (disch:=first|assumption|omega|(simp only [List.length_append,List.length_cons,List.length_nil];omega)) only [go_sem]
   exact retC_by (Drop.set hc') (.refl _) ⟨rfl,rfl⟩
 | @truth b hb=>
   intro hl σ
   rw [Nd.av_cs]
   rcases hb with rfl|rfl
   ·refine a38 (by simp) ?_
    simp (disch:=first|assumption|omega|(simp only [List.length_append,List.length_cons,List.length_nil];omega)) only [go_sem]
    refine boxC_by rfl fun c hc'=>?_
    simp (disch:=first|assumption|omega|(simp only [List.length_append,List.length_cons,List.length_nil];omega)) only [go_sem]
    exact retC_by (Drop.set hc') (.refl _) ⟨rfl,rfl⟩
   ·refine a38 (by simp) ?_
    simp (disch:=first|assumption|omega|(simp only [List.length_append,List.length_cons,List.length_nil];omega)) only [go_sem]
    refine boxC_by rfl fun c hc'=>?_
    simp (disch:=first|assumption|omega|(simp only [List.length_append,List.length_cons,List.length_nil];omega)) only [go_sem]
    exact retC_by (Drop.set hc') (.refl _) ⟨rfl,rfl⟩
 | @fail k hk=>
   intro hl σ
   have e:(Nd.mk 4 (((k:Int)+1)*10000) [] .zero .zero []).spell=errL.getD k []:=fail_text hk
   have he:=rerrors_ok
   have hq:(((k:Int)+1)*10000).tdiv 10000=(k:Int)+1:=Int.mul_tdiv_cancel _ (by decide)
   have hq2:(k:Int)+1-1=k:=by omega
   have hx:(errL.map AV.str)[k]? = some (.str (errL.getD k [])):=by
    rw [List.getElem?_map,List.getD_eq_getElem?_getD]
    have:k<errL.length:=hk
    rw [List.getElem?_eq_getElem this]
    rfl
   have hlt:(k:Int)<(errL.map AV.str).length:=by
    have:(errL.map AV.str).length=7:=rfl
    omega
   rw [e,Nd.av_cs]
   generalize errL.getD k []=w at *
   generalize ((k:Int)+1)*10000=N at *
   generalize errL.map AV.str=E at *
   refine a38 (by simp) ?_
   simp (disch:=first|assumption|omega|(simp only [List.length_append,List.length_cons,List.length_nil];omega)) only [go_sem]
   refine boxC_by rfl fun c hc'=>?_
   simp (disch:=first|assumption|omega|(simp only [List.length_append,List.length_cons,List.length_nil];omega)) only [go_sem,hq,hq2]
   refine he.use ?_
   simp (disch:=first|assumption|omega|(simp only [List.length_append,List.length_cons,List.length_nil];omega)) only [go_sem,hx]
   exact retC_by (Drop.set hc') (.refl _) ⟨rfl,rfl⟩
 | @cell r hr=>
   intro hl σ
   have e:(Nd.mk 5 0 [] r .zero []).spell=textP r:=rfl
   have hc:=reftext_ok hr
   rw [e,Nd.av_cs]
   unfold refAV at hc
   generalize textP r=w at *
   refine a38 (by simp) ?_
   simp (disch:=first|assumption|omega|(simp only [List.length_append,List.length_cons,List.length_nil];omega)) only [go_sem]
   refine boxC_by rfl fun c hc'=>?_
   simp (disch:=first|assumption|omega|(simp only [List.length_append,List.length_cons,List.length_nil];omega)) only [go_sem]
   refine hc.use ?_
   simp (disch:=first|assumption|omega|(simp only [List.length_append,List.length_cons,List.length_nil];omega)) only [go_sem]
   exact retC_by (Drop.set hc') (.refl _) ⟨rfl,rfl⟩
 | @area r q hr hq=>
   intro hl σ
   have e:(Nd.mk 6 0 [] r q []).spell=textP r ++ [58]++textP q:=rfl
   have hc1:=reftext_ok hr
   have hc2:=reftext_ok hq
   have l1:=text_len hr
   have l2:=text_len hq
   rw [e,Nd.av_cs]
   unfold refAV at hc1 hc2
   generalize textP r=w1 at *
   generalize textP q=w2 at *
   refine a38 (by simp) ?_
   simp (disch:=first|assumption|omega|(simp only [List.length_append,List.length_cons,List.length_nil];omega)) only [go_sem]
   refine boxC_by rfl fun c hc'=>?_
   simp (disch:=first|assumption|omega|(simp only [List.length_append,List.length_cons,List.length_nil];omega)) only [go_sem]
   refine hc1.use ?_
   simp (disch:=first|assumption|omega|(simp only [List.length_append,List.length_cons,List.length_nil];omega)) only [go_sem]
   refine hc2.use ?_
   simp (disch:=first|assumption|omega|(simp only [List.length_append,List.length_cons,List.length_nil];omega)) only [go_sem]
   exact retC_by (Drop.set hc') (.refl _) ⟨by simp [resV_one],rfl⟩
 | @sign op x ho hx hne ih=>
   intro hl σ
   rw [spell_sign ho] at hl ⊢
   rw [List.length_append,List.length_singleton] at hl
   have hk:=nf_kid_len (least:=6) (op:=x.op) (x:=x.spell)
   have hin:=rinside_ok (ih (by omega)) (nf_op hx) 6 (by omega)
   rw [Nd.av_cs]
   generalize insT 6 x.op x.spell=w at *
   have hmx:([x].map Nd.av)[0]? = some x.av:=rfl
   obtain ⟨xo,xm,xs,xa,xb,xk⟩:=x
   rw [Nd.av_cs] at hmx hin
   have hlm:([Nd.mk xo xm xs xa xb xk].map Nd.av).length=1:=rfl
   generalize [Nd.mk xo xm xs xa xb xk].map Nd.av=L at *
   rcases ho with rfl|rfl
   ·refine a38 (by simp) ?_
    simp (disch:=first|assumption|omega|(simp only [List.length_append,List.length_cons,List.length_nil];omega)) only [go_sem]
    refine boxC_by rfl fun c hc'=>?_
    simp (disch:=first|assumption|omega|(simp only [List.length_append,List.length_cons,List.length_nil];omega)) only [go_sem,hmx]
    refine hin.use ?_
    simp (disch:=first|assumption|omega|(simp only [List.length_append,List.length_cons,List.length_nil];omega)) only [go_sem]
    exact retC_by (Drop.set hc') (.refl _) ⟨rfl,rfl⟩
   ·refine a38 (by simp) ?_
    simp (disch:=first|assumption|omega|(simp only [List.length_append,List.length_cons,List.length_nil];omega)) only [go_sem]
    refine boxC_by rfl fun c hc'=>?_
    simp (disch:=first|assumption|omega|(simp only [List.length_append,List.length_cons,List.length_nil];omega)) only [go_sem,hmx]
    refine hin.use ?_
    simp (disch:=first|assumption|omega|(simp only [List.length_append,List.length_cons,List.length_nil];omega)) only [go_sem]
    exact retC_by (Drop.set hc') (.refl _) ⟨rfl,rfl⟩
 | @hund x hx hne ih=>
   intro hl σ
   rw [spell_hund] at hl ⊢
   rw [List.length_append,List.length_singleton] at hl
   have hk:=nf_kid_len (least:=7) (op:=x.op) (x:=x.spell)
   have hin:=rinside_ok (ih (by omega)) (nf_op hx) 7 (by omega)
   rw [Nd.av_cs]
   generalize insT 7 x.op x.spell=w at *
   have hmx:([x].map Nd.av)[0]? = some x.av:=rfl
   obtain ⟨xo,xm,xs,xa,xb,xk⟩:=x
   rw [Nd.av_cs] at hmx hin
   have hlm:([Nd.mk xo xm xs xa xb xk].map Nd.av).length=1:=rfl
   generalize [Nd.mk xo xm xs xa xb xk].map Nd.av=L at *
   refine a38 (by simp) ?_
   simp (disch:=first|assumption|omega|(simp only [List.length_append,List.length_cons,List.length_nil];omega)) only [go_sem]
   refine boxC_by rfl fun c hc'=>?_
   simp (disch:=first|assumption|omega|(simp only [List.length_append,List.length_cons,List.length_nil];omega)) only [go_sem,hmx]
   refine hin.use ?_
   simp (disch:=first|assumption|omega|(simp only [List.length_append,List.length_cons,List.length_nil];omega)) only [go_sem]
   exact retC_by (Drop.set hc') (.refl _) ⟨rfl,rfl⟩
 | @bin i x y hi hx hnx hy hny ihx ihy=>
   intro hl σ
   rw [spell_bin hi] at hl ⊢
   rw [List.length_append,List.length_append] at hl
   have hlv:=rlevel_ok (10+(i:Int)) (by omega) (by omega)
   have hsg:=r12signs_ok
   have hk1:=nf_kid_len (least:=levelP (10+i)) (op:=x.op) (x:=x.spell)
   have hk2:=nf_kid_len (least:=levelP (10+i)+1) (op:=y.op) (x:=y.spell)
   have hin1:=rinside_ok (ihx (by omega)) (nf_op hx) (levelP (10+i)) (by omega)
   have hin2:=rinside_ok (ihy (by omega)) (nf_op hy) (levelP (10+i)+1) (by omega)
   rw [Nd.av_cs]
   obtain ⟨lv,hlve⟩:∃ lv,levelP (10+(i:Int))=lv:=⟨_,rfl⟩
   have hlr:=lev_bin i hi
   rw [hlve] at hlv hin1 hin2 hl hlr ⊢
   generalize insT lv x.op x.spell=w1 at *
   generalize insT (lv+1) y.op y.spell=w2 at *
   have hmx:([x,y].map Nd.av)[0]? = some x.av:=rfl
   have hmy:([x,y].map Nd.av)[1]? = some y.av:=rfl
   obtain ⟨xo,xm,xs,xa,xb,xk⟩:=x
   obtain ⟨yo,ym,ys,ya,yb,yk⟩:=y
   rw [Nd.av_cs] at hmx hmy hin1 hin2
   have hlm:([Nd.mk xo xm xs xa xb xk,Nd.mk yo ym ys ya yb yk].map Nd.av).length=2:=rfl
   generalize [Nd.mk xo xm xs xa xb xk,Nd.mk yo ym ys ya yb yk].map Nd.av=L at *
   have hx:(signL.map AV.str)[i]? = some (.str (signL.getD i [])):=by
    rw [List.getElem?_map,List.getD_eq_getElem?_getD]
    have:i<signL.length:=hi
    rw [List.getElem?_eq_getElem this]
    rfl
   have hsl:(signL.map AV.str).length=12:=rfl
   generalize signL.getD i []=sg at *
   generalize signL.map AV.str=SG at *
   have q0:10+(i:Int)-10=i:=by omega
   have q1:¬ (10+(i:Int)=1):=by omega
   have q2:¬ (10+(i:Int)=2):=by omega
   have q3:¬ (10+(i:Int)=3):=by omega
   have q4:¬ (10+(i:Int)=4):=by omega
   have q5:¬ (10+(i:Int)=5):=by omega
   have q6:¬ (10+(i:Int)=6):=by omega
   have q7:¬ (10+(i:Int)=7):=by omega
   have q8:¬ (10+(i:Int)=8):=by omega
   have q9:¬ (10+(i:Int)=9):=by omega
   have q22:¬ (10+(i:Int)=22):=by omega
   have q23:¬ (10+(i:Int)=23):=by omega
   refine a38 (by simp) ?_
   simp (disch:=first|assumption|omega|(simp only [List.length_append,List.length_cons,List.length_nil];omega)) only [go_sem]
   refine boxC_by rfl fun c hc'=>?_
   simp (disch:=first|assumption|omega|(simp only [List.length_append,List.length_cons,List.length_nil];omega)) only [go_sem,q0,q1,q2,q3,q4,q5,q6,q7,q8,q9,q22,q23,hmx,hmy]
   refine hlv.use ?_
   simp (disch:=first|assumption|omega|(simp only [List.length_append,List.length_cons,List.length_nil];omega)) only [go_sem]
   refine hin1.use ?_
   simp (disch:=first|assumption|omega|(simp only [List.length_append,List.length_cons,List.length_nil];omega)) only [go_sem]
   refine hsg.use ?_
   simp (disch:=first|assumption|omega|(simp only [List.length_append,List.length_cons,List.length_nil];omega)) only [go_sem,hx]
   refine hlv.use ?_
   simp (disch:=first|assumption|omega|(simp only [List.length_append,List.length_cons,List.length_nil];omega)) only [go_sem]
   refine hin2.use ?_
   simp (disch:=first|assumption|omega|(simp only [List.length_append,List.length_cons,List.length_nil];omega)) only [go_sem]
   exact retC_by (Drop.set hc') (.refl _) ⟨by simp [resV_one],rfl⟩
 | @call s ks hs hsl hk hm ih=>
   intro hl σ
   rw [spell_call] at hl ⊢
   rw [List.length_append,List.length_append,List.length_append,List.length_singleton,List.length_singleton] at hl
   have hkid:∀ x∈ks,Pure Tryz.prog 38 [x.av] (.str x.spell):=fun x hx=>ih x hx (by have:=joinS_kid hx;omega)
   rw [Nd.av_cs]
   refine a38 (by simp) ?_
   simp (disch:=first|assumption|omega|(simp only [List.length_append,List.length_cons,List.length_nil];omega)) only [go_sem]
   refine boxC_by rfl fun c hc'=>?_
   have hlm:(ks.map Nd.av).length=ks.length:=List.length_map _
   simp (disch:=first|assumption|omega|(simp only [List.length_append,List.length_cons,List.length_nil];omega)) only [go_sem,hlm]
   refine wp_loop_by (fun (i:Nat) a1 s2=>i<=ks.length/\(a1 3 = .str (s++([40]++joinS (ks.take i)))/\a1 77 = .sl .shr (ks.map Nd.av)/\a1 78 = .int .i64 ks.length/\a1 79 = .int .i64 i)/\s2=σ) (fun i=>ks.length-i) 0 (Dr.drop (Drop.set hc') ⟨Nat.zero_le _,?_,rfl⟩) ?_
   ·simp only [List.take_zero,joinS]
    simp (disch:=first|assumption|omega|(simp only [List.length_append,List.length_cons,List.length_nil];omega)) only [go_sem]
   rintro i a1 s2 ⟨hi,hf,rfl⟩
   have htl:=joinS_take_le ks i hi
   by_cases hlt:i<ks.length
   ·have hlt':(i:Int)<ks.length:=by omega
    have hx : ks[i]? = some (ks[i]'hlt) := List.getElem?_eq_getElem hlt
    have hnx:=joinS_take ks i hlt
    have hcall:=hkid _ (List.getElem_mem hlt)
    have hsx:=joinS_kid (List.getElem_mem hlt)
    obtain ⟨x, hxe⟩ : ∃ x, ks[i]'hlt = x := ⟨_, rfl⟩
    rw [hxe] at hx hcall hnx hsx
    have hmx:=Nd.get hx
    obtain ⟨w,hw⟩:∃ w,x.spell=w:=⟨_,rfl⟩
    rw [hw] at hcall hnx hsx
    obtain ⟨xo,xm,xs,xa,xb,xk⟩:=x
    rw [Nd.av_cs] at hmx hcall
    generalize ks.map Nd.av=L at *
    obtain ⟨J,hJ⟩:∃ J,joinS (ks.take i)=J:=⟨_,rfl⟩
    rw [hJ] at hf hnx htl
    simp (disch:=first|assumption|omega|(simp only [List.length_append,List.length_cons,List.length_nil];omega)) only [go_sem,hf,hlt',hmx]
    refine allocC_by fun d hd=>?_
    by_cases hi0:i=0
    ·subst hi0
     have hz:¬ ((0:Int)<((0:Nat):Int)):=by decide
     simp (disch:=first|assumption|omega|(simp only [List.length_append,List.length_cons,List.length_nil];omega)) only [go_sem,hf,ASt.set_set]
     refine hcall.use ?_
     simp (disch:=first|assumption|omega|(simp only [List.length_append,List.length_cons,List.length_nil];omega)) only [go_sem,hf]
     refine ⟨0+1,by dsimp only;omega,Dr.drop (Drop.set hd) ⟨by omega,?_,rfl⟩⟩
     rw [hnx]
     simp [hf,AFr.upd]
    ·have hz:(0:Int)<(i:Int):=by omega
     rw [if_neg hi0] at hnx
     simp (disch:=first|assumption|omega|(simp only [List.length_append,List.length_cons,List.length_nil];omega)) only [go_sem,hf,ASt.set_set,hz]
     refine hcall.use ?_
     simp (disch:=first|assumption|omega|(simp only [List.length_append,List.length_cons,List.length_nil];omega)) only [go_sem,hf]
     have hil:ks.length<=900000000:=by
      have hcount:∀ l:List Nd,l.length<=(joinS l).length+1:=by
       intro l
       cases l with
       | nil=>simp
       | cons y l=>
         have:∀ l:List Nd,l.length<=(l.flatMap fun k=>44::k.spell).length:=by
          intro l
          induction l with
          | nil=>simp
          | cons z l ih=>rw [List.flatMap_cons,List.length_append,List.length_cons,List.length_cons];omega
         have:=this l
         rw [joinS,List.length_append,List.length_cons]
         omega
      have:=hcount ks
      omega
     have hwr:IntKind.i64.wrap ((i:Int)+1)=i+1:=by rw [IntKind.wrap_i64];omega
     refine ⟨i+1,by dsimp only;omega,Dr.drop (Drop.set hd) ⟨by omega,?_,rfl⟩⟩
     rw [hnx]
     simp [hf,AFr.upd,hwr]
   ·have hlt':¬ (i:Int)<ks.length:=by omega
    rw [List.take_of_length_le (by omega)] at hf htl
    generalize joinS ks=J at *
    simp (disch:=first|assumption|omega|(simp only [List.length_append,List.length_cons,List.length_nil];omega)) only [go_sem,hf,hlt']
    exact retC_by (.refl _) (.refl _) ⟨by simp [resV_one],rfl⟩
 | miss=>
   intro hl σ
   rw [Nd.av_cs]
   refine a38 (by simp) ?_
   simp (disch:=first|assumption|omega|(simp only [List.length_append,List.length_cons,List.length_nil];omega)) only [go_sem]
   refine boxC_by rfl fun c hc'=>?_
   simp (disch:=first|assumption|omega|(simp only [List.length_append,List.length_cons,List.length_nil];omega)) only [go_sem]
   exact retC_by (Drop.set hc') (.refl _) ⟨rfl,rfl⟩
end Go.A
namespace Go.A
open Go.Proofs
/-! 88: tabular/tabularref15.Show -/
def c88_11:ACode := .seq (.ops [ oe 1 (.box (.t 0)),oq 2 (.mv (.v (.str [])))]) (.seq (.seq (.ops [ oq 5 (.fa 0 (.t 1)),oq 6 (.ld none (.t 5)),oq 7 (.bin .eql (.t 6) (.v (.int .i64 4)))]) (.cond (.t 7) (.seq (.ops [ oq 9 (.fa 1 (.t 1)),oq 10 (.ld none (.t 9)),oq 11 (.bin .sub (.t 10) (.v (.int .i64 1))),⟨some 8,none,.e (.call 82 []),[⟨none,.ld none (.t 9),10⟩]⟩,oq 12 (.ia 1 (.t 8) (.t 11)),oq 13 (.ld none (.t 12)),oq 2 (.mv (.t 13))]) .ret) .skip)) (.seq (.ops [ oq 15 (.ld (some 3) (.t 1)),oe 16 (.call 141 [(.t 15)]),oq 14 (.mv (.t 16)),oq 17 (.ext 0 (.t 14)),oq 18 (.ext 1 (.t 14)),oq 3 (.mv (.t 17)),oq 4 (.mv (.t 18))]) (.seq (.ops [ oq 19 (.mv (.t 3)),oq 2 (.mv (.t 19))]) .ret)))
@[go_sem] def c88_11_wp:=wp_of c88_11.eq_1
def c88:AFn:=⟨20,[.t 2],c88_11⟩
theorem c88_ok:compF Tryz.prog Tryz.f88=some c88:=by kernel_rfl
theorem a88 {args:List AV} {σ:ASt} {R:AV->ASt->Prop} (hl:args.length<=20) (h:c88_11.wp Tryz.prog (RetQ [.t 2] R) (init args) σ):ACalls Tryz.prog 88 args σ R:=acalls_of Tryz.func88 c88_ok hl h
/-! 141: tabular/tabularref15.AsText -/
def c141_33:ACode := .seq (.ops [ oe 1 (.box (.t 0)),oq 2 (.mv (.v (.str []))),oq 3 (.mv (.v (.int .i64 0)))]) (.seq (.seq (.ops [ oq 4 (.fa 0 (.t 1)),oq 5 (.ld none (.t 4))]) (.block 0 (.seq (.ops [ oq 7 (.bin .eql (.t 5) (.v (.int .i64 1))),oq 6 (.mv (.t 7))]) (.cond (.t 6) (.seq (.ops [ oq 8 (.fa 1 (.t 1)),oq 9 (.ld none (.t 8)),oe 10 (.call 80 [(.t 9)]),oq 2 (.mv (.t 10)),oq 3 (.mv (.v (.int .i64 0)))]) .ret) (.seq (.ops [ oq 12 (.bin .eql (.t 5) (.v (.int .i64 2))),oq 11 (.mv (.t 12))]) (.cond (.t 11) (.seq (.ops [ oq 13 (.fa 2 (.t 1)),oq 14 (.ld none (.t 13)),oq 2 (.mv (.t 14)),oq 3 (.mv (.v (.int .i64 0)))]) .ret) (.seq (.ops [ oq 16 (.bin .eql (.t 5) (.v (.int .i64 3))),oq 15 (.mv (.t 16))]) (.cond (.t 15) (.seq (.seq (.ops [ oq 17 (.fa 1 (.t 1)),oq 18 (.ld none (.t 17)),oq 19 (.bin .eql (.t 18) (.v (.int .i64 1)))]) (.cond (.t 19) (.seq (.ops [ oq 2 (.mv (.v (.str [84,82,85,69]))),oq 3 (.mv (.v (.int .i64 0)))]) .ret) .skip)) (.seq (.ops [ oq 2 (.mv (.v (.str [70,65,76,83,69]))),oq 3 (.mv (.v (.int .i64 0)))]) .ret)) (.seq (.ops [ oq 21 (.bin .eql (.t 5) (.v (.int .i64 4))),oq 20 (.mv (.t 21))]) (.cond (.t 20) (.seq (.ops [ oq 22 (.fa 1 (.t 1)),oq 23 (.ld none (.t 22)),oq 2 (.mv (.v (.str []))),oq 3 (.mv (.t 23))]) .ret) .skip)))))))))) (.seq (.ops [ oq 2 (.mv (.v (.str []))),oq 3 (.mv (.v (.int .i64 0)))]) .ret))
@[go_sem] def c141_33_wp:=wp_of c141_33.eq_1
def c141:AFn:=⟨24,[.t 2,.t 3],c141_33⟩
theorem c141_ok:compF Tryz.prog Tryz.f141=some c141:=by kernel_rfl
theorem a141 {args:List AV} {σ:ASt} {R:AV->ASt->Prop} (hl:args.length<=24) (h:c141_33.wp Tryz.prog (RetQ [.t 2,.t 3] R) (init args) σ):ACalls Tryz.prog 141 args σ R:=acalls_of Tryz.func141 c141_ok hl h
end Go.A
namespace Go.A
open Go.Proofs Go.Lib Go.Vint
theorem r15astext_ok (v:PV) (hg:v.good):Pure Tryz.prog 141 [plAV (plOf v)] (.tuple [.str (asTextP v).1,.int .i64 (asTextP v).2]):=by
 intro σ
 cases v with
 | blank=>
   refine a141 (by simp) ?_
   simp only [plOf,plAV,asTextP]
   simp (disch:=first|assumption|omega) only [go_sem]
   refine boxC_by rfl fun c hc=>?_
   simp (disch:=first|assumption|omega) only [go_sem]
   exact retC_by (Drop.set hc) (.refl _) ⟨rfl,rfl⟩
 | num n=>
   have hT:=drtext_ok (a:=n) hg
   refine a141 (by simp) ?_
   simp only [plOf,plAV,asTextP]
   generalize textD n=tx at *
   simp (disch:=first|assumption|omega) only [go_sem]
   refine boxC_by rfl fun c hc=>?_
   simp (disch:=first|assumption|omega) only [go_sem]
   refine hT.use ?_
   simp (disch:=first|assumption|omega) only [go_sem]
   exact retC_by (Drop.set hc) (.refl _) ⟨rfl,rfl⟩
 | text t=>
   refine a141 (by simp) ?_
   simp only [plOf,plAV,asTextP]
   simp (disch:=first|assumption|omega) only [go_sem]
   refine boxC_by rfl fun c hc=>?_
   simp (disch:=first|assumption|omega) only [go_sem]
   exact retC_by (Drop.set hc) (.refl _) ⟨rfl,rfl⟩
 | bool b=>
   cases b
   all_goals
    refine a141 (by simp) ?_
    simp only [plOf,plAV,asTextP]
    simp (disch:=first|assumption|omega) only [go_sem]
    refine boxC_by rfl fun c hc=>?_
    simp (disch:=first|assumption|omega) only [go_sem]
    exact retC_by (Drop.set hc) (.refl _) ⟨rfl,rfl⟩
 | fail n=>
   refine a141 (by simp) ?_
   simp only [plOf,plAV,asTextP]
   simp (disch:=first|assumption|omega) only [go_sem]
   refine boxC_by rfl fun c hc=>?_
   simp (disch:=first|assumption|omega) only [go_sem]
   exact retC_by (Drop.set hc) (.refl _) ⟨rfl,rfl⟩
theorem r15show_ok (v:PV) (hg:v.good):Pure Tryz.prog 88 [plAV (plOf v)] (.str (showP v)):=by
 intro σ
 have hA:=r15astext_ok v hg
 by_cases hf:∃ n,v = .fail n
 ·obtain ⟨n,rfl⟩:=hf
  have h1:1<=n/\n<=7:=hg
  have hE:=rerrors_ok
  have h2:n=1\/n=2\/n=3\/n=4\/n=5\/n=6\/n=7:=by omega
  clear hA hg h1
  rcases h2 with rfl|rfl|rfl|rfl|rfl|rfl|rfl
  all_goals
   refine a88 (by simp) ?_
   simp only [plOf,plAV,showP]
   simp (disch:=first|assumption|omega) only [go_sem]
   refine boxC_by rfl fun c hc=>?_
   simp (disch:=first|assumption|omega) only [go_sem]
   refine hE.use ?_
   simp (disch:=first|assumption|omega) only [go_sem,errL]
   exact retC_by (Drop.set hc) (.refl _) ⟨rfl,rfl⟩
 ·have hs:showP v=(asTextP v).1:=by cases v<;>first|rfl|exact absurd ⟨_,rfl⟩ hf
  have hk:(plOf v).kind≠4:=by cases v<;>first|(simp [plOf];done)|exact absurd ⟨_,rfl⟩ hf
  rw [hs]
  generalize (asTextP v).1=tx at *
  generalize (asTextP v).2=e at *
  generalize plOf v=pl at *
  obtain ⟨k,y,z⟩:=pl
  unfold plAV at *
  dsimp only at hA hk ⊢
  refine a88 (by simp) ?_
  simp (disch:=first|assumption|omega) only [go_sem]
  refine boxC_by rfl fun c hc=>?_
  simp (disch:=first|assumption|omega) only [go_sem,hk]
  refine hA.use ?_
  simp (disch:=first|assumption|omega) only [go_sem]
  exact retC_by (Drop.set hc) (.refl _) ⟨rfl,rfl⟩
end Go.A
namespace Go.A
open Go.Proofs
/-! 18: tabular/tabularref20.Text -/
def c18_17:ACode := .seq (.ops [ oe 1 (.box (.t 0)),oq 2 (.mv (.v (.str [])))]) (.seq (.seq (.ops [ oq 4 (.fa 0 (.t 1)),oq 5 (.fa 0 (.t 4)),oq 6 (.ld none (.t 5)),oq 7 (.bin .gtr (.t 6) (.v (.int .i64 0)))]) (.cond (.t 7) (.seq (.ops [ oq 8 (.fa 0 (.t 1)),oq 9 (.ld (some 12) (.t 8)),oe 10 (.call 38 [(.t 9)]),oq 11 (.bin .add (.v (.str [61])) (.t 10)),oq 2 (.mv (.t 11))]) .ret) .skip)) (.seq (.ops [ oq 12 (.fa 12 (.t 1)),oq 13 (.ld (some 3) (.t 12)),oe 14 (.call 39 [(.t 13)]),oq 3 (.mv (.t 14))]) (.seq (.seq (.ops [ oq 15 (.mv (.t 3)),oq 16 (.lenS (.t 15)),oq 17 (.bin .gtr (.t 16) (.v (.int .i64 0))),oq 18 (.mv (.t 17)),⟨some 19,some (18,true),.q (.mv (.t 3)),[]⟩,⟨some 20,some (18,true),.q (.idx (.t 19) (.v (.int .i64 0))),[]⟩,⟨some 21,some (18,true),.q (.bin .eql (.t 20) (.v (.int .u8 61))),[]⟩,oq 22 (.pick (.t 18) (.t 21) (.v (.bool false)))]) (.cond (.t 22) (.seq (.ops [ oq 23 (.mv (.t 3)),oq 24 (.bin .add (.v (.str [39])) (.t 23)),oq 2 (.mv (.t 24))]) .ret) .skip)) (.seq (.ops [ oq 25 (.mv (.t 3)),oq 2 (.mv (.t 25))]) .ret))))
@[go_sem] def c18_17_wp:=wp_of c18_17.eq_1
def c18:AFn:=⟨26,[.t 2],c18_17⟩
theorem c18_ok:compF Tryz.prog Tryz.f18=some c18:=by kernel_rfl
theorem a18 {args:List AV} {σ:ASt} {R:AV->ASt->Prop} (hl:args.length<=26) (h:c18_17.wp Tryz.prog (RetQ [.t 2] R) (init args) σ):ACalls Tryz.prog 18 args σ R:=acalls_of Tryz.func18 c18_ok hl h
/-! 39: tabular/tabularref15.Typed -/
def c39_9:ACode := .seq (.ops [ oe 1 (.box (.t 0)),oq 2 (.mv (.v (.str [])))]) (.seq (.seq (.ops [ oq 3 (.fa 0 (.t 1)),oq 4 (.ld none (.t 3)),oq 5 (.bin .eql (.t 4) (.v (.int .i64 2))),oq 6 (.mv (.t 5)),⟨some 7,some (6,true),.q (.fa 2 (.t 1)),[]⟩,⟨some 8,some (6,true),.q (.ld none (.t 7)),[]⟩,⟨some 10,some (6,true),.q (.ld (some 3) (.t 1)),[]⟩,⟨some 9,some (6,true),.e (.call 87 [(.t 8)]),[⟨(some (6,true)),.ld (some 3) (.t 1),10⟩]⟩,⟨some 11,some (6,true),.q (.eqs true [(0,0),(1,0),(2,2)] (.t 9) (.t 10)),[]⟩,oq 12 (.pick (.t 6) (.t 11) (.v (.bool false)))]) (.cond (.t 12) (.seq (.ops [ oq 13 (.fa 2 (.t 1)),oq 14 (.ld none (.t 13)),oq 15 (.bin .add (.v (.str [39])) (.t 14)),oq 2 (.mv (.t 15))]) .ret) .skip)) (.seq (.ops [ oq 16 (.ld (some 3) (.t 1)),oe 17 (.call 88 [(.t 16)]),oq 2 (.mv (.t 17))]) .ret))
@[go_sem] def c39_9_wp:=wp_of c39_9.eq_1
def c39:AFn:=⟨18,[.t 2],c39_9⟩
theorem c39_ok:compF Tryz.prog Tryz.f39=some c39:=by kernel_rfl
theorem a39 {args:List AV} {σ:ASt} {R:AV->ASt->Prop} (hl:args.length<=18) (h:c39_9.wp Tryz.prog (RetQ [.t 2] R) (init args) σ):ACalls Tryz.prog 39 args σ R:=acalls_of Tryz.func39 c39_ok hl h
/-! 87: tabular/tabularref15.Input -/
def c87_38:ACode := .seq (.ops [ oq 47 (.bin .lss (.t 46) (.t 45))]) (.seq (.cond (.t 47) .skip (.exit 0)) (.seq (.block 1 (.seq (.ops [ oq 48 (.mv (.t 46)),oq 49 (.ia 1 (.t 44) (.t 46)),oq 50 (.ld none (.t 49)),oq 7 (.mv (.t 48)),oq 8 (.mv (.t 50))]) (.seq (.ops [ oq 51 (.mv (.t 8)),oq 52 (.mv (.t 6)),oq 53 (.bin .eql (.t 51) (.t 52))]) (.cond (.t 53) (.seq (.ops [ oq 54 (.mv (.t 7)),oq 55 (.bin .add (.t 54) (.v (.int .i64 1))),oe 56 (.call 140 [(.t 55)]),oz (.store 3 (.t 2) (.t 56))]) .ret) .skip)))) (.ops [ oq 57 (.bin .add (.t 46) (.v (.int .i64 1))),oq 46 (.mv (.t 57))])))
def c87_43:ACode := .seq (.ops [ oq 58 (.mv (.t 0)),oe 59 (.call 134 [(.t 58)]),oz (.store 3 (.t 2) (.t 59))]) .ret
def c87_50:ACode := .seq (.ops [ oq 20 (.mv (.t 0)),oe 21 (.call 135 [(.t 20)]),oq 3 (.mv (.t 21))]) (.seq (.ops [ oq 23 (.mv (.t 3)),oe 24 (.call 136 [(.t 23)]),oq 22 (.mv (.t 24)),oq 25 (.ext 0 (.t 22)),oq 26 (.ext 1 (.t 22)),oq 4 (.mv (.t 25)),oq 5 (.mv (.t 26))]) (.seq (.seq (.ops [ oq 27 (.mv (.t 5))]) (.cond (.t 27) (.seq (.ops [ oq 28 (.mv (.t 4)),oe 29 (.call 137 [(.t 28)]),oz (.store 3 (.t 2) (.t 29))]) .ret) .skip)) (.seq (.ops [ oq 30 (.mv (.t 3)),oe 31 (.call 138 [(.t 30)]),oq 6 (.mv (.t 31))]) (.seq (.seq (.ops [ oq 32 (.mv (.t 6)),oq 33 (.bin .eql (.t 32) (.v (.str [])))]) (.cond (.t 33) (.seq (.ops [ oq 34 (.build [(.int .i64 0),(.int .i64 0),(.str [])] []),oz (.store 3 (.t 2) (.t 34))]) .ret) .skip)) (.seq (.seq (.ops [ oq 35 (.mv (.t 6)),oq 36 (.bin .eql (.t 35) (.v (.str [84,82,85,69]))),oq 37 (.mv (.t 36)),⟨some 38,some (37,false),.q (.mv (.t 6)),[]⟩,⟨some 39,some (37,false),.q (.bin .eql (.t 38) (.v (.str [70,65,76,83,69]))),[]⟩,oq 40 (.pick (.t 37) (.v (.bool true)) (.t 39))]) (.cond (.t 40) (.seq (.ops [ oq 41 (.mv (.t 6)),oq 42 (.bin .eql (.t 41) (.v (.str [84,82,85,69]))),oe 43 (.call 139 [(.t 42)]),oz (.store 3 (.t 2) (.t 43))]) .ret) .skip)) (.seq (.seq (.ops [ oe 44 (.call 82 []),oq 45 (.len (.t 44)),oq 46 (.mv (.v (.int .i64 0)))]) (.block 0 (.loop c87_38))) c87_43))))))
def c87_52:ACode := .seq (.ops [ oe 2 (.alloc [(.int .i64 0),(.int .i64 0),(.str [])])]) (.seq (.seq (.ops [ oq 9 (.mv (.t 0)),oq 10 (.lenS (.t 9)),oq 11 (.bin .gtr (.t 10) (.v (.int .i64 0))),oq 12 (.mv (.t 11)),⟨some 13,some (12,true),.q (.mv (.t 0)),[]⟩,⟨some 14,some (12,true),.q (.idx (.t 13) (.v (.int .i64 0))),[]⟩,⟨some 15,some (12,true),.q (.bin .eql (.t 14) (.v (.int .u8 39))),[]⟩,oq 16 (.pick (.t 12) (.t 15) (.v (.bool false)))]) (.cond (.t 16) (.seq (.ops [ oq 17 (.mv (.t 0)),oq 18 (.slfrom (true,0) (.t 17) (.v (.int .i64 1))),oe 19 (.call 134 [(.t 18)]),oz (.store 3 (.t 2) (.t 19))]) .ret) .skip)) c87_50)
@[go_sem] def c87_38_wp:=wp_of c87_38.eq_1
@[go_sem] def c87_43_wp:=wp_of c87_43.eq_1
@[go_sem] def c87_50_wp:=wp_of c87_50.eq_1
@[go_sem] def c87_52_wp:=wp_of c87_52.eq_1
def c87:AFn:=⟨60,[.c 2 (some 3)],c87_52⟩
theorem c87_ok:compF Tryz.prog Tryz.f87=some c87:=by kernel_rfl
theorem a87 {args:List AV} {σ:ASt} {R:AV->ASt->Prop} (hl:args.length<=60) (h:c87_52.wp Tryz.prog (RetQ [.c 2 (some 3)] R) (init args) σ):ACalls Tryz.prog 87 args σ R:=acalls_of Tryz.func87 c87_ok hl h
/-! 135: tabular/tabularref15.Trim -/
def c135_6:ACode := .seq (.seq (.ops [ oq 3 (.mv (.t 0)),oq 4 (.lenS (.t 3)),oq 5 (.bin .gtr (.t 4) (.v (.int .i64 0))),oq 6 (.mv (.t 5)),⟨some 7,some (6,true),.q (.mv (.t 0)),[]⟩,⟨some 8,some (6,true),.q (.idx (.t 7) (.v (.int .i64 0))),[]⟩,⟨some 9,some (6,true),.q (.bin .eql (.t 8) (.v (.int .u8 32))),[]⟩,oq 10 (.pick (.t 6) (.t 9) (.v (.bool false)))]) (.cond (.t 10) .skip (.exit 0))) (.block 1 (.ops [ oq 11 (.mv (.t 0)),oq 12 (.slfrom (true,0) (.t 11) (.v (.int .i64 1))),oq 0 (.mv (.t 12))]))
def c135_14:ACode := .seq (.seq (.ops [ oq 13 (.mv (.t 0)),oq 14 (.lenS (.t 13)),oq 15 (.bin .gtr (.t 14) (.v (.int .i64 0))),oq 16 (.mv (.t 15)),⟨some 17,some (16,true),.q (.mv (.t 0)),[]⟩,⟨some 18,some (16,true),.q (.mv (.t 0)),[]⟩,⟨some 19,some (16,true),.q (.lenS (.t 18)),[]⟩,⟨some 20,some (16,true),.q (.bin .sub (.t 19) (.v (.int .i64 1))),[]⟩,⟨some 21,some (16,true),.q (.idx (.t 17) (.t 20)),[]⟩,⟨some 22,some (16,true),.q (.bin .eql (.t 21) (.v (.int .u8 32))),[]⟩,oq 23 (.pick (.t 16) (.t 22) (.v (.bool false)))]) (.cond (.t 23) .skip (.exit 2))) (.block 3 (.ops [ oq 24 (.mv (.t 0)),oq 25 (.mv (.t 0)),oq 26 (.lenS (.t 25)),oq 27 (.bin .sub (.t 26) (.v (.int .i64 1))),oq 28 (.slto (true,0) (.t 24) (.t 27)),oq 0 (.mv (.t 28))]))
def c135_19:ACode := .seq (.block 2 (.loop c135_14)) (.seq (.ops [ oq 29 (.mv (.t 0)),oq 2 (.mv (.t 29))]) .ret)
def c135_21:ACode := .seq (.ops [ oq 2 (.mv (.v (.str [])))]) (.seq (.block 0 (.loop c135_6)) c135_19)
@[go_sem] def c135_6_wp:=wp_of c135_6.eq_1
@[go_sem] def c135_14_wp:=wp_of c135_14.eq_1
@[go_sem] def c135_19_wp:=wp_of c135_19.eq_1
@[go_sem] def c135_21_wp:=wp_of c135_21.eq_1
def c135:AFn:=⟨30,[.t 2],c135_21⟩
theorem c135_ok:compF Tryz.prog Tryz.f135=some c135:=by kernel_rfl
theorem a135 {args:List AV} {σ:ASt} {R:AV->ASt->Prop} (hl:args.length<=30) (h:c135_21.wp Tryz.prog (RetQ [.t 2] R) (init args) σ):ACalls Tryz.prog 135 args σ R:=acalls_of Tryz.func135 c135_ok hl h
end Go.A
namespace Go.A
open Go.Proofs Go.Lib Go.Vint
theorem trimB_cons (l:List UInt8):Lib.trimB (32::l) 32=Lib.trimB l 32:=by
 unfold Lib.trimB Lib.trimRightB
 rw [List.reverse_cons,List.dropWhile_append]
 split
 ·rename_i h
  have h':l.reverse.dropWhile (· == (32:UInt8)) = []:=List.isEmpty_iff.1 h
  rw [h']
  rfl
 ·rw [List.reverse_append]
  rfl
theorem trimB_snoc (l:List UInt8):Lib.trimB (l ++ [32]) 32=Lib.trimB l 32:=by
 unfold Lib.trimB Lib.trimRightB
 rw [List.reverse_append]
 rfl
theorem trimB_id {c d:UInt8} {l:List UInt8} (hc:c≠32) (hd:(c::l).getLast? = some d) (hd2:d≠32):Lib.trimB (c::l) 32=c::l:=by
 have h1:Lib.trimRightB (c::l) 32=c::l:=by
  unfold Lib.trimRightB
  have h2:(c::l).reverse.head? = some d:=by rw [List.head?_reverse];exact hd
  cases hr:(c::l).reverse with
  | nil=>rw [hr] at h2;cases h2
  | cons x r=>
    rw [hr] at h2
    obtain rfl:=Option.some.inj h2
    rw [List.dropWhile_cons,if_neg (by simpa using hd2),← hr,List.reverse_reverse]
 unfold Lib.trimB
 rw [h1]
 unfold Lib.trimLeftB
 rw [List.dropWhile_cons,if_neg (by simpa using hc)]
theorem r15trim_ok (s:List UInt8) (hs:s.length<=100000):Pure Tryz.prog 135 [.str s] (.str (Lib.trimB s 32)):=by
 intro σ
 obtain ⟨T,hT⟩:∃ T,T=Lib.trimB s 32:=⟨_,rfl⟩
 rw [<-hT]
 obtain ⟨J,hJ⟩:∃ J:List UInt8->AFr->ASt->Prop,J=fun x a s2=>(a 0 = .str x/\Lib.trimB x 32=T/\x.length<=s.length)/\s2=σ:=⟨_,rfl⟩
 obtain ⟨J2,hJ2⟩:∃ J:List UInt8->AFr->ASt->Prop,J=fun x a s2=>(a 0 = .str x/\Lib.trimB x 32=T/\x.length<=s.length/\x.head? ≠ some 32)/\s2=σ:=⟨_,rfl⟩
 obtain ⟨F,hF⟩:∃ F,F=ACode.wp Tryz.prog c135_19:=⟨_,rfl⟩
 have u32:∀ c:UInt8,((c.toNat:Int)=32)↔c=32:=fun c=>⟨fun h=>UInt8.toNat_inj.1 (by show c.toNat=32;omega),fun h=>by rw [h];rfl⟩
 have hgo:∀ (x:List UInt8) (a:AFr),(a 0 = .str x/\Lib.trimB x 32=T/\x.length<=s.length/\x.head? ≠ some 32)->F (RetQ [.t 2] fun v σ'=>v = .str T/\σ'=σ) a σ:=by
  intro x a hx
  rw [hF]
  simp (disch:=first|assumption|omega) only [go_sem]
  refine wp_loop_on J2 (fun x=>x.length) x ?_ ?_
  ·rw [hJ2]
   exact ⟨hx,rfl⟩
  clear hx
  intro y a1 s2 hjj
  rw [hJ2] at hjj
  obtain ⟨⟨hf,hy,hyl,hyh⟩,rfl⟩:=hjj
  rcases List.eq_nil_or_concat y with rfl|⟨r,d,rfl⟩
  ·have h0:Lib.trimB ([]:List UInt8) 32 = []:=rfl
   rw [h0] at hy
   subst hy
   simp (disch:=first|assumption|omega) only [go_sem,hf]
   exact retC_by (.refl _) (.refl _) ⟨rfl,rfl⟩
  ·rw [List.concat_eq_append] at *
   have hl:((r ++ [d]).length:Int)=(r.length:Int)+1:=by rw [List.length_append];simp
   have hl0:(0:Int)<(r.length:Int)+1:=by omega
   have hix:(r ++ [d])[r.length]? = some d:=by rw [List.getElem?_append_right (Nat.le_refl _),Nat.sub_self];rfl
   have hsub:(r.length:Int)+1-1=(r.length:Int):=by omega
   have htk:(r ++ [d]).take r.length=r:=List.take_left
   have hle:(r.length:Int)<=((r ++ [d]).length:Int):=by omega
   have hlen:(r ++ [d]).length=r.length+1:=by rw [List.length_append];rfl
   by_cases hd:d=32
   ·have hd':(d.toNat:Int)=32:=(u32 d).2 hd
    have hyr:Lib.trimB r 32=T:=by rw [<-hy,hd,trimB_snoc]
    have hrh:r.head? ≠ some 32:=by
     cases r with
     | nil=>simp
     | cons c r=>exact hyh
    generalize r ++ [d]=y at *
    simp (disch:=first|assumption|omega) only [go_sem,hf,hl,hl0,hsub,hix,hd',htk,Int.toNat_natCast,List.drop_zero]
    refine ⟨r,by omega,?_⟩
    rw [hJ2]
    refine ⟨⟨?_,hyr,by omega,hrh⟩,rfl⟩
    simp (disch:=first|assumption|omega) only [go_sem]
   ·have hd':¬ (d.toNat:Int)=32:=fun h=>hd ((u32 d).1 h)
    have hyT:r ++ [d]=T:=by
     rw [<-hy]
     cases hr:r ++ [d] with
     | nil=>simp at hr
     | cons c l=>
       rw [hr] at hyh
       refine (trimB_id (d:=d) (fun h=>hyh (by rw [h];rfl)) ?_ hd).symm
       rw [<-hr];simp
    rw [hyT] at hix hl hf
    simp (disch:=first|assumption|omega) only [go_sem,hf,hl,hl0,hsub,hix,hd',Int.toNat_natCast]
    exact retC_by (.refl _) (.refl _) ⟨rfl,rfl⟩
 refine a135 (by simp) ?_
 simp (disch:=first|assumption|omega) only [go_sem,←hF]
 refine wp_loop_on J (fun x=>x.length) s ?_ ?_
 ·rw [hJ]
  exact ⟨⟨by simp (disch:=first|assumption|omega) only [go_sem],hT.symm,Nat.le_refl _⟩,rfl⟩
 intro y a1 s2 hjj
 rw [hJ] at hjj
 obtain ⟨⟨hf,hy,hyl⟩,rfl⟩:=hjj
 cases y with
 | nil=>
   simp (disch:=first|assumption|omega) only [go_sem,hf]
   refine hgo [] _ ⟨?_,hy,Nat.zero_le _,by simp⟩
   simp (disch:=first|assumption|omega) only [go_sem,hf]
 | cons c r=>
   have hl:((c::r).length:Int)=(r.length:Int)+1:=by rw [List.length_cons];omega
   have hl0:(0:Int)<(r.length:Int)+1:=by omega
   have hix:(c::r)[0]? = some c:=rfl
   have hll:(c::r).length=r.length+1:=rfl
   have htn:((r.length:Int)+1).toNat=r.length+1:=by omega
   have htk:((c::r).take (r.length+1)).drop 1=r:=by rw [<-hll,List.take_length];rfl
   have hle:(r.length:Int)+1<=((c::r).length:Int):=by omega
   by_cases hd:c=32
   ·have hd':(c.toNat:Int)=32:=(u32 c).2 hd
    have hyr:Lib.trimB r 32=T:=by rw [<-hy,hd,trimB_cons]
    generalize c::r=y at *
    simp (disch:=first|assumption|omega) only [go_sem,hf,hl,hl0,hix,hd',htn,htk]
    refine ⟨r,by omega,?_⟩
    rw [hJ]
    refine ⟨⟨?_,hyr,by omega⟩,rfl⟩
    simp (disch:=first|assumption|omega) only [go_sem]
   ·have hd':¬ (c.toNat:Int)=32:=fun h=>hd ((u32 c).1 h)
    have hh:(c::r).head? ≠ some 32:=fun h=>hd (Option.some.inj h)
    generalize c::r=y at *
    simp (disch:=first|assumption|omega) only [go_sem,hf,hl,hl0,hix,hd']
    refine hgo y _ ⟨?_,hy,hyl,hh⟩
    simp (disch:=first|assumption|omega) only [go_sem,hf]
set_option maxHeartbeats 1000000 in
theorem r15input_ok (s:List UInt8) (hs:s.length<=100000):Pure Tryz.prog 87 [.str s] (tellAV (inputP s)):=by
 intro σ
 have h2:=r15trim_ok s hs
 have hle:=trimB_len s 32
 have h3:=rparse_ok (Lib.trimB s 32) (by omega)
 have h4:=great_ok (Lib.trimB s 32) (by omega)
 have h5:=rerrors_ok
 have u39:∀ c:UInt8,((c.toNat:Int)=39)↔c=39:=fun c=>⟨fun h=>UInt8.toNat_inj.1 (by show c.toNat=39;omega),fun h=>by rw [h];rfl⟩
 obtain ⟨q,hq⟩:∃ q,inputP s=q:=⟨_,rfl⟩
 rw [hq]
 obtain ⟨F,hF⟩:∃ F,F=ACode.wp Tryz.prog c87_50:=⟨_,rfl⟩
 have hcase:(∃ r,s=39::r/\inputP s = .text r)\/((s = []\/∃ c r,s=c::r/\c≠39)/\Lib.hasPrefix s [39]=false):=by
  cases s with
  | nil=>exact .inr ⟨.inl rfl,rfl⟩
  | cons c r=>
    by_cases hc:c=39
    ·subst hc
     exact .inl ⟨r,rfl,rfl⟩
    ·refine .inr ⟨.inr ⟨c,r,rfl,hc⟩,?_⟩
     unfold Lib.hasPrefix
     simp only [List.isPrefixOf]
     rw [show ((39:UInt8)==c)=false by simpa using Ne.symm hc]
     rfl
 rcases hcase with ⟨r,rfl,hr⟩|⟨hs2,hpf⟩
 ·rw [hr] at hq
  subst hq
  have ht:=rText_ok r
  have hl:((39::r:List UInt8).length:Int)=(r.length:Int)+1:=by rw [List.length_cons];omega
  have hl0:(0:Int)<(r.length:Int)+1:=by omega
  have hix:(39::r:List UInt8)[0]? = some 39:=rfl
  have h39:(((39:UInt8).toNat:Nat):Int)=39:=rfl
  have hll:(39::r:List UInt8).length=r.length+1:=rfl
  have htn:((r.length:Int)+1).toNat=r.length+1:=by omega
  have htk:((39::r:List UInt8).take (r.length+1)).drop 1=r:=by rw [<-hll,List.take_length];rfl
  simp only [tellAV] at ht ⊢
  generalize (39::r:List UInt8)=y at *
  refine a87 (by simp) ?_
  simp (disch:=first|assumption|omega) only [go_sem]
  refine allocC_by fun b hb=>?_
  simp (disch:=first|assumption|omega) only [go_sem,hl,hl0,hix,h39,htn,htk,←hF]
  refine ht.use ?_
  simp (disch:=first|assumption|omega) only [go_sem]
  exact retC_by (Drop.set hb) (.refl _) ⟨rfl,rfl⟩
 ·unfold inputP at hq
  rw [if_neg (by rw [hpf];simp)] at hq
  generalize Lib.trimB s 32=t at *
  have hgo:∀ (b:Nat) (hb:σ b=none) (a:AFr),(a 0 = .str s/\a 2 = .ptr b 0)->F (RetQ [.c 2 (some 3)] fun v σ'=>v=tellAV q/\σ'=σ) a (σ.set b (some (.obj [.int .i64 0,.int .i64 0,.str []]))):=by
   intro b hb a hf
   rw [hF]
   cases hp:parseD t with
   | some n=>
     rw [hp] at hq h3
     simp only [resAV,Option.getD_some,Option.isSome_some] at h3
     dsimp only at hq
     subst hq
     have hn:=rNum_ok n
     simp only [tellAV] at hn ⊢
     simp (disch:=first|assumption|omega) only [go_sem,hf]
     refine h2.use ?_
     simp (disch:=first|assumption|omega) only [go_sem]
     refine h3.use ?_
     simp (disch:=first|assumption|omega) only [go_sem]
     refine hn.use ?_
     simp (disch:=first|assumption|omega) only [go_sem,hf]
     exact retC_by (Drop.set hb) (.refl _) ⟨rfl,rfl⟩
   | none=>
     rw [hp] at hq h3
     simp only [resAV,Option.getD_none,Option.isSome_none] at h3
     dsimp only at hq
     generalize greatP t=g at *
     by_cases g0:g = []
     ·rw [if_pos g0] at hq
      subst hq g0
      simp only [tellAV]
      simp (disch:=first|assumption|omega) only [go_sem,hf]
      refine h2.use ?_
      simp (disch:=first|assumption|omega) only [go_sem]
      refine h3.use ?_
      simp (disch:=first|assumption|omega) only [go_sem]
      refine h4.use ?_
      simp (disch:=first|assumption|omega) only [go_sem,hf,eq_self]
      exact retC_by (Drop.set hb) (.refl _) ⟨rfl,rfl⟩
     rw [if_neg g0] at hq
     by_cases g1:g = [84,82,85,69]
     ·rw [if_pos g1] at hq
      subst hq g1
      have hn:=rBool_ok true
      simp only [tellAV] at hn ⊢
      simp (disch:=first|assumption|omega) only [go_sem,hf]
      refine h2.use ?_
      simp (disch:=first|assumption|omega) only [go_sem]
      refine h3.use ?_
      simp (disch:=first|assumption|omega) only [go_sem]
      refine h4.use ?_
      simp (disch:=first|assumption|omega) only [go_sem,eq_self]
      refine hn.use ?_
      simp (disch:=first|assumption|omega) only [go_sem,hf]
      exact retC_by (Drop.set hb) (.refl _) ⟨rfl,rfl⟩
     rw [if_neg g1] at hq
     by_cases g2:g = [70,65,76,83,69]
     ·rw [if_pos g2] at hq
      subst hq g2
      have hn:=rBool_ok false
      simp only [tellAV] at hn ⊢
      simp (disch:=first|assumption|omega) only [go_sem,hf]
      refine h2.use ?_
      simp (disch:=first|assumption|omega) only [go_sem]
      refine h3.use ?_
      simp (disch:=first|assumption|omega) only [go_sem]
      refine h4.use ?_
      simp (disch:=first|assumption|omega) only [go_sem,eq_self]
      refine hn.use ?_
      simp (disch:=first|assumption|omega) only [go_sem,hf]
      exact retC_by (Drop.set hb) (.refl _) ⟨rfl,rfl⟩
     rw [if_neg g2] at hq
     obtain ⟨G,hG⟩:∃ G,G=ACode.wp Tryz.prog c87_43:=⟨_,rfl⟩
     have hEV:errL=errV:=rfl
     rw [hEV] at h5
     have hev:errV.length=7:=rfl
     generalize errV=E at *
     have hml:((E.map AV.str).length:Int)=7:=by rw [List.length_map,hev];rfl
     simp (disch:=first|assumption|omega) only [go_sem,hf]
     refine h2.use ?_
     simp (disch:=first|assumption|omega) only [go_sem]
     refine h3.use ?_
     simp (disch:=first|assumption|omega) only [go_sem]
     refine h4.use ?_
     simp (disch:=first|assumption|omega) only [go_sem,g0,g1,g2,←hG]
     refine h5.use ?_
     obtain ⟨J,hJ⟩:∃ J:Nat->AFr->ASt->Prop,J=fun i a1 s2=>(i<=7/\(match errF g (E.drop i) i with|some i=>PV.fail (i+1)|none => .text s)=q)/\(a1 0 = .str s/\a1 2 = .ptr b 0/\a1 6 = .str g/\a1 44 = .sl .full (E.map AV.str)/\a1 45 = .int .i64 7/\a1 46 = .int .i64 i)/\s2=σ.set b (some (.obj [.int .i64 0,.int .i64 0,.str []])):=⟨_,rfl⟩
     simp (disch:=first|assumption|omega) only [go_sem]
     refine wp_loop_on J (fun i=>7-i) 0 ?_ ?_
     ·rw [hJ]
      refine ⟨⟨Nat.zero_le _,by rw [List.drop_zero];exact hq⟩,?_,rfl⟩
      simp (disch:=first|assumption|omega) only [go_sem,hf]
      rw [hev]
      rfl
     intro i a1 s2 hjj
     rw [hJ] at hjj
     obtain ⟨⟨hi,hqi⟩,hf,rfl⟩:=hjj
     by_cases hlt:i<7
     ·have hlt':(i:Int)<7:=by omega
      have hlt2:i<E.length:=by omega
      have hx : E[i]? = some (E[i]'hlt2) := List.getElem?_eq_getElem hlt2
      rw [List.drop_eq_getElem_cons hlt2,errF] at hqi
      obtain ⟨x, hxe⟩ : ∃ x, E[i]'hlt2 = x := ⟨_, rfl⟩
      rw [hxe] at hx hqi
      have hmx:(E.map AV.str)[i]? = some (.str x):=by rw [List.getElem?_map,hx];rfl
      generalize E.map AV.str=EL at *
      by_cases he:g=x
      ·rw [if_pos he] at hqi
       subst he
       dsimp only at hqi
       subst hqi
       have hn:=rFail_ok ((i:Int)+1) (by omega) (by omega)
       simp only [tellAV] at hn ⊢
       simp (disch:=first|assumption|omega) only [go_sem,hf,hlt',hmx,eq_self]
       refine hn.use ?_
       simp (disch:=first|assumption|omega) only [go_sem,hf]
       exact retC_by (Drop.set hb) (.refl _) ⟨rfl,rfl⟩
      ·rw [if_neg he] at hqi
       have he2:¬ x=g:=fun h=>he h.symm
       simp (disch:=first|assumption|omega) only [go_sem,hf,hlt',hmx,he2]
       refine ⟨i+1,by omega,?_⟩
       rw [hJ]
       refine ⟨⟨by omega,hqi⟩,?_,rfl⟩
       simp (disch:=first|assumption|omega) only [go_sem,hf]
     ·have hlt':¬ (i:Int)<7:=by omega
      rw [List.drop_eq_nil_of_le (by omega),errF] at hqi
      dsimp only at hqi
      subst hqi
      have hn:=rText_ok s
      simp only [tellAV] at hn ⊢
      simp (disch:=first|assumption|omega) only [go_sem,hf,hlt']
      rw [hG]
      simp (disch:=first|assumption|omega) only [go_sem,hf]
      refine hn.use ?_
      simp (disch:=first|assumption|omega) only [go_sem,hf]
      exact retC_by (Drop.set hb) (.refl _) ⟨rfl,rfl⟩
  rcases hs2 with rfl|⟨c,r,rfl,hc⟩
  ·refine a87 (by simp) ?_
   simp (disch:=first|assumption|omega) only [go_sem]
   refine allocC_by fun b hb=>?_
   simp (disch:=first|assumption|omega) only [go_sem,←hF]
   refine hgo b hb _ ?_
   simp (disch:=first|assumption|omega) only [go_sem]
  ·have hl:((c::r).length:Int)=(r.length:Int)+1:=by rw [List.length_cons];omega
   have hl0:(0:Int)<(r.length:Int)+1:=by omega
   have hix:(c::r)[0]? = some c:=rfl
   have hc':¬ (c.toNat:Int)=39:=fun h=>hc ((u39 c).1 h)
   generalize c::r=y at *
   refine a87 (by simp) ?_
   simp (disch:=first|assumption|omega) only [go_sem]
   refine allocC_by fun b hb=>?_
   simp (disch:=first|assumption|omega) only [go_sem,hl,hl0,hix,hc',←hF]
   refine hgo b hb _ ?_
   simp (disch:=first|assumption|omega) only [go_sem]
theorem r15typed_ok (v:PV) (hg:v.good) (hs:v.small):Pure Tryz.prog 39 [plAV (plOf v)] (.str (typedP v)):=by
 intro σ
 have h2:=r15show_ok v hg
 by_cases ht:∃ s,v = .text s
 ·obtain ⟨s,rfl⟩:=ht
  have hsl:s.length<=100000:=hs
  have h1:=r15input_ok s hsl
  have e1:binS .add [39] s=some (.str (39::s)):=binS_add (by simp;omega)
  have hty:typedP (.text s)=if inputP s = .text s then s else 39::s:=rfl
  rw [hty]
  have hsh:showP (.text s)=s:=rfl
  rw [hsh] at h2
  simp only [plOf,plAV] at h2 ⊢
  have hc:(∃ t,inputP s = .text t)\/((∀ t,inputP s ≠ .text t)/\∃ k n z,tellAV (inputP s) = .agg [.int .i64 k,.int .i64 n,.str z]/\k≠2):=by
   cases inputP s with
   | text t=>exact .inl ⟨_,rfl⟩
   | blank=>exact .inr ⟨(fun t h=>by cases h),0,_,_,rfl,by decide⟩
   | num n=>exact .inr ⟨(fun t h=>by cases h),1,_,_,rfl,by decide⟩
   | bool n=>exact .inr ⟨(fun t h=>by cases h),3,_,_,rfl,by decide⟩
   | fail n=>exact .inr ⟨(fun t h=>by cases h),4,_,_,rfl,by decide⟩
  rcases hc with ⟨t,ht⟩|⟨hc,k,n,z,hk,hk2⟩
  ·rw [ht] at h1 ⊢
   simp only [tellAV] at h1
   by_cases hts:t=s
   ·subst hts
    rw [if_pos rfl]
    refine a39 (by simp) ?_
    simp (disch:=first|assumption|omega) only [go_sem]
    refine boxC_by rfl fun c hc=>?_
    simp (disch:=first|assumption|omega) only [go_sem]
    refine h1.use ?_
    simp (disch:=first|assumption|omega) only [go_sem,eq_self,decide_true]
    refine h2.use ?_
    simp (disch:=first|assumption|omega) only [go_sem]
    exact retC_by (Drop.set hc) (.refl _) ⟨rfl,rfl⟩
   ·rw [if_neg (fun h=>hts (by injection h))]
    refine a39 (by simp) ?_
    simp (disch:=first|assumption|omega) only [go_sem]
    refine boxC_by rfl fun c hc=>?_
    simp (disch:=first|assumption|omega) only [go_sem]
    refine h1.use ?_
    simp (disch:=first|assumption|omega) only [go_sem,eq_self,hts,decide_true,decide_false,e1]
    exact retC_by (Drop.set hc) (.refl _) ⟨rfl,rfl⟩
  ·rw [if_neg (hc s)]
   rw [hk] at h1
   refine a39 (by simp) ?_
   simp (disch:=first|assumption|omega) only [go_sem]
   refine boxC_by rfl fun c hc=>?_
   simp (disch:=first|assumption|omega) only [go_sem]
   refine h1.use ?_
   simp (disch:=first|assumption|omega) only [go_sem,eq_self,hk2,decide_false,e1]
   exact retC_by (Drop.set hc) (.refl _) ⟨rfl,rfl⟩
 ·have hty:typedP v=showP v:=by cases v<;>first|rfl|exact absurd ⟨_,rfl⟩ ht
  rw [hty]
  have hk:(plOf v).kind≠2:=by cases v<;>first|(simp [plOf];done)|exact absurd ⟨_,rfl⟩ ht
  generalize showP v=sh at *
  generalize plOf v=pl at *
  obtain ⟨k,n,z⟩:=pl
  simp only [plAV] at h2 hk ⊢
  refine a39 (by simp) ?_
  simp (disch:=first|assumption|omega) only [go_sem]
  refine boxC_by rfl fun c hc=>?_
  simp (disch:=first|assumption|omega) only [go_sem,hk]
  refine h2.use ?_
  simp (disch:=first|assumption|omega) only [go_sem]
  exact retC_by (Drop.set hc) (.refl _) ⟨rfl,rfl⟩
theorem r20text_ok (c:TC) (hc:c.fine) (hn:c.isF=true->Nf c.t/\0<c.t.op):Pure Tryz.prog 18 [c.rav] (.str c.text):=by
 intro σ
 have hP:=fun (h:c.isF=true)=>rprint_nf (hn h).1 (by have:=hc.sp h;omega)
 have hTy:=r15typed_ok c.val hc.good hc.small
 have hsp:=hc.sp
 have htl:=hc.typ
 have hop:c.isF=true->0<c.t.op:=fun h=>(hn h).2
 have hop2:c.isF=false->c.t.op=0:=fun h=>by
  unfold TC.isF at h
  by_cases h0:c.t.op=0
  ·exact h0
  ·rw [decide_eq_false h0] at h;cases h
 have hx:c.text=if c.isF=true then 61::c.t.spell else if (typedP c.val).head? = some 61 then 39::typedP c.val else typedP c.val:=rfl
 rw [hx]
 clear hc hn hx
 generalize typedP c.val=ty at *
 obtain ⟨pk,hpk⟩:∃ pk,plOf c.val=pk:=⟨_,rfl⟩
 rw [hpk] at hTy
 obtain ⟨⟨op,n,s,a,b,ks⟩,v⟩:=c
 have hpk2:plOf (v.getD .blank)=pk:=hpk
 generalize hq:TC.isF ⟨.mk op n s a b ks,v⟩=q at *
 dsimp only at hP hsp hop hop2
 have e1:(Nd.mk op n s a b ks).op=op:=rfl
 rw [e1] at hop hop2
 generalize (Nd.mk op n s a b ks).spell=SP at *
 rw [TC.rav,hpk2]
 rw [Nd.av_cs] at hP
 generalize ks.map Nd.av=L at *
 obtain ⟨k,y,z⟩:=pk
 unfold plAV at hTy
 dsimp only at hTy ⊢
 unfold Nd.cs at hP
 unfold rCs
 cases q with
 | true=>
   rw [if_pos rfl]
   have hsp:=hsp rfl
   have hP:=hP rfl
   have hop:=hop rfl
   have hb:binS .add [61] SP=some (.str (61::SP)):=binS_add (by simp;omega)
   refine a18 (by simp) ?_
   simp (disch:=first|assumption|omega) only [go_sem]
   refine boxC_by rfl fun c hc=>?_
   simp (disch:=first|assumption|omega) only [go_sem,hop]
   refine hP.use ?_
   simp (disch:=first|assumption|omega) only [go_sem,hb]
   exact retC_by (Drop.set hc) (.refl _) ⟨rfl,rfl⟩
 | false=>
   rw [if_neg (by simp)]
   have hop:=hop2 rfl
   subst hop
   have hb:binS .add [39] ty=some (.str (39::ty)):=binS_add (by simp;omega)
   cases ty with
   | nil=>
     rw [if_neg (by simp)]
     refine a18 (by simp) ?_
     simp (disch:=first|assumption|omega) only [go_sem]
     refine boxC_by rfl fun c hc=>?_
     simp (disch:=first|assumption|omega) only [go_sem]
     refine hTy.use ?_
     simp (disch:=first|assumption|omega) only [go_sem]
     exact retC_by (Drop.set hc) (.refl _) ⟨rfl,rfl⟩
   | cons d ty=>
     have hl:(0:Int)<((d::ty).length:Int):=by simp only [List.length_cons];omega
     have hx:(d::ty)[0]? = some d:=rfl
     have e0:((0:Int)).toNat=0:=rfl
     by_cases h61:d=61
     ·subst h61
      rw [List.head?_cons,if_pos rfl]
      have h61:(((61:UInt8).toNat:Nat):Int)=61:=rfl
      generalize (61::ty:List UInt8)=y2 at *
      refine a18 (by simp) ?_
      simp (disch:=first|assumption|omega) only [go_sem]
      refine boxC_by rfl fun c hc=>?_
      simp (disch:=first|assumption|omega) only [go_sem]
      refine hTy.use ?_
      simp (disch:=first|assumption|omega) only [go_sem,hl,hx,e0,h61,hb]
      exact retC_by (Drop.set hc) (.refl _) ⟨rfl,rfl⟩
     ·rw [List.head?_cons,if_neg (fun h=>h61 (Option.some.inj h))]
      have h61':¬ (d.toNat:Int)=61:=fun h=>h61 (UInt8.toNat_inj.1 (by show d.toNat=61;omega))
      generalize (d::ty:List UInt8)=y2 at *
      refine a18 (by simp) ?_
      simp (disch:=first|assumption|omega) only [go_sem]
      refine boxC_by rfl fun c hc=>?_
      simp (disch:=first|assumption|omega) only [go_sem]
      refine hTy.use ?_
      simp (disch:=first|assumption|omega) only [go_sem,hl,hx,e0,h61']
      exact retC_by (Drop.set hc) (.refl _) ⟨rfl,rfl⟩
end Go.A
namespace Go.A
open Go.Proofs
/-! 13: tabular/tabularlaw20.Grow -/
def c13_1:ACode := .ops [ oq 8 (.build [(.int .i64 0),(.int .i64 0),(.str []),(.int .i64 0),(.int .i64 0),(.bool false),(.bool false),(.int .i64 0),(.int .i64 0),(.bool false),(.bool false),(.sl .full []),.nili,(.int .i64 0),(.int .i64 0),(.str []),(.int .i64 0),(.int .i64 0),(.bool false),(.bool false),(.int .i64 0),(.int .i64 0),(.bool false),(.bool false),(.sl .full []),.nili,(.int .i64 0),(.int .i64 0),(.str []),(.int .i64 0),(.int .i64 0),(.bool false),(.bool false),(.int .i64 0),(.int .i64 0),(.bool false),(.bool false),(.sl .full []),.nili,(.int .i64 0),(.int .i64 0),(.str []),(.int .i64 0),(.int .i64 0),(.bool false),(.bool false),(.int .i64 0),(.int .i64 0),(.bool false),(.bool false),(.sl .full []),.nili,(.int .i64 0),(.int .i64 0),(.str []),(.int .i64 0),(.int .i64 0),(.bool false),(.bool false),(.int .i64 0),(.int .i64 0),(.bool false),(.bool false),(.sl .full []),.nili,(.int .i64 0),(.int .i64 0),(.str []),(.int .i64 0),(.int .i64 0),(.bool false),(.bool false),(.int .i64 0),(.int .i64 0),(.bool false),(.bool false),(.sl .full []),.nili,(.int .i64 0),(.int .i64 0),(.str []),(.int .i64 0),(.int .i64 0),(.bool false),(.bool false),(.int .i64 0),(.int .i64 0),(.bool false),(.bool false),(.sl .full []),.nili,(.int .i64 0),(.int .i64 0),(.str []),(.int .i64 0),(.int .i64 0),(.bool false),(.bool false),(.int .i64 0),(.int .i64 0),(.bool false),(.bool false),(.sl .full []),.nili,(.int .i64 0),(.int .i64 0),(.str []),(.int .i64 0),(.int .i64 0),(.bool false),(.bool false),(.int .i64 0),(.int .i64 0),(.bool false),(.bool false),(.sl .full []),.nili,(.int .i64 0),(.int .i64 0),(.str []),(.int .i64 0),(.int .i64 0),(.bool false),(.bool false),(.int .i64 0),(.int .i64 0),(.bool false),(.bool false),(.sl .full []),.nili,(.int .i64 0),(.int .i64 0),(.str []),(.int .i64 0),(.int .i64 0),(.bool false),(.bool false),(.int .i64 0),(.int .i64 0),(.bool false),(.bool false),(.sl .full []),.nili,(.int .i64 0),(.int .i64 0),(.str []),(.int .i64 0),(.int .i64 0),(.bool false),(.bool false),(.int .i64 0),(.int .i64 0),(.bool false),(.bool false),(.sl .full []),.nili,(.int .i64 0),(.int .i64 0),(.str []),(.int .i64 0),(.int .i64 0),(.bool false),(.bool false),(.int .i64 0),(.int .i64 0),(.bool false),(.bool false),(.sl .full []),.nili,(.int .i64 0),(.int .i64 0),(.str []),(.int .i64 0),(.int .i64 0),(.bool false),(.bool false),(.int .i64 0),(.int .i64 0),(.bool false),(.bool false),(.sl .full []),.nili,(.int .i64 0),(.int .i64 0),(.str []),(.int .i64 0),(.int .i64 0),(.bool false),(.bool false),(.int .i64 0),(.int .i64 0),(.bool false),(.bool false),(.sl .full []),.nili,(.int .i64 0),(.int .i64 0),(.str []),(.int .i64 0),(.int .i64 0),(.bool false),(.bool false),(.int .i64 0),(.int .i64 0),(.bool false),(.bool false),(.sl .full []),.nili,(.int .i64 0),(.int .i64 0),(.str []),(.int .i64 0),(.int .i64 0),(.bool false),(.bool false),(.int .i64 0),(.int .i64 0),(.bool false),(.bool false),(.sl .full []),.nili,(.int .i64 0),(.int .i64 0),(.str []),(.int .i64 0),(.int .i64 0),(.bool false),(.bool false),(.int .i64 0),(.int .i64 0),(.bool false),(.bool false),(.sl .full []),.nili,(.int .i64 0),(.int .i64 0),(.str []),(.int .i64 0),(.int .i64 0),(.bool false),(.bool false),(.int .i64 0),(.int .i64 0),(.bool false),(.bool false),(.sl .full []),.nili,(.int .i64 0),(.int .i64 0),(.str []),(.int .i64 0),(.int .i64 0),(.bool false),(.bool false),(.int .i64 0),(.int .i64 0),(.bool false),(.bool false),(.sl .full []),.nili,(.int .i64 0),(.int .i64 0),(.str []),(.int .i64 0),(.int .i64 0),(.bool false),(.bool false),(.int .i64 0),(.int .i64 0),(.bool false),(.bool false),(.sl .full []),.nili,(.int .i64 0),(.int .i64 0),(.str []),(.int .i64 0),(.int .i64 0),(.bool false),(.bool false),(.int .i64 0),(.int .i64 0),(.bool false),(.bool false),(.sl .full []),.nili,(.int .i64 0),(.int .i64 0),(.str []),(.int .i64 0),(.int .i64 0),(.bool false),(.bool false),(.int .i64 0),(.int .i64 0),(.bool false),(.bool false),(.sl .full []),.nili,(.int .i64 0),(.int .i64 0),(.str []),(.int .i64 0),(.int .i64 0),(.bool false),(.bool false),(.int .i64 0),(.int .i64 0),(.bool false),(.bool false),(.sl .full []),.nili,(.int .i64 0),(.int .i64 0),(.str []),(.int .i64 0),(.int .i64 0),(.bool false),(.bool false),(.int .i64 0),(.int .i64 0),(.bool false),(.bool false),(.sl .full []),.nili,(.int .i64 0),(.int .i64 0),(.str []),(.int .i64 0),(.int .i64 0),(.bool false),(.bool false),(.int .i64 0),(.int .i64 0),(.bool false),(.bool false),(.sl .full []),.nili,(.int .i64 0),(.int .i64 0),(.str []),(.int .i64 0),(.int .i64 0),(.bool false),(.bool false),(.int .i64 0),(.int .i64 0),(.bool false),(.bool false),(.sl .full []),.nili,(.int .i64 0),(.int .i64 0),(.str []),(.int .i64 0),(.int .i64 0),(.bool false),(.bool false),(.int .i64 0),(.int .i64 0),(.bool false),(.bool false),(.sl .full []),.nili,(.int .i64 0),(.int .i64 0),(.str []),(.int .i64 0),(.int .i64 0),(.bool false),(.bool false),(.int .i64 0),(.int .i64 0),(.bool false),(.bool false),(.sl .full []),.nili,(.int .i64 0),(.int .i64 0),(.str []),(.int .i64 0),(.int .i64 0),(.bool false),(.bool false),(.int .i64 0),(.int .i64 0),(.bool false),(.bool false),(.sl .full []),.nili,(.int .i64 0),(.int .i64 0),(.str []),(.int .i64 0),(.int .i64 0),(.bool false),(.bool false),(.int .i64 0),(.int .i64 0),(.bool false),(.bool false),(.sl .full []),.nili,(.int .i64 0),(.int .i64 0),(.str []),(.int .i64 0),(.int .i64 0),(.bool false),(.bool false),(.int .i64 0),(.int .i64 0),(.bool false),(.bool false),(.sl .full []),.nili] []),oe 9 (.box (.t 8)),oq 4 (.mv (.t 9))]
def c13_15:ACode := .seq (.seq (.ops [ oq 11 (.mv (.t 6)),oq 12 (.mv (.t 0)),oq 13 (.len (.t 12)),oq 14 (.bin .lss (.t 11) (.t 13)),oq 15 (.mv (.t 14)),⟨some 16,some (15,true),.q (.mv (.t 6)),[]⟩,⟨some 17,some (15,true),.q (.bin .lss (.t 16) (.v (.int .i64 40))),[]⟩,oq 18 (.pick (.t 15) (.t 17) (.v (.bool false)))]) (.cond (.t 18) .skip (.exit 0))) (.seq (.block 1 (.seq (.ops [ oq 21 (.mv (.t 0)),oq 22 (.mv (.t 6)),oq 23 (.ia 5 (.t 21) (.t 22)),oq 24 (.fa 0 (.t 23)),oq 25 (.ld none (.t 24)),oq 26 (.bin .rem (.t 25) (.v (.int .i64 32))),oq 27 (.bin .add (.t 26) (.v (.int .i64 32))),oq 28 (.bin .rem (.t 27) (.v (.int .i64 32))),oq 7 (.mv (.t 28))]) (.seq (.ops [ oq 29 (.mv (.t 4)),oq 30 (.mv (.t 7)),oq 31 (.mv (.t 0)),oq 32 (.mv (.t 6)),oq 33 (.ia 5 (.t 31) (.t 32)),oq 34 (.ld (some 5) (.t 33)),oq 36 (.nc (.t 29)),oe 35 (.call 8 [(.t 34)]),oq 37 (.iaa 32 13 (.t 36) (.t 30)),oz (.store 13 (.t 37) (.t 35))]) (.ops [ oq 38 (.mv (.t 5)),oq 39 (.mv (.t 7)),oq 40 (.mv (.t 4)),oq 41 (.mv (.t 7)),oq 42 (.nc (.t 40)),oq 43 (.iaa 32 13 (.t 42) (.t 41)),oq 44 (.ld (some 13) (.t 43)),oe 45 (.call 37 [(.t 44)]),oq 46 (.ia 15 (.t 38) (.t 39)),oz (.store 15 (.t 46) (.t 45))])))) (.ops [ oq 19 (.mv (.t 6)),oq 20 (.bin .add (.t 19) (.v (.int .i64 1))),oq 6 (.mv (.t 20))]))
def c13_23:ACode := .seq c13_1 (.seq (.ops [ oe 10 (.mkb 57 136 [(.int .i64 0),(.int .i64 0),(.str []),(.int .i64 0),(.int .i64 0),(.bool false),(.bool false),(.int .i64 0),(.int .i64 0),(.bool false),(.bool false),(.sl .full []),(.int .i64 0),(.int .i64 0),(.str [])] (.v (.int .i64 32)) (.v (.int .i64 32))),oq 5 (.mv (.t 10))]) (.seq (.seq (.ops [ oq 6 (.mv (.v (.int .i64 0)))]) (.block 0 (.loop c13_15))) (.seq (.ops [ oq 47 (.mv (.t 4)),oq 48 (.mv (.t 5)),oq 2 (.mv (.t 47)),oq 3 (.mv (.t 48))]) .ret)))
def c13_24:ACode := .seq (.ops [ oq 2 (.mv (.v .nilp)),oq 3 (.mv (.v (.sl .full [])))]) c13_23
@[go_sem] def c13_15_wp:=wp_of c13_15.eq_1
def c13:AFn:=⟨49,[.t 2,.t 3],c13_24⟩
theorem c13_ok:compF Tryz.prog Tryz.f13=some c13:=by kernel_rfl
theorem a13 {args:List AV} {σ:ASt} {R:AV->ASt->Prop} (hl:args.length<=49) (h:c13_24.wp Tryz.prog (RetQ [.t 2,.t 3] R) (init args) σ):ACalls Tryz.prog 13 args σ R:=acalls_of Tryz.func13 c13_ok hl h
/-! 22: tabular/tile.Same -/
def c22_3:ACode := .seq (.ops [ oe 2 (.box (.t 0)),oe 3 (.box (.t 1)),oq 4 (.mv (.v (.bool false)))]) (.seq (.ops [ oq 5 (.fa 0 (.t 2)),oq 6 (.ld (some 12) (.t 5)),oq 7 (.fa 0 (.t 3)),oq 8 (.ld (some 12) (.t 7)),oe 9 (.call 49 [(.t 6),(.t 8)]),oq 10 (.mv (.t 9)),⟨some 11,some (10,true),.q (.ld (some 13) (.t 2)),[]⟩,⟨some 14,some (10,true),.q (.ld (some 13) (.t 3)),[]⟩,⟨some 12,some (10,true),.e (.call 31 [(.t 11)]),[⟨(some (10,true)),.ld (some 13) (.t 3),14⟩]⟩,⟨some 13,some (10,true),.e (.call 50 [(.t 12)]),[⟨(some (10,true)),.ld (some 13) (.t 3),14⟩]⟩,⟨some 15,some (10,true),.e (.call 31 [(.t 14)]),[]⟩,⟨some 16,some (10,true),.e (.call 50 [(.t 15)]),[]⟩,⟨some 17,some (10,true),.q (.eqs false [(0,0),(1,0),(2,2)] (.t 13) (.t 16)),[]⟩,oq 18 (.pick (.t 10) (.t 17) (.v (.bool false))),oq 4 (.mv (.t 18))]) .ret)
@[go_sem] def c22_3_wp:=wp_of c22_3.eq_1
def c22:AFn:=⟨19,[.t 4],c22_3⟩
theorem c22_ok:compF Tryz.prog Tryz.f22=some c22:=by kernel_rfl
theorem a22 {args:List AV} {σ:ASt} {R:AV->ASt->Prop} (hl:args.length<=19) (h:c22_3.wp Tryz.prog (RetQ [.t 4] R) (init args) σ):ACalls Tryz.prog 22 args σ R:=acalls_of Tryz.func22 c22_ok hl h
/-! 23: tabular/tabularref20.Same -/
def c23_3:ACode := .seq (.ops [ oe 2 (.box (.t 0)),oe 3 (.box (.t 1)),oq 4 (.mv (.v (.bool false)))]) (.seq (.ops [ oq 5 (.fa 0 (.t 2)),oq 6 (.ld (some 12) (.t 5)),oq 7 (.fa 0 (.t 3)),oq 8 (.ld (some 12) (.t 7)),oe 9 (.call 51 [(.t 6),(.t 8)]),oq 10 (.mv (.t 9)),⟨some 11,some (10,true),.q (.fa 12 (.t 2)),[]⟩,⟨some 12,some (10,true),.q (.ld (some 3) (.t 11)),[]⟩,⟨some 13,some (10,true),.q (.fa 12 (.t 3)),[]⟩,⟨some 14,some (10,true),.q (.ld (some 3) (.t 13)),[]⟩,⟨some 15,some (10,true),.q (.eqs false [(0,0),(1,0),(2,2)] (.t 12) (.t 14)),[]⟩,oq 16 (.pick (.t 10) (.t 15) (.v (.bool false))),oq 4 (.mv (.t 16))]) .ret)
@[go_sem] def c23_3_wp:=wp_of c23_3.eq_1
def c23:AFn:=⟨17,[.t 4],c23_3⟩
theorem c23_ok:compF Tryz.prog Tryz.f23=some c23:=by kernel_rfl
theorem a23 {args:List AV} {σ:ASt} {R:AV->ASt->Prop} (hl:args.length<=17) (h:c23_3.wp Tryz.prog (RetQ [.t 4] R) (init args) σ):ACalls Tryz.prog 23 args σ R:=acalls_of Tryz.func23 c23_ok hl h
end Go.A
namespace Go.A
open Go.Proofs Go.Lib Go.Vint
def TC.same (c d:TC):Bool:=Nd.same c.t d.t && (decide ((plOf c.val).kind=(plOf d.val).kind) && (decide ((plOf c.val).n=(plOf d.val).n) && decide ((plOf c.val).s=(plOf d.val).s)))
theorem r20same_ok (c d:TC) (hc:c.t.size<=1000000000) (hd:d.t.size<=1000000000):Pure Tryz.prog 23 [c.rav,d.rav] (.bool (TC.same c d)):=by
 intro σ
 have hS:=rsame_ok c.t d.t hc hd
 have hx:TC.same c d=(Nd.same c.t d.t && (decide ((plOf c.val).kind=(plOf d.val).kind) && (decide ((plOf c.val).n=(plOf d.val).n) && decide ((plOf c.val).s=(plOf d.val).s)))):=rfl
 rw [hx]
 clear hx hc hd
 generalize Nd.same c.t d.t=sm at *
 obtain ⟨pk,hpk⟩:∃ pk,plOf c.val=pk:=⟨_,rfl⟩
 obtain ⟨pd,hpd⟩:∃ pd,plOf d.val=pd:=⟨_,rfl⟩
 rw [hpk,hpd]
 obtain ⟨⟨op,n,s,a,b,ks⟩,v⟩:=c
 obtain ⟨⟨op2,n2,s2,a2,b2,ks2⟩,v2⟩:=d
 have hpk2:plOf (v.getD .blank)=pk:=hpk
 have hpd2:plOf (v2.getD .blank)=pd:=hpd
 dsimp only at hS
 rw [TC.rav,TC.rav,hpk2,hpd2]
 rw [Nd.av_cs,Nd.av_cs] at hS
 generalize ks.map Nd.av=L at *
 generalize ks2.map Nd.av=L2 at *
 obtain ⟨k,y,z⟩:=pk
 obtain ⟨k2,y2,z2⟩:=pd
 dsimp only
 unfold Nd.cs at hS
 unfold rCs
 refine a23 (by simp) ?_
 simp (disch:=first|assumption|omega) only [go_sem]
 refine boxC_by rfl fun c1 h1=>?_
 simp (disch:=first|assumption|omega) only [go_sem]
 refine boxC_by rfl fun c2 h2=>?_
 repeat (with_reducible replace h2:=set_none h2;obtain ⟨_,_,h2⟩:=h2)
 simp (disch:=first|assumption|omega) only [go_sem]
 refine hS.use ?_
 cases sm with
 | true=>
   simp (disch:=first|assumption|omega) only [go_sem]
   exact retC_by (by repeat' (first|exact Drop.refl _|with_reducible refine Drop.off ?_ (by assumption))) (.refl _) ⟨rfl,rfl⟩
 | false=>
   simp (disch:=first|assumption|omega) only [go_sem]
   exact retC_by (by repeat' (first|exact Drop.refl _|with_reducible refine Drop.off ?_ (by assumption))) (.refl _) ⟨rfl,rfl⟩
theorem tilesame_ok (c d:TC) (hc:c.t.size<=1000000000) (hd:d.t.size<=1000000000):Pure Tryz.prog 22 [c.av,d.av] (.bool (TC.same c d)):=by
 intro σ
 have hS:=esame_ok c.t d.t hc hd
 have hV1:=tcValue_ok c
 have hV2:=tcValue_ok d
 have hT1:=tell_ok c.val
 have hT2:=tell_ok d.val
 rw [tell_pl] at hT1 hT2
 have hx:TC.same c d=(Nd.same c.t d.t && (decide ((plOf c.val).kind=(plOf d.val).kind) && (decide ((plOf c.val).n=(plOf d.val).n) && decide ((plOf c.val).s=(plOf d.val).s)))):=rfl
 rw [hx]
 clear hx hc hd
 generalize Nd.same c.t d.t=sm at *
 generalize plOf c.val=pk at *
 generalize plOf d.val=pd at *
 generalize c.val.av=va at *
 generalize d.val.av=vd at *
 obtain ⟨⟨op,n,s,a,b,ks⟩,v⟩:=c
 obtain ⟨⟨op2,n2,s2,a2,b2,ks2⟩,v2⟩:=d
 dsimp only at hS
 rw [TC.av] at hV1 hV2 ⊢
 rw [TC.av]
 rw [Nd.av_cs,Nd.av_cs] at hS
 generalize ks.map Nd.av=L at *
 generalize ks2.map Nd.av=L2 at *
 generalize voAV v=x1 at *
 generalize voAV v2=x2 at *
 obtain ⟨k,y,z⟩:=pk
 obtain ⟨k2,y2,z2⟩:=pd
 unfold plAV at hT1 hT2
 dsimp only at hT1 hT2 ⊢
 unfold Nd.cs at hS
 unfold cellCs at *
 refine a22 (by simp) ?_
 simp (disch:=first|assumption|omega) only [go_sem]
 refine boxC_by rfl fun c1 h1=>?_
 simp (disch:=first|assumption|omega) only [go_sem]
 refine boxC_by rfl fun c2 h2=>?_
 repeat (with_reducible replace h2:=set_none h2;obtain ⟨_,_,h2⟩:=h2)
 simp (disch:=first|assumption|omega) only [go_sem]
 refine hS.use ?_
 cases sm with
 | true=>
   simp (disch:=first|assumption|omega) only [go_sem]
   refine hV1.use ?_
   simp (disch:=first|assumption|omega) only [go_sem]
   refine hT1.use ?_
   simp (disch:=first|assumption|omega) only [go_sem]
   refine hV2.use ?_
   simp (disch:=first|assumption|omega) only [go_sem]
   refine hT2.use ?_
   simp (disch:=first|assumption|omega) only [go_sem]
   exact retC_by (by repeat' (first|exact Drop.refl _|with_reducible refine Drop.off ?_ (by assumption))) (.refl _) ⟨rfl,rfl⟩
 | false=>
   simp (disch:=first|assumption|omega) only [go_sem]
   exact retC_by (by repeat' (first|exact Drop.refl _|with_reducible refine Drop.off ?_ (by assumption))) (.refl _) ⟨rfl,rfl⟩
theorem flat_len {α:Type} {f:α->List AV} {s:Nat} (hf:∀ x,(f x).length=s) (T:List α):(T.flatMap f).length=T.length*s:=by
 induction T with
 | nil=>simp
 | cons c T ih=>rw [List.flatMap_cons,List.length_append,ih,hf,List.length_cons,Nat.succ_mul,Nat.add_comm]
theorem flat_set {α:Type} {f:α->List AV} {s:Nat} (hf:∀ x,(f x).length=s) (c:α):∀ (T:List α) (i:Nat),i<T.length->(T.flatMap f).take (i*s)++f c++(T.flatMap f).drop (i*s+s)=(T.set i c).flatMap f
 | [],i,h=>by simp at h
 | x::T,0,_=>by
   rw [List.set_cons_zero,List.flatMap_cons,List.flatMap_cons,Nat.zero_mul,List.take_zero,Nat.zero_add,List.nil_append]
   congr 1
   rw [<-hf x,List.drop_left]
 | x::T,i+1,h=>by
   have ih:=flat_set hf c T i (by simpa using h)
   have hx:=hf x
   rw [List.set_cons_succ,List.flatMap_cons,List.flatMap_cons,← ih,Nat.succ_mul]
   have e1:(f x++T.flatMap f).take (i*s+s)=f x++(T.flatMap f).take (i*s):=by
    rw [show i*s+s=(f x).length+i*s by rw [hx];omega,List.take_length_add_append]
   have e2:(f x++T.flatMap f).drop (i*s+s+s)=(T.flatMap f).drop (i*s+s):=by
    rw [show i*s+s+s=(f x).length+(i*s+s) by rw [hx];omega,List.drop_length_add_append]
   rw [e1,e2]
   simp only [List.append_assoc]
theorem flat_at {α:Type} {f:α->List AV} {s:Nat} (hf:∀ x,(f x).length=s):∀ (T:List α) (i:Nat) (c:α),T[i]? = some c->((T.flatMap f).drop (i*s)).take s=f c
 | [],i,c,h=>by simp at h
 | x::T,0,c,h=>by
   obtain rfl:=Option.some.inj h
   rw [List.flatMap_cons,Nat.zero_mul,List.drop_zero,← hf x,List.take_left]
 | x::T,i+1,c,h=>by
   have ih:=flat_at hf T i c (by simpa using h)
   rw [List.flatMap_cons,Nat.succ_mul,show i*s+s=(f x).length+i*s by rw [hf];omega,List.drop_length_add_append]
   exact ih
def TC.rcs (c:TC):List AV:=c.rav.cells
theorem TC.rav_rcs (c:TC):c.rav = .agg c.rcs:=by obtain ⟨⟨op,n,s,a,b,ks⟩,v⟩:=c;rfl
theorem TC.rcs_len (c:TC):c.rcs.length=15:=by obtain ⟨⟨op,n,s,a,b,ks⟩,v⟩:=c;rfl
theorem TC.rcs_leaf (c:TC):leaves c.rcs=true:=by obtain ⟨⟨op,n,s,a,b,ks⟩,v⟩:=c;rfl
theorem TC.cs_leaf (c:TC):leaves c.cs=true:=by
 obtain ⟨⟨op,n,s,a,b,ks⟩,v⟩:=c
 cases v with
 | none=>rfl
 | some v=>cases v<;>rfl
def rTile (T:List TC):List AV:=T.flatMap TC.rcs
structure Md where
 a:Int
 F:List UInt8
 k:Int
 n:Int
 S:List UInt8
def Md.av (m:Md):AV := .agg [.int .i64 m.a,.str m.F,.int .i64 m.k,.int .i64 m.n,.str m.S]
def Md.tc (m:Md):TC:=lcC m.F m.k m.n m.S
def atN (a:Int):Nat:=((a.tmod 32+32).tmod 32).toNat
theorem atN_eq (a:Int):(a.tmod 32+32).tmod 32=(atN a:Int):=by
 have h1 : -32<a.tmod 32:=Int.lt_tmod_of_pos a (by decide)
 have h2:0<=(a.tmod 32+32).tmod 32:=Int.tmod_nonneg _ (by omega)
 unfold atN
 omega
theorem atN_lt (a:Int):atN a<32:=by
 have h:=atN_eq a
 have h3:(a.tmod 32+32).tmod 32<32:=Int.tmod_lt_of_pos _ (by decide)
 omega
def grN (l:List Md) (i:Nat):List TC:=(l.take i).foldl (fun T m=>T.set (atN m.a) m.tc) (List.replicate 32 zTC)
def grT (l:List Md):List TC:=grN l 40
theorem grN_succ {l:List Md} {i:Nat} {m:Md} (h:l[i]? = some m):grN l (i+1)=(grN l i).set (atN m.a) m.tc:=by
 obtain ⟨hi,rfl⟩:=List.getElem?_eq_some_iff.1 h
 unfold grN
 rw [List.take_succ_eq_append_getElem hi,List.foldl_append]
 rfl
theorem grN_len (l:List Md) (i:Nat):(grN l i).length=32:=by
 unfold grN
 generalize l.take i=r
 suffices h:∀ T:List TC,T.length=32->(r.foldl (fun T m=>T.set (atN m.a) m.tc) T).length=32 from h _ List.length_replicate
 induction r with
 | nil=>intro T h;exact h
 | cons m r ih=>intro T h;exact ih _ (by rw [List.length_set];exact h)
theorem grN_all {P:TC->Prop} (h0:P zTC) (hP:∀ m:Md,P m.tc) (l:List Md) (i:Nat):∀ c∈grN l i,P c:=by
 unfold grN
 generalize l.take i=r
 suffices h:∀ T:List TC,(∀ c∈T,P c)->∀ c∈r.foldl (fun T m=>T.set (atN m.a) m.tc) T,P c from h _ fun c hc=>by rw [List.eq_of_mem_replicate hc];exact h0
 induction r with
 | nil=>intro T h;exact h
 | cons m r ih=>
   intro T h
   refine ih _ fun c hc=>?_
   rcases List.mem_or_eq_of_mem_set hc with h1|rfl
   ·exact h c h1
   ·exact hP m
theorem lcT_size (F:List UInt8):(lcT F).size<=5000:=by
 unfold lcT
 split
 ·rename_i he;exact (parseR_gd he).2
 ·decide
def z480:List AV:=(List.replicate 32 ([.int .i64 0,.int .i64 0,.str [],.int .i64 0,.int .i64 0,.bool false,.bool false,.int .i64 0,.int .i64 0,.bool false,.bool false,.sl .full [],.int .i64 0,.int .i64 0,.str []]:List AV)).flatten
theorem soft416z:deeps z416=tileCs (List.replicate 32 zTC):=by rfl
theorem soft480z:deeps z480=rTile (List.replicate 32 zTC):=by rfl
theorem grow_c1:c13_1 = .ops [⟨some 8,none,.q (.build z416 []),[]⟩,⟨some 9,none,.e (.box (.t 8)),[]⟩,⟨some 4,none,.q (.mv (.t 9)),[]⟩]:=by rfl
set_option maxHeartbeats 1000000 in
theorem lgrow_ok {σ:ASt} (hU:U8 σ) (hV:LV σ) (l:List Md):ACalls Tryz.prog 13 [.sl .shr (l.map Md.av)] σ fun v σ'=>∃ p,σ p=none/\v = .tuple [.ptr p 0,.sl .shr ((grT l).map TC.rav)]/\σ'=σ.set p (some (.obj (tileCs (grT l)))):=by
 have hl416:=z416_len
 obtain ⟨Z,hZ⟩:∃ Z,Z=z416:=⟨_,rfl⟩
 have hs1:=soft416z
 rw [<-hZ] at hs1 hl416
 have hc1:=grow_c1
 rw [<-hZ] at hc1
 have hll:((l.map Md.av).length:Int)=(l.length:Int):=by rw [List.length_map]
 refine a13 (by simp) ?_
 rw [c13_24.eq_1,c13_23.eq_1,hc1]
 simp (disch:=first|assumption|omega) only [go_sem]
 refine boxC_by rfl fun p hp=>?_
 simp (disch:=first|assumption|omega) only [go_sem]
 refine mkb_own (by decide) (by decide) (by decide) (by decide) fun X hX=>?_
 repeat (with_reducible replace hX:=set_none hX;obtain ⟨_,_,hX⟩:=hX)
 have hXp:X≠p:=by assumption
 have hpX:p≠X:=Ne.symm hXp
 have e32:((32:Int)).toNat=32:=rfl
 have hz4:(List.replicate 32 ([.int .i64 0,.int .i64 0,.str [],.int .i64 0,.int .i64 0,.bool false,.bool false,.int .i64 0,.int .i64 0,.bool false,.bool false,.sl .full [],.int .i64 0,.int .i64 0,.str []]:List AV)).flatten=z480:=rfl
 rw [e32,hz4]
 have hsd:SDrop ((σ.set p (some (.obj Z))).set X (some (.obj z480))) ((σ.set p (some (.obj (tileCs (grN l 0))))).set X (some (.obj (rTile (grN l 0))))):=SDrop.cong (SDrop.cong (SDrop.refl σ) hs1) soft480z
 obtain ⟨Y,hY⟩:∃ Y,Y=z480:=⟨_,rfl⟩
 rw [<-hY] at hsd ⊢
 clear hY hs1 hc1 hz4
 obtain ⟨J,hJ⟩:∃ J:Nat->AFr->ASt->Prop,J=fun i a s2=>(i<=l.length/\i<=40)/\(a 0 = .sl .shr (l.map Md.av)/\a 4 = .ptr p 0/\a 5 = .msl X 0 32 32/\a 6 = .int .i64 i)/\s2=(σ.set p (some (.obj (tileCs (grN l i))))).set X (some (.obj (rTile (grN l i)))):=⟨_,rfl⟩
 simp (disch:=first|assumption|omega) only [go_sem]
 refine wp_loop_by J (fun i=>40-i) 0 (Dr.sdrop hsd ?_) ?_
 ·rw [hJ]
  refine ⟨⟨Nat.zero_le _,Nat.zero_le _⟩,?_,rfl⟩
  simp (disch:=first|assumption|omega) only [go_sem]
 intro i a1 s2 hjj
 rw [hJ] at hjj
 obtain ⟨⟨hi,hi40⟩,hf,rfl⟩:=hjj
 have hTl:=grN_len l i
 have hcl:=flat_len TC.cs_len (grN l i)
 have hrl:=flat_len TC.rcs_len (grN l i)
 by_cases hlt:i<l.length/\i<40
 ·have hl1:(i:Int)<(l.length:Int):=by omega
  have hl2:(i:Int)<40:=by omega
  obtain ⟨m,hm⟩:∃ m,l[i]? = some m:=⟨_,List.getElem?_eq_getElem hlt.1⟩
  have hmx:(l.map Md.av)[i]? = some (.agg [.int .i64 m.a,.str m.F,.int .i64 m.k,.int .i64 m.n,.str m.S]):=by rw [List.getElem?_map,hm];rfl
  have hgs:=grN_succ hm
  have ha:=atN_eq m.a
  have halt:=atN_lt m.a
  have hr1 : -32<m.a.tmod 32:=Int.lt_tmod_of_pos m.a (by decide)
  have hr2:m.a.tmod 32<32:=Int.tmod_lt_of_pos _ (by decide)
  obtain ⟨rr,hrr⟩:∃ rr,m.a.tmod 32=rr:=⟨_,rfl⟩
  rw [hrr] at ha hr1 hr2
  have hset1:=flat_set TC.cs_len m.tc (grN l i) (atN m.a) (by omega)
  have hset2:=flat_set TC.rcs_len m.tc (grN l i) (atN m.a) (by omega)
  rw [<-hgs] at hset1 hset2
  have hat:(grN l (i+1))[atN m.a]? = some m.tc:=by rw [hgs,List.getElem?_set_self (by omega)]
  have hld:=flat_at TC.cs_len _ _ _ hat
  have hcl2:=flat_len TC.cs_len (grN l (i+1))
  have hTl2:=grN_len l (i+1)
  have hC:=fun (τ:ASt) (h:U8 τ) (h2:LV τ)=>lcell_ok h h2 m.a m.F m.k m.n m.S
  have hTo:=ltold_ok m.tc (by have:=lcT_size m.F;show (lcT m.F).size<=_;omega)
  have htc:lcC m.F m.k m.n m.S=m.tc:=rfl
  rw [htc,TC.av_cs] at hC
  rw [TC.rav_rcs,TC.av_cs] at hTo
  have hU2:U8 ((σ.set p (some (.obj (tileCs (grN l i))))).set X (some (.obj (rTile (grN l i))))):=U8.set (U8.set hU hp) (by rw [ASt.set_ne hXp];assumption)
  have hV2:LV ((σ.set p (some (.obj (tileCs (grN l i))))).set X (some (.obj (rTile (grN l i))))):=lv_add20 (lv_add20 hV hp) (by rw [ASt.set_ne hXp];assumption)
  have hf1:=TC.cs_leaf m.tc
  have hf2:=TC.rcs_leaf m.tc
  have hn1:=TC.cs_len m.tc
  have hn2:=TC.rcs_len m.tc
  have hcd:∀ T,T.flatMap TC.cs=tileCs T:=fun _=>rfl
  have hrd:∀ T,T.flatMap TC.rcs=rTile T:=fun _=>rfl
  rw [hcd,hcd] at hset1
  rw [hcd] at hld hcl hcl2
  rw [hrd,hrd] at hset2
  rw [hrd] at hrl
  generalize hC2:tileCs (grN l (i+1))=C2 at *
  generalize hR2:rTile (grN l (i+1))=R2 at *
  generalize hC1:tileCs (grN l i)=C1 at *
  generalize hR1:rTile (grN l i)=R1 at *
  generalize m.tc.cs=mcs at *
  generalize m.tc.rcs=mrs at *
  generalize atN m.a=at' at *
  generalize l.map Md.av=LA at *
  have hb1:at'*13+13<=C1.length:=by omega
  have hb2:at'*15+15<=R1.length:=by omega
  have hb3:at'*13+13<=C2.length:=by omega
  have hatl:(at':Int)<32:=by omega
  have hatl0:(0:Int)<=(at':Int):=by omega
  simp (disch:=first|assumption|omega) only [go_sem,hf,hll,hl1,hl2,hmx,Int.toNat_natCast,hrr,ha]
  refine (hC _ hU2 hV2).mono ?_
  rintro v s3 ⟨rfl,rfl⟩
  simp (disch:=first|assumption|omega) only [go_sem,hf,hb1,hn1,hf1,hset1,hld,hb3,Int.toNat_natCast,Nat.zero_add]
  rw [set_mid hpX]
  refine hTo.use ?_
  simp (disch:=first|assumption|omega) only [go_sem,hf,hn2,hf2,hb2,hset2,Int.toNat_natCast,Nat.zero_add,ASt.set_set]
  refine ⟨i+1,by dsimp only;omega,Dr.now ?_⟩
  rw [hJ]
  refine ⟨by omega,?_,by rw [hC2,hR2]⟩
  simp (disch:=first|assumption|omega) only [go_sem,hf]
 ·have hend:grN l i=grT l:=by
   unfold grT grN
   by_cases h:i<l.length
   ·rw [show i=40 by omega]
   ·rw [List.take_of_length_le (by omega),List.take_of_length_le (by omega)]
  rw [hend]
  have hTl2:(grT l).length=32:=grN_len l 40
  have hXn:(σ.set p (some (.obj (tileCs (grT l))))) X=none:=by rw [ASt.set_ne hXp];assumption
  have hrl2:=flat_len TC.rcs_len (grT l)
  have hfz:Fz ((σ.set p (some (.obj (tileCs (grT l))))).set X (some (.obj (rTile (grT l))))) (σ.set p (some (.obj (tileCs (grT l))))) (.tuple [.ptr p 0,.msl X 0 32 32]) (.tuple [.ptr p 0,.sl .shr ((grT l).map TC.rav)]):=by
   refine .tuple (.cons (.refl _) (.cons (.msl 0 32 32 15 _ (ASt.set_same _ _ _) hXn (by rw [List.length_map,hTl2]) (Nat.le_refl _) (fun x hx=>?_) ?_) .nil))
   ·obtain ⟨c,_,rfl⟩:=List.mem_map.1 hx
    exact TC.rcs_len c
   ·rw [List.drop_zero,List.take_of_length_le (by show (rTile (grT l)).length<=_;unfold rTile;omega),List.flatMap_map]
    rfl
  have hdr:Drop ((σ.set p (some (.obj (tileCs (grT l))))).set X (some (.obj (rTile (grT l))))) (σ.set p (some (.obj (tileCs (grT l))))):=Drop.set hXn
  by_cases h1:i<l.length
  ·have hl1:(i:Int)<(l.length:Int):=by omega
   have hl2:¬ (i:Int)<40:=by omega
   simp (disch:=first|assumption|omega) only [go_sem,hf,hl1,hl2]
   exact retC_by hdr hfz ⟨p,hp,rfl,rfl⟩
  ·have hl1:¬ (i:Int)<(l.length:Int):=by omega
   simp (disch:=first|assumption|omega) only [go_sem,hf,hl1]
   exact retC_by hdr hfz ⟨p,hp,rfl,rfl⟩
end Go.A
namespace Go.A
open Go.Proofs Go.Lib
mutual
def Nd.strs (B:Nat):Nd->Prop
 | .mk _ _ s _ _ ks=>s.length<=B/\Nd.strss B ks
def Nd.strss (B:Nat):List Nd->Prop
 | []=>True
 | x::xs=>x.strs B/\Nd.strss B xs
end
theorem Nd.strss_mem {B:Nat}:∀ {l:List Nd},Nd.strss B l↔∀ x∈l,x.strs B
 | []=>by simp [Nd.strss]
 | y::l=>by rw [Nd.strss,Nd.strss_mem (l:=l)];simp
section
variable {T:List Tok} {B:Nat}
structure StrF (T:List Tok) (B:Nat) (f:Nat):Prop where
 betw:∀ lvl s r,betwP T f lvl s=some r->r.1.strs B
 loop:∀ lvl n s r,loopP T f lvl n s=some r->n.strs B->r.1.strs B
 signed:∀ s r,signedP T f s=some r->r.1.strs B
 hundred:∀ s r,hundredP T f s=some r->r.1.strs B
 hloop:∀ n s r,hloopP T f n s=some r->n.strs B->r.1.strs B
 prim:∀ s r,primP T f s=some r->r.1.strs B
 name:∀ s r,nameP T f s=some r->r.1.strs B
 args:∀ s r,argsP T f s=some r->Nd.strss B r.1
 aloop:∀ l s r,aloopP T f l s=some r->Nd.strss B l->Nd.strss B r.1
theorem strs_leaf (op n:Int) (a b:Ref):(Nd.mk op n [] a b []).strs B:=by
 rw [Nd.strs,Nd.strss]
 exact ⟨Nat.zero_le _,trivial⟩
theorem strF (hB:∀ s,(curT T s).text.length<=B):∀ f,StrF T B f
 | 0=>by
   constructor
   all_goals intros
   all_goals first
    | (rename_i h;simp only [betwP,signedP,hundredP,primP,nameP,argsP,reduceCtorEq] at h)
    | (rename_i h _;simp only [loopP,hloopP,aloopP,reduceCtorEq] at h)
 | f+1=>by
   have ih:=strF hB f
   have hz:zN.strs B:=strs_leaf _ _ _ _
   constructor
   ·intro lvl s r h
    rw [betwP] at h
    split at h
    ·exact ih.signed s r h
    ·split at h
     ·cases h
     ·rename_i r1 h1
      exact ih.loop _ _ _ _ h (ih.betw _ _ _ h1)
   ·intro lvl n s r h hn
    rw [loopP] at h
    split at h
    ·split at h
     ·cases h
     ·rename_i r1 h1
      refine ih.loop _ _ _ _ h ?_
      rw [Nd.strs,Nd.strss,Nd.strss,Nd.strss]
      exact ⟨Nat.zero_le _,hn,ih.betw _ _ _ h1,trivial⟩
    ·injection h with h;subst h;exact hn
   ·intro s r h
    rw [signedP] at h
    split at h
    ·split at h
     ·cases h
     ·rename_i r1 h1
      injection h with h;subst h
      dsimp only
      rw [Nd.strs,Nd.strss,Nd.strss]
      exact ⟨Nat.zero_le _,ih.signed _ _ h1,trivial⟩
    split at h
    ·split at h
     ·cases h
     ·rename_i r1 h1
      injection h with h;subst h
      dsimp only
      rw [Nd.strs,Nd.strss,Nd.strss]
      exact ⟨Nat.zero_le _,ih.signed _ _ h1,trivial⟩
    ·exact ih.hundred _ _ h
   ·intro s r h
    rw [hundredP] at h
    split at h
    ·cases h
    ·rename_i r1 h1
     exact ih.hloop _ _ _ h (ih.prim _ _ h1)
   ·intro n s r h hn
    rw [hloopP] at h
    split at h
    ·refine ih.hloop _ _ _ h ?_
     rw [Nd.strs,Nd.strss,Nd.strss]
     exact ⟨Nat.zero_le _,hn,trivial⟩
    ·injection h with h;subst h;exact hn
   ·intro s r h
    rw [primP] at h
    split at h
    ·split at h
     ·injection h with h;subst h;exact hz
     ·injection h with h;subst h;exact strs_leaf _ _ _ _
    split at h
    ·injection h with h;subst h
     dsimp only
     rw [Nd.strs,Nd.strss]
     exact ⟨hB s,trivial⟩
    split at h
    ·injection h with h;subst h;exact strs_leaf _ _ _ _
    split at h
    ·injection h with h;subst h
     unfold areaP
     split
     ·exact strs_leaf _ _ _ _
     ·split
      ·first|exact hz|exact strs_leaf _ _ _ _
      ·exact strs_leaf _ _ _ _
    split at h
    ·exact ih.name _ _ h
    split at h
    ·split at h
     ·cases h
     ·rename_i r1 h1
      injection h with h;subst h
      exact (ih.betw _ _ r1 h1:r1.1.strs B)
    ·injection h with h;subst h;exact hz
   ·intro s r h
    rw [nameP] at h
    split at h
    ·split at h
     ·injection h with h;subst h;exact hz
     ·split at h
      ·cases h
      ·rename_i r1 h1
       injection h with h;subst h
       dsimp only
       rw [Nd.strs]
       exact ⟨hB s,ih.args _ _ h1⟩
    split at h
    ·injection h with h;subst h;exact strs_leaf _ _ _ _
    split at h
    ·injection h with h;subst h;exact strs_leaf _ _ _ _
    ·injection h with h;subst h;exact hz
   ·intro s r h
    rw [argsP] at h
    split at h
    ·injection h with h;subst h;rw [Nd.strss];trivial
    ·exact ih.aloop _ _ _ h (by rw [Nd.strss];trivial)
   ·intro l s r h hl
    rw [aloopP] at h
    split at h
    ·injection h with h;subst h;exact hl
    ·split at h
     ·cases h
     ·rename_i r1 h1
      have key:r1.1.strs B:=by
       split at h1
       ·injection h1 with h1;subst h1;exact strs_leaf _ _ _ _
       ·exact ih.betw _ _ _ h1
      have hmem:Nd.strss B (l ++ [r1.1]):=by
       rw [Nd.strss_mem] at hl ⊢
       intro x hx
       rcases List.mem_append.1 hx with hx|hx
       ·exact hl x hx
       ·simp at hx;subst hx;exact key
      split at h
      ·exact ih.aloop _ _ _ h hmem
      ·injection h with h;subst h;exact hmem
end
theorem stepP_len (r:List UInt8) {kd:Int} {t:List UInt8} {n:Nat} (h:stepP r = .tok kd t n):t.length<=4*r.length+8:=by
 unfold stepP at h
 dsimp only at h
 split at h
 ·simp at h
 split at h
 ·simp at h
 split at h
 ·unfold wordsS at h
  dsimp only at h
  have hw:(r.take (runL wordB r)).length<=r.length:=by rw [List.length_take];omega
  split at h
  ·simp only [Step.tok.injEq] at h
   obtain ⟨rfl,rfl,rfl⟩:=h
   omega
  split at h
  ·simp only [Step.tok.injEq] at h
   obtain ⟨rfl,rfl,rfl⟩:=h
   rw [greatP_len];omega
  split at h
  ·simp only [Step.tok.injEq] at h
   obtain ⟨rfl,rfl,rfl⟩:=h
   rw [greatP_len];omega
  ·simp at h
 split at h
 ·obtain ⟨rfl,h2⟩:=quotedF_len _ _ _ _ _ _ _ h
  rw [List.length_drop] at h2
  simp only [List.length_nil] at h2
  omega
 split at h
 ·obtain ⟨rfl,h2⟩:=failS_gd _ _ _ _ _ h
  have hq:∀ x∈errTexts,x.length<=8:=by decide
  have:=hq t h2
  omega
 ·unfold opS at h
  split at h
  ·simp only [Step.tok.injEq] at h
   obtain ⟨rfl,rfl,rfl⟩:=h
   have:=alikeP_len ((decodeL r).1:Int)
   omega
  ·split at h
   ·rename_i e he
    simp only [Step.tok.injEq] at h
    obtain ⟨rfl,rfl,rfl⟩:=h
    have:=twos_len e (twoS_fits r _ _ he).1
    omega
   ·split at h
    ·simp only [Step.tok.injEq] at h
     obtain ⟨rfl,rfl,rfl⟩:=h
     rw [List.length_take];omega
    ·simp at h
theorem lexF_len {B:Nat}:∀ (k:Nat) (r:List UInt8) (a c:Nat) (acc L:List Tok) (x:Nat),4*r.length+8<=B->lexF k r a c acc=(L,x,0)->(∀ t∈acc,t.text.length<=B)->(∀ t∈L,t.text.length<=B)/\L.length<=acc.length+r.length+1
 | 0,r,a,c,acc,L,x,hr,h,hacc=>by simp [lexF] at h
 | k+1,r,a,c,acc,L,x,hr,h,hacc=>by
   rw [lexF] at h
   split at h
   ·simp only [Prod.mk.injEq] at h
    obtain ⟨rfl,_⟩:=h
    refine ⟨fun t ht=>?_,by rw [List.length_append,List.length_singleton];omega⟩
    rcases List.mem_append.1 ht with ht|ht
    ·exact hacc t ht
    ·simp at ht;subst ht;exact Nat.zero_le _
   ·rename_i hne
    have hpos:=List.length_pos_iff.2 hne
    split at h
    ·simp at h
    ·have:=lexF_len (B:=B) k _ _ _ _ _ _ (by rw [List.length_drop];omega) h hacc
     rw [List.length_drop] at this
     exact ⟨this.1,by omega⟩
    ·rename_i kd t n hst
     obtain ⟨f1,f2⟩:=(stepP_fits r hne).2 kd t n hst
     have:=lexF_len (B:=B) k _ _ _ _ _ _ (by rw [List.length_drop];omega) h (fun u hu=>by
      rcases List.mem_append.1 hu with hu|hu
      ·exact hacc u hu
      ·simp at hu;subst hu;have h9:=stepP_len r hst;exact Nat.le_trans h9 hr)
     rw [List.length_drop,List.length_append,List.length_singleton] at this
     exact ⟨this.1,by omega⟩
theorem lexP_len {s:List UInt8} (h:(lexP s).2.2=0):(∀ t∈(lexP s).1,t.text.length<=4*s.length+8)/\(lexP s).1.length<=s.length+1:=by
 unfold lexP at h ⊢
 split
 ·rename_i hl;rw [if_pos hl] at h;cases h
 ·rename_i hl
  rw [if_neg hl] at h
  obtain ⟨R,hR⟩:∃ R,lexF (s.length+1) s 0 0 []=R:=⟨_,rfl⟩
  rw [hR] at h ⊢
  obtain ⟨L,x,e⟩:=R
  dsimp only at h ⊢
  subst h
  have:=lexF_len (B:=4*s.length+8) _ _ _ _ _ _ _ (Nat.le_refl _) hR (by simp)
  exact ⟨this.1,by simpa using this.2⟩
theorem parseR_small {s:List UInt8} (h:(parseR s).2.2=0):(parseR s).1.strs (4*s.length+8)/\(parseR s).1.size<=2*s.length+2:=by
 unfold parseR parseT at h ⊢
 by_cases h1:(lexP s).2.2=0
 ·obtain ⟨hT,hL,hG⟩:=lex_toks h1
  obtain ⟨hl1,hl2⟩:=lexP_len h1
  obtain ⟨r,hr⟩:=betw_some h1
  have hr':=hr
  unfold st0 at hr
  rw [if_neg (by simp [h1]),hr] at h ⊢
  dsimp only at h ⊢
  have W:=(wentF hT.ends _).betw _ _ _ hr' (st0_fit hT.ends)
  obtain ⟨q,hq⟩:∃ q,(if (curT (lexP s).1 r.2).kind≠0 then failP (lexP s).1 r.2 10 else r.2)=q:=⟨_,rfl⟩
  rw [hq] at h ⊢
  by_cases he:q.err≠0
  ·rw [if_pos he] at h
   exact absurd h he
  ·rw [if_neg he]
   have h0:r.2.err=0:=by
    split at hq
    ·subst hq
     exact absurd (by simpa using he) fun h=>fail_err (T:=(lexP s).1) (s:=r.2) (e:=10) (by decide) h
    ·subst hq
     simpa using he
   obtain ⟨g1,g2⟩:=(goodF hT.ends hG (by omega) _).betw _ _ _ hr' (st0_fit hT.ends) h0
   have:=W.fit.i
   have hB:∀ p,(curT (lexP s).1 p).text.length<=4*s.length+8:=fun p=>by
    unfold curT
    split
    ·exact Nat.zero_le _
    ·rw [List.getD_eq_getElem?_getD]
     cases hx:(lexP s).1[p.i]? with
     | none=>exact Nat.zero_le _
     | some t=>exact hl1 t (List.mem_of_getElem? hx)
   refine ⟨(strF hB _).betw _ _ _ hr',?_⟩
   show r.1.size<=_
   omega
 ·rw [if_pos (by simpa using h1)] at h
  exact absurd h h1
theorem kt_of {t:Tok} {k:Int} {x:List UInt8} (h:kt t=(k,x)):t.kind=k/\t.text=x:=by
 unfold kt at h
 injection h with h1 h2
 exact ⟨h1,h2⟩
theorem name_alone {s:List UInt8} (h:NameOk s) (hl:s.length<=2000):nameOkP s=true:=by
 have h1:=lx_name h [] (fun c t e=>by cases e)
 rw [List.append_nil,relP_nil] at h1
 unfold nameOkP
 rw [lexP_rel hl]
 generalize relP s=R at *
 cases R with
 | inl j=>simp [kts] at h1
 | inr x=>
   obtain ⟨ts,m⟩:=x
   simp only [kts,List.map_nil,Option.map_some,List.append_nil,Option.some.injEq] at h1
   match ts,h1 with
   | [],h1=>cases h1
   | t::u::l,h1=>simp at h1
   | [t],h1=>
     injection h1 with h1
     obtain ⟨k1,k2⟩:=kt_of h1
     simp [endOf,k1,k2,Tok.sh]
theorem gdN_num {n:Int} (h0:0<=n) (h1:n<=999999999999999999):GdN 1 n [] .zero .zero 0 where
 op1:=by decide
 op2:=by decide
 n1:=fun _=>⟨h0,h1⟩
 n3:=fun h=>by omega
 n4:=fun h=>by omega
 n0:=fun h=>absurd rfl h
 s2:=fun h=>by omega
 s22:=fun h=>by omega
 s0:=fun _ _=>rfl
 ga:=fun h=>by omega
 a0:=fun _ _=>rfl
 gb:=fun h=>by omega
 b0:=fun _=>rfl
 ar:=fun _=>rfl
theorem nf_wd {n:Nd} (h:Nf n):n.strs 2000->n.size<=2000->n.wd:=by
 have leaf:∀ (op m:Int) (s:List UInt8) (a b:Ref),GdN op m s a b 0->(Nd.mk op m s a b []).wd:=fun op m s a b h=>by
  rw [Nd.wd,Nd.wds]
  exact ⟨h,trivial⟩
 have kid:∀ {op m:Int} {s:List UInt8} {a b:Ref} {ks:List Nd} {x:Nd},x∈ks->(Nd.mk op m s a b ks).strs 2000->(Nd.mk op m s a b ks).size<=2000->x.strs 2000/\x.size<=2000:=by
  intro op m s a b ks x hx hs hz
  rw [Nd.strs,Nd.strss_mem] at hs
  refine ⟨hs.2 x hx,?_⟩
  rw [Nd.size] at hz
  have:∀ l:List Nd,x∈l->x.size<=Nd.sizes l:=by
   intro l
   induction l with
   | nil=>intro h;cases h
   | cons y l ih=>
     intro h
     rw [Nd.sizes]
     rcases List.mem_cons.1 h with rfl|h
     ·omega
     ·have:=ih h;omega
  have:=this ks hx
  omega
 induction h with
 | num h0 h1=>exact fun _ _=>leaf _ _ _ _ _ (gdN_num h0 h1)
 | @text s h0 h1=>
   intro hs _
   rw [Nd.strs] at hs
   have hsg:(sgT s).isSome=true:=by
    have e:sgT s=sgP s:=rfl
    rw [e]
    cases hq:sgP s with
    | none=>exact absurd hq h0
    | some x=>rfl
   exact leaf _ _ _ _ _ ⟨by decide,by decide,fun h=>by omega,fun h=>by omega,fun h=>by omega,fun _ _ _=>rfl,fun _=>⟨hs.1,hsg⟩,fun h=>by omega,fun h=>absurd rfl h,fun h=>by omega,fun _ _=>rfl,fun h=>by omega,fun _=>rfl,fun _=>rfl⟩
 | @truth b hb=>exact fun _ _=>leaf _ _ _ _ _ ⟨by decide,by decide,fun h=>by omega,fun _=>hb,fun h=>by omega,fun _ h=>absurd rfl h,fun h=>by omega,fun h=>by omega,fun _ _=>rfl,fun h=>by omega,fun _ _=>rfl,fun h=>by omega,fun _=>rfl,fun _=>rfl⟩
 | @fail k hk=>exact fun _ _=>leaf _ _ _ _ _ ⟨by decide,by decide,fun h=>by omega,fun h=>by omega,fun _=>⟨by have:(((k:Int)+1)*10000).tmod 10000=0:=Int.mul_tmod_left _ _;exact this,by omega,by omega⟩,fun _ _ h=>absurd rfl h,fun h=>by omega,fun h=>by omega,fun _ _=>rfl,fun h=>by omega,fun _ _=>rfl,fun h=>by omega,fun _=>rfl,fun _=>rfl⟩
 | @cell r hr=>exact fun _ _=>leaf _ _ _ _ _ ⟨by decide,by decide,fun h=>by omega,fun h=>by omega,fun h=>by omega,fun _ _ _=>rfl,fun h=>by omega,fun h=>by omega,fun _ _=>rfl,fun _=>hr,fun h=>absurd rfl h,fun h=>by omega,fun _=>rfl,fun _=>rfl⟩
 | @area r q hr hq=>exact fun _ _=>leaf _ _ _ _ _ ⟨by decide,by decide,fun h=>by omega,fun h=>by omega,fun h=>by omega,fun _ _ _=>rfl,fun h=>by omega,fun h=>by omega,fun _ _=>rfl,fun _=>hr,fun _ h=>absurd rfl h,fun _=>hq,fun h=>absurd rfl h,fun _=>rfl⟩
 | @sign op x ho hx hne ih=>
   intro hs hz
   obtain ⟨k1,k2⟩:=kid (by simp:x ∈ [x]) hs hz
   rw [Nd.wd,Nd.wds,Nd.wds]
   refine ⟨⟨by omega,by omega,fun h=>by omega,fun h=>by omega,fun h=>by omega,fun _ _ _=>rfl,fun h=>by omega,fun h=>by omega,fun _ _=>rfl,fun h=>by omega,fun _ _=>rfl,fun h=>by omega,fun _=>rfl,fun _=>?_⟩,ih k1 k2,trivial⟩
   unfold arity
   rw [if_pos (by omega)]
   rfl
 | @hund x hx hne ih=>
   intro hs hz
   obtain ⟨k1,k2⟩:=kid (by simp:x ∈ [x]) hs hz
   rw [Nd.wd,Nd.wds,Nd.wds]
   exact ⟨⟨by decide,by decide,fun h=>by omega,fun h=>by omega,fun h=>by omega,fun _ _ _=>rfl,fun h=>by omega,fun h=>by omega,fun _ _=>rfl,fun h=>by omega,fun _ _=>rfl,fun h=>by omega,fun _=>rfl,fun _=>rfl⟩,ih k1 k2,trivial⟩
 | @bin i x y hi hx hnx hy hny ihx ihy=>
   intro hs hz
   obtain ⟨k1,k2⟩:=kid (by simp:x ∈ [x,y]) hs hz
   obtain ⟨k3,k4⟩:=kid (by simp:y ∈ [x,y]) hs hz
   rw [Nd.wd,Nd.wds,Nd.wds,Nd.wds]
   refine ⟨⟨by omega,by omega,fun h=>by omega,fun h=>by omega,fun h=>by omega,fun _ _ _=>rfl,fun h=>by omega,fun h=>by omega,fun _ _=>rfl,fun h=>by omega,fun _ _=>rfl,fun h=>by omega,fun _=>rfl,fun _=>?_⟩,ihx k1 k2,ihy k3 k4,trivial⟩
   unfold arity
   rw [if_neg (by omega),if_pos (by omega)]
   rfl
 | @call s ks hn hl hk hm ih=>
   intro hs hz
   have hst:=hs
   rw [Nd.strs] at hst
   have hlen:ks.length<=2000:=by
    have:=sizes_len ks
    rw [Nd.size] at hz
    omega
   rw [Nd.wd,Nd.wds_mem]
   refine ⟨⟨by decide,by decide,fun h=>by omega,fun h=>by omega,fun h=>by omega,fun _ _ _=>rfl,fun h=>by omega,fun _=>⟨hst.1,name_alone hn hst.1,hlen⟩,fun _ h=>absurd rfl h,fun h=>by omega,fun _ _=>rfl,fun h=>by omega,fun _=>rfl,fun h=>absurd rfl h⟩,fun x hx=>?_⟩
   obtain ⟨k1,k2⟩:=kid hx hs hz
   exact ih x hx k1 k2
 | miss=>exact fun _ _=>leaf _ _ _ _ _ ⟨by decide,by decide,fun h=>by omega,fun h=>by omega,fun h=>by omega,fun _ _ _=>rfl,fun h=>by omega,fun h=>by omega,fun _ _=>rfl,fun h=>by omega,fun _ _=>rfl,fun h=>by omega,fun _=>rfl,fun _=>rfl⟩
end Go.A
namespace Go.A
open Go.Proofs
/-! 4: tabular/tabularlaw20.TileWrites -/
def c4_20:ACode := .seq (.seq (.ops [ oq 81 (.mv (.t 9)),oq 82 (.bin .lss (.t 81) (.v (.int .i64 4)))]) (.cond (.t 82) .skip (.exit 0))) (.seq (.block 1 (.seq (.ops [ oq 85 (.mv (.t 7)),oq 86 (.mv (.t 9)),oe 87 (.call 20 [(.t 85),(.t 86)]),oq 88 (.mv (.t 8)),oq 89 (.mv (.t 9)),oe 90 (.call 21 [(.t 88),(.t 89)]),oq 91 (.bin .neq (.t 87) (.t 90))]) (.cond (.t 91) (.seq (.ops [ oq 6 (.mv (.v (.bool false)))]) .ret) .skip))) (.ops [ oq 83 (.mv (.t 9)),oq 84 (.bin .add (.t 83) (.v (.int .i64 1))),oq 9 (.mv (.t 84))]))
def c4_27:ACode := .seq (.seq (.ops [ oe 19 (.call 10 []),oq 20 (.un .not (.t 19)),oq 21 (.mv (.t 20)),⟨some 22,some (21,false),.q (.mv (.t 7)),[]⟩,⟨some 24,some (21,false),.q (.mv (.t 8)),[]⟩,⟨some 23,some (21,false),.e (.call 14 [(.t 22)]),[]⟩,⟨some 25,some (21,false),.e (.call 15 [(.t 24)]),[]⟩,⟨some 26,some (21,false),.q (.bin .neq (.t 23) (.t 25)),[]⟩,oq 27 (.pick (.t 21) (.v (.bool true)) (.t 26)),oq 28 (.mv (.t 27)),⟨some 29,some (28,false),.q (.mv (.t 7)),[]⟩,⟨some 30,some (28,false),.q (.mv (.t 1)),[]⟩,⟨some 32,some (28,false),.q (.mv (.t 8)),[]⟩,⟨some 33,some (28,false),.q (.mv (.t 1)),[]⟩,⟨some 31,some (28,false),.e (.call 16 [(.t 29),(.t 30)]),[]⟩,⟨some 34,some (28,false),.e (.call 17 [(.t 32),(.t 33)]),[]⟩,⟨some 35,some (28,false),.q (.bin .neq (.t 31) (.t 34)),[]⟩,oq 36 (.pick (.t 28) (.v (.bool true)) (.t 35)),oq 37 (.mv (.t 36)),⟨some 38,some (37,false),.q (.mv (.t 7)),[]⟩,⟨some 39,some (37,false),.q (.mv (.t 2)),[]⟩,⟨some 40,some (37,false),.q (.nc (.t 38)),[]⟩,⟨some 41,some (37,false),.q (.iaa 32 13 (.t 40) (.t 39)),[]⟩,⟨some 42,some (37,false),.q (.ld (some 13) (.t 41)),[]⟩,⟨some 44,some (37,false),.q (.mv (.t 8)),[]⟩,⟨some 45,some (37,false),.q (.mv (.t 2)),[]⟩,⟨some 46,some (37,false),.q (.ia 15 (.t 44) (.t 45)),[]⟩,⟨some 47,some (37,false),.q (.ld (some 15) (.t 46)),[]⟩,⟨some 43,some (37,false),.e (.call 9 [(.t 42)]),[⟨(some (37,false)),.ld (some 15) (.t 46),47⟩]⟩,⟨some 48,some (37,false),.e (.call 18 [(.t 47)]),[]⟩,⟨some 49,some (37,false),.q (.bin .neq (.t 43) (.t 48)),[]⟩,oq 50 (.pick (.t 37) (.v (.bool true)) (.t 49)),oq 51 (.mv (.t 50)),⟨some 52,some (51,false),.q (.mv (.t 7)),[]⟩,⟨some 53,some (51,false),.q (.mv (.t 2)),[]⟩,⟨some 54,some (51,false),.q (.nc (.t 52)),[]⟩,⟨some 55,some (51,false),.q (.iaa 32 13 (.t 54) (.t 53)),[]⟩,⟨some 56,some (51,false),.q (.ld (some 13) (.t 55)),[]⟩,⟨some 58,some (51,false),.q (.mv (.t 8)),[]⟩,⟨some 59,some (51,false),.q (.mv (.t 2)),[]⟩,⟨some 60,some (51,false),.q (.ia 15 (.t 58) (.t 59)),[]⟩,⟨some 61,some (51,false),.q (.ld (some 15) (.t 60)),[]⟩,⟨some 57,some (51,false),.e (.call 12 [(.t 56)]),[⟨(some (51,false)),.ld (some 15) (.t 60),61⟩]⟩,⟨some 62,some (51,false),.e (.call 19 [(.t 61)]),[]⟩,⟨some 63,some (51,false),.q (.eq .b true (.t 57) (.t 62)),[]⟩,oq 64 (.pick (.t 51) (.v (.bool true)) (.t 63)),oq 65 (.mv (.t 64)),⟨some 66,some (65,false),.q (.mv (.t 7)),[]⟩,⟨some 67,some (65,false),.q (.mv (.t 2)),[]⟩,⟨some 68,some (65,false),.q (.nc (.t 66)),[]⟩,⟨some 69,some (65,false),.q (.iaa 32 13 (.t 68) (.t 67)),[]⟩,⟨some 70,some (65,false),.q (.ld (some 13) (.t 69)),[]⟩,⟨some 72,some (65,false),.q (.mv (.t 8)),[]⟩,⟨some 73,some (65,false),.q (.mv (.t 2)),[]⟩,⟨some 74,some (65,false),.q (.ia 15 (.t 72) (.t 73)),[]⟩,⟨some 75,some (65,false),.q (.fa 0 (.t 74)),[]⟩,⟨some 76,some (65,false),.q (.fa 0 (.t 75)),[]⟩,⟨some 77,some (65,false),.q (.ld none (.t 76)),[]⟩,⟨some 78,some (65,false),.q (.bin .gtr (.t 77) (.v (.int .i64 0))),[]⟩,⟨some 71,some (65,false),.e (.call 11 [(.t 70)]),[⟨(some (65,false)),.ld none (.t 76),77⟩]⟩,⟨some 79,some (65,false),.q (.eq .b true (.t 71) (.t 78)),[]⟩,oq 80 (.pick (.t 65) (.v (.bool true)) (.t 79))]) (.cond (.t 80) (.seq (.ops [ oq 6 (.mv (.v (.bool false)))]) .ret) .skip)) (.seq (.seq (.ops [ oq 9 (.mv (.v (.int .i64 1)))]) (.block 0 (.loop c4_20))) (.seq (.ops [ oq 92 (.mv (.t 7)),oq 93 (.mv (.t 2)),oq 94 (.nc (.t 92)),oq 95 (.iaa 32 13 (.t 94) (.t 93)),oq 96 (.ld (some 13) (.t 95)),oq 97 (.mv (.t 7)),oq 98 (.nc (.t 97)),oq 99 (.iaa 32 13 (.t 98) (.v (.int .i64 0))),oq 100 (.ld (some 13) (.t 99)),oq 102 (.mv (.t 8)),oq 103 (.mv (.t 2)),oq 104 (.ia 15 (.t 102) (.t 103)),oq 105 (.ld (some 15) (.t 104)),oq 106 (.mv (.t 8)),oq 107 (.ia 15 (.t 106) (.v (.int .i64 0))),oq 108 (.ld (some 15) (.t 107)),⟨some 101,none,.e (.call 22 [(.t 96),(.t 100)]),[⟨none,.ld (some 15) (.t 104),105⟩,⟨none,.ld (some 15) (.t 107),108⟩]⟩,oe 109 (.call 23 [(.t 105),(.t 108)]),oq 110 (.eq .b false (.t 101) (.t 109)),oq 6 (.mv (.t 110))]) .ret))
def c4_30:ACode := .seq (.ops [ oq 6 (.mv (.v (.bool false)))]) (.seq (.ops [ oq 11 (.mv (.t 0)),oe 12 (.call 13 [(.t 11)]),oq 10 (.mv (.t 12)),oq 13 (.ext 0 (.t 10)),oq 14 (.ext 1 (.t 10)),oq 7 (.mv (.t 13)),oq 8 (.mv (.t 14))]) (.seq (.ops [ oq 15 (.mv (.t 2)),oq 16 (.bin .rem (.t 15) (.v (.int .i64 32))),oq 17 (.bin .add (.t 16) (.v (.int .i64 32))),oq 18 (.bin .rem (.t 17) (.v (.int .i64 32))),oq 2 (.mv (.t 18))]) c4_27))
@[go_sem] def c4_20_wp:=wp_of c4_20.eq_1
@[go_sem] def c4_27_wp:=wp_of c4_27.eq_1
@[go_sem] def c4_30_wp:=wp_of c4_30.eq_1
def c4:AFn:=⟨111,[.t 6],c4_30⟩
theorem c4_ok:compF Tryz.prog Tryz.f4=some c4:=by kernel_rfl
theorem a4 {args:List AV} {σ:ASt} {R:AV->ASt->Prop} (hl:args.length<=111) (h:c4_30.wp Tryz.prog (RetQ [.t 6] R) (init args) σ):ACalls Tryz.prog 4 args σ R:=acalls_of Tryz.func4 c4_ok hl h
end Go.A
namespace Go.A
open Go.Proofs Go.Lib Go.Vint
mutual
theorem nd_strs_mono {B C:Nat} (h:B<=C):∀ n:Nd,n.strs B->n.strs C
 | .mk op m s a b ks,hs=>by
   rw [Nd.strs] at hs ⊢
   exact ⟨Nat.le_trans hs.1 h,nd_strss_mono h ks hs.2⟩
theorem nd_strss_mono {B C:Nat} (h:B<=C):∀ l:List Nd,Nd.strss B l->Nd.strss C l
 | [],_=>by rw [Nd.strss];trivial
 | x::l,hs=>by
   rw [Nd.strss] at hs ⊢
   exact ⟨nd_strs_mono h x hs.1,nd_strss_mono h l hs.2⟩
end
theorem rfB_le {r:Ref} (h:r.good=true):(rfB r).length<=20:=by
 have hb:=good_bd h
 have ha:absN r<=3:=by unfold absN;split<;>split<;>omega
 have h1:=uintB_le (u:=((absN r+4*r.row.toNat:Nat):Int)) (by omega)
 have h2:=uintB_le (u:=((r.col.toNat:Nat):Int)) (by omega)
 rw [Int.toNat_natCast] at h1 h2
 unfold rfB
 rw [List.length_append]
 omega
theorem restB_le {op n:Int} {s:List UInt8} {a b:Ref} {k B:Nat} (h:GdN op n s a b k) (hs:s.length<=B):(restB op n s a b k).length<=B+50:=by
 have hn:=h.num
 have hk:=h.kids
 have htx:(textB s).length<=B+10:=by
  have h1:=uintB_le (u:=((s.length:Nat):Int)) (by
   by_cases e:op=2
   ·have:=(h.s2 e).1;omega
   by_cases e2:op=22
   ·have:=(h.s22 e2).1;omega
   ·rw [h.s0 e e2];decide)
  rw [Int.toNat_natCast] at h1
  unfold textB
  rw [List.length_append]
  omega
 unfold restB
 split
 ·have hf:=(foldI n)
  have h2:foldI n<=18446744073709551615/\0<=foldI n:=by unfold foldI;split<;>omega
  have:=uintB_le (u:=foldI n) h2.1
  omega
 split
 ·omega
 split
 ·rename_i e
  have:=rfB_le (h.ga (.inl e))
  omega
 split
 ·rename_i e
  have h1:=rfB_le (h.ga (.inr e))
  have h2:=rfB_le (h.gb e)
  rw [List.length_append]
  omega
 split
 ·have h1:=uintB_le (u:=(k:Int)) (by omega)
  rw [Int.toNat_natCast] at h1
  rw [List.length_append]
  omega
 ·exact Nat.zero_le _
mutual
theorem nd_bytes_le {B:Nat}:∀ n:Nd,n.wd->n.strs B->n.bytes.length<=(B+60)*n.size
 | .mk op n s a b ks,hw,hs=>by
   rw [Nd.wd] at hw
   rw [Nd.strs] at hs
   have h1:=restB_le hw.1 hs.1
   have h2:=nd_bytess_le ks hw.2 hs.2
   have h3:=uintB_le (u:=op) (by have:=hw.1.op2;omega)
   rw [Nd.bytes,List.length_append,List.length_append,Nd.size,Nat.mul_add,Nat.mul_one]
   omega
theorem nd_bytess_le {B:Nat}:∀ l:List Nd,Nd.wds l->Nd.strss B l->(Nd.bytess l).length<=(B+60)*Nd.sizes l
 | [],_,_=>by rw [Nd.bytess];exact Nat.zero_le _
 | x::l,hw,hs=>by
   rw [Nd.wds] at hw
   rw [Nd.strss] at hs
   have h1:=nd_bytes_le x hw.1 hs.1
   have h2:=nd_bytess_le l hw.2 hs.2
   rw [Nd.bytess,List.length_append,Nd.sizes,Nat.mul_add]
   omega
end
structure TC.made (c:TC):Prop where
 fine:c.fine
 wf:c.wfine
 size:c.t.size<=5000
 op:0<=c.t.op
 nf:c.isF=true->Nf c.t/\0<c.t.op
theorem lcC_made (F:List UInt8) (k n:Int) (S:List UInt8):(lcC F k n S).made:=by
 have hop:∀ m:Nd,Nf m->0<m.op:=fun m hm=>by cases hm<;>simp only [Nd.op]<;>omega
 have hcase:((lcT F)=zNd)\/((parseR (F.take 80)).2.2=0/\lcT F=(parseR (F.take 80)).1):=by
  unfold lcT
  split
  ·rename_i h;exact .inr ⟨h,rfl⟩
  ·exact .inl rfl
 have hF8:(F.take 80).length<=80:=by rw [List.length_take];omega
 have hshort:∀ t,(lcC F k n S).val = .text t->t.length<=2000:=fun t ht=>by
  have ht:ofP ⟨k,n,S.take 60⟩ = .text t:=ht
  unfold ofP at ht
  dsimp only at ht
  split at ht
  ·split at ht<;>cases ht
  split at ht
  ·split at ht
   ·rename_i h;injection ht with ht;rw [<-ht];exact h.2
   ·cases ht
  split at ht
  ·cases ht
  split at ht
  ·split at ht<;>cases ht
  ·cases ht
 refine ⟨lcC_fine F k n S,⟨?_,?_,ofP_good _,hshort⟩,lcT_size F,?_,?_⟩
 ·intro h
  have h':(!decide ((lcT F).op=0))=true:=h
  show (lcT F).wd
  rcases hcase with hz|⟨he,hz⟩
  ·rw [hz] at h';exact absurd h' (by decide)
  ·rw [hz]
   have hsm:=parseR_small he
   have hst:(parseR (F.take 80)).1.strs 2000:=nd_strs_mono (by omega) _ hsm.1
   exact nf_wd (parseR_nf he).1 hst (by omega)
 ·intro h
  have h':(!decide ((lcT F).op=0))=true:=h
  show (lcT F).bytes.length<=100000
  rcases hcase with hz|⟨he,hz⟩
  ·rw [hz] at h';exact absurd h' (by decide)
  ·rw [hz]
   have hsm:=parseR_small he
   have hst:(parseR (F.take 80)).1.strs 2000:=nd_strs_mono (by omega) _ hsm.1
   have hst2:(parseR (F.take 80)).1.strs 328:=nd_strs_mono (by omega) _ hsm.1
   have hb:=nd_bytes_le _ (nf_wd (parseR_nf he).1 hst (by omega)) hst2
   have h2:(328+60)*(parseR (F.take 80)).1.size<=(328+60)*162:=Nat.mul_le_mul_left _ (by omega)
   omega
 ·show 0<=(lcT F).op
  rcases hcase with hz|⟨he,hz⟩
  ·rw [hz];decide
  ·rw [hz];have:=hop _ (parseR_nf he).1;omega
 ·intro h
  have h':(!decide ((lcT F).op=0))=true:=h
  show Nf (lcT F)/\0<(lcT F).op
  rcases hcase with hz|⟨he,hz⟩
  ·rw [hz] at h';exact absurd h' (by decide)
  ·rw [hz];exact ⟨(parseR_nf he).1,hop _ (parseR_nf he).1⟩
theorem zTC_made:zTC.made:=by
 refine ⟨⟨fun h=>(by cases h),fun h=>(by cases h),trivial,trivial,by decide +kernel⟩,⟨fun h=>(by cases h),fun h=>(by cases h),trivial,fun t h=>(by cases h)⟩,by decide,by decide,fun h=>(by cases h)⟩
theorem TC.isF_op {c:TC} (h:0<=c.t.op):decide (0<c.t.op)=c.isF:=by
 unfold TC.isF
 by_cases h0:c.t.op=0
 ·rw [h0];rfl
 ·rw [decide_eq_true (show 0<c.t.op by omega),decide_eq_false h0];rfl
set_option maxHeartbeats 4000000 in
theorem TileWrites_any {σ:ASt} (hT:Tab σ) (hM:MaxL σ) (hU:U8 σ) (hV:LV σ) (l:List Md) (policy at':Int):ACalls Tryz.prog 4 [.sl .shr (l.map Md.av),.int .i64 policy,.int .i64 at'] σ fun v σ'=>v = .bool true/\σ'=σ:=by
 have hG:=lgrow_ok hU hV l
 have hTl:(grT l).length=32:=grN_len l 40
 have hTm:∀ c∈grT l,c.made:=grN_all zTC_made (fun m=>lcC_made _ _ _ _) l 40
 generalize grT l=T at *
 have ha:=atN_eq at'
 have halt:=atN_lt at'
 have hr1 : -32<at'.tmod 32:=Int.lt_tmod_of_pos at' (by decide)
 have hr2:at'.tmod 32<32:=Int.tmod_lt_of_pos _ (by decide)
 obtain ⟨rr,hrr⟩:∃ rr,at'.tmod 32=rr:=⟨_,rfl⟩
 rw [hrr] at ha hr1 hr2
 generalize atN at'=i at *
 obtain ⟨c,hc⟩:∃ c,T[i]? = some c:=⟨_,List.getElem?_eq_getElem (by omega)⟩
 obtain ⟨d,hd⟩:∃ d,T[0]? = some d:=⟨_,List.getElem?_eq_getElem (by omega)⟩
 have hcm:=hTm c (List.mem_of_getElem? hc)
 have hdm:=hTm d (List.mem_of_getElem? hd)
 have hxc:(T.map TC.rav)[i]? = some (.agg c.rcs):=by rw [List.getElem?_map,hc];exact congrArg some (TC.rav_rcs c)
 have hxd:(T.map TC.rav)[0]? = some (.agg d.rcs):=by rw [List.getElem?_map,hd];exact congrArg some (TC.rav_rcs d)
 have hcl:=TC.rcs_len c
 have hdl:=TC.rcs_len d
 have hct:c.rcs.take 15=c.rcs:=List.take_of_length_le (by omega)
 have hdt:d.rcs.take 15=d.rcs:=List.take_of_length_le (by omega)
 have hc0:c.rcs[0]? = some (.int .i64 c.t.op):=by obtain ⟨⟨op,n,s,a,b,ks⟩,v⟩:=c;rfl
 have hiop:=TC.isF_op hcm.op
 have hRC:=r20count_ok T (by omega)
 have hRL:=r20layout_ok T (by omega) policy
 have hRX:=r20text_ok c hcm.fine hcm.nf
 have hRE:=r20empty_ok c
 have hRS:=r20same_ok c d (by have:=hcm.size;omega) (by have:=hdm.size;omega)
 rw [TC.rav_rcs] at hRX hRE
 rw [TC.rav_rcs,TC.rav_rcs] at hRS
 have hRW:=fun (k:Int) (hk:1<=k/\k<=3)=>r20write_ok T hTl (fun c hc=>⟨(hTm c hc).wf,by have:=(hTm c hc).size;omega,(hTm c hc).op⟩) k hk
 generalize T.map TC.rav=RT at *
 have hTI:=tcIsFormula_ok c
 have hTE:=tcEmpty_ok c
 have hTS:=tilesame_ok c d (by have:=hcm.size;omega) (by have:=hdm.size;omega)
 rw [TC.av_cs] at hTI hTE
 rw [TC.av_cs,TC.av_cs] at hTS
 have hTX:=fun (τ:ASt) (h:Tab τ) (h2:MaxL τ)=>tcText_ok h h2 c hcm.fine
 rw [TC.av_cs] at hTX
 have hTC:=fun (τ:ASt) (p:Nat) (h:TileAt T p τ)=>tcount_ok h
 have hTL:=fun (τ:ASt) (p:Nat) (h:TileAt T p τ)=>tlayout_ok h policy
 have hTW:=fun (τ:ASt) (p:Nat) (h:TileAt T p τ) (k:Int) (hk:1<=k/\k<=3)=>twrite_ok h (fun c hc=>(hTm c hc).wf) k hk
 have hld:∀ (τ:ASt) (p:Nat),TileAt T p τ->objC (i*13) (some 13) (kn (τ p))=some (.agg c.cs):=fun τ p h=>by rw [<-TC.av_cs];exact h.cell i c hc
 have hld0:∀ (τ:ASt) (p:Nat),TileAt T p τ->objC 0 (some 13) (kn (τ p))=some (.agg d.cs):=fun τ p h=>by rw [<-TC.av_cs];exact h.cell 0 d hd
 have hTA:=fun (p:Nat)=>TileAt.of (σ:=σ.set p (some (.obj (tileCs T)))) (p:=p) hTl (ASt.set_same _ _ _)
 generalize c.cs=mcs at *
 generalize c.rcs=rcs at *
 generalize d.cs=mds at *
 generalize d.rcs=rds at *
 generalize c.t.op=op at *
 generalize c.isF=isf at *
 generalize c.empty=emp at *
 generalize c.text=tx at *
 generalize TC.same c d=sm at *
 generalize countT T=cnt at *
 generalize layT T policy=lay at *
 generalize tileB T=tb at *
 generalize tileCs T=CS at *
 clear hcm hdm hTm hc hd
 have hi0:(0:Int)<=(i:Int):=by omega
 have hi1:(i:Int)<32:=by omega
 have hbb:∀ x:Bool,(x==x)=true:=fun x=>by cases x<;>rfl
 refine a4 (by simp) ?_
 simp (disch:=first|assumption|omega|(simp only [List.length_append,List.length_cons,List.length_nil];omega)) only [go_sem]
 refine hG.mono ?_
 rintro v σ1 ⟨p,hp,rfl,rfl⟩
 have hTA:=hTA p
 have T2:=Tab.set (r:=some (.obj CS)) hT hp
 have M2:=MaxL.set (r:=some (.obj CS)) hM hp
 have U2:=U8.set (r:=some (.obj CS)) hU hp
 have dd:=Drop.set (r:=some (.obj CS)) hp
 generalize σ.set p (some (.obj CS))=σ2 at *
 have hld:=hld _ _ hTA
 have hld0:=hld0 _ _ hTA
 have hTC:=hTC _ _ hTA
 have hTL:=hTL _ _ hTA
 have hTW:=hTW _ _ hTA
 simp (disch:=first|assumption|omega|(simp only [List.length_append,List.length_cons,List.length_nil];omega)) only [go_sem,hrr,ha]
 refine (tlawake_ok T2 M2 U2).mono ?_
 rintro v σ3 ⟨rfl,rfl⟩
 simp (disch:=first|assumption|omega|(simp only [List.length_append,List.length_cons,List.length_nil];omega)) only [go_sem]
 refine hTC.mono ?_
 rintro v σ4 ⟨rfl,rfl⟩
 simp (disch:=first|assumption|omega|(simp only [List.length_append,List.length_cons,List.length_nil];omega)) only [go_sem]
 refine hRC.use ?_
 simp (disch:=first|assumption|omega|(simp only [List.length_append,List.length_cons,List.length_nil];omega)) only [go_sem,eq_self]
 refine hTL.mono ?_
 rintro v σ5 ⟨rfl,rfl⟩
 simp (disch:=first|assumption|omega|(simp only [List.length_append,List.length_cons,List.length_nil];omega)) only [go_sem]
 refine hRL.use ?_
 simp (disch:=first|assumption|omega|(simp only [List.length_append,List.length_cons,List.length_nil];omega)) only [go_sem,eq_self,hld,hxc,hcl,hct,Int.toNat_natCast,Nat.zero_add,List.drop_zero]
 refine (hTX _ T2 M2).mono ?_
 rintro v σ6 ⟨rfl,rfl⟩
 simp (disch:=first|assumption|omega|(simp only [List.length_append,List.length_cons,List.length_nil];omega)) only [go_sem,hcl,hct,List.drop_zero]
 refine hRX.use ?_
 simp (disch:=first|assumption|omega|(simp only [List.length_append,List.length_cons,List.length_nil];omega)) only [go_sem,eq_self,hld,hxc,hcl,hct,Int.toNat_natCast,Nat.zero_add,List.drop_zero]
 refine hTE.use ?_
 simp (disch:=first|assumption|omega|(simp only [List.length_append,List.length_cons,List.length_nil];omega)) only [go_sem,hcl,hct,List.drop_zero]
 refine hRE.use ?_
 simp (disch:=first|assumption|omega|(simp only [List.length_append,List.length_cons,List.length_nil];omega)) only [go_sem,eq_self,hbb,hld,hxc,hcl,hc0,hiop,Int.toNat_natCast,Nat.zero_add,List.drop_zero]
 refine hTI.use ?_
 obtain ⟨J,hJ⟩:∃ J:Nat->AFr->ASt->Prop,J=fun k a s2=>k<=3/\(a 2 = .int .i64 i/\a 7 = .ptr p 0/\a 8 = .sl .shr RT/\a 9 = .int .i64 ((k:Int)+1))/\s2=σ6:=⟨_,rfl⟩
 simp (disch:=first|assumption|omega|(simp only [List.length_append,List.length_cons,List.length_nil];omega)) only [go_sem,eq_self,hbb,hc0]
 refine wp_loop_on J (fun k=>3-k) 0 ?_ ?_
 ·rw [hJ]
  refine ⟨Nat.zero_le _,?_,rfl⟩
  simp (disch:=first|assumption|omega|(simp only [List.length_append,List.length_cons,List.length_nil];omega)) only [go_sem]
 intro k a1 s2 hjj
 rw [hJ] at hjj
 obtain ⟨hk3,hf,rfl⟩:=hjj
 by_cases hk:k<3
 ·have hk':(k:Int)+1<4:=by omega
  have h1:=hTW ((k:Int)+1) (by omega)
  have h2:=hRW ((k:Int)+1) (by omega)
  generalize tb ((k:Int)+1)=tx2 at *
  simp (disch:=first|assumption|omega|(simp only [List.length_append,List.length_cons,List.length_nil];omega)) only [go_sem,hf,hk']
  refine h1.mono ?_
  rintro v s3 ⟨rfl,rfl⟩
  simp (disch:=first|assumption|omega|(simp only [List.length_append,List.length_cons,List.length_nil];omega)) only [go_sem,hf]
  refine h2.use ?_
  simp (disch:=first|assumption|omega|(simp only [List.length_append,List.length_cons,List.length_nil];omega)) only [go_sem,hf,eq_self]
  refine ⟨k+1,by omega,?_⟩
  rw [hJ]
  refine ⟨by omega,?_,rfl⟩
  simp (disch:=first|assumption|omega|(simp only [List.length_append,List.length_cons,List.length_nil];omega)) only [go_sem,hf]
 ·have hk':¬ (k:Int)+1<4:=by omega
  simp (disch:=first|assumption|omega|(simp only [List.length_append,List.length_cons,List.length_nil];omega)) only [go_sem,hf,hk',hld,hld0,hxc,hxd,hcl,hdl,hct,hdt,Int.toNat_natCast,Nat.zero_add,Nat.zero_mul,List.drop_zero]
  refine hTS.use ?_
  simp (disch:=first|assumption|omega|(simp only [List.length_append,List.length_cons,List.length_nil];omega)) only [go_sem,hcl,hdl,hct,hdt,List.drop_zero]
  refine hRS.use ?_
  simp (disch:=first|assumption|omega|(simp only [List.length_append,List.length_cons,List.length_nil];omega)) only [go_sem,hbb]
  exact retC_by dd (.refl _) ⟨rfl,rfl⟩
end Go.A
namespace Go.Proofs.YtfnhdjigeedieaaGreatDoor
open Go Go.ChangeShapes Go.WideShapes Go.ChangeAt Go.RowKit Go.A Go.Lib Go.Shelf
theorem row_own:ownKnob Tryz.prog.godebug=none:=by kernel_rfl
theorem row_laid:laidOutB Tryz.prog=true:=by kernel_rfl
theorem first_eq:Rows.laid_unicode_utf8_first=firstData:=by kernel_rfl
theorem acc_eq:(Rows.laid_unicode_utf8_acceptRanges:DataW Unit)=acceptData:=by kernel_rfl
theorem u8_extra:U8Extra Tryz.prog Tryz.lays260_ren:=⟨by kernel_rfl,by kernel_rfl,by kernel_rfl,by kernel_rfl,by kernel_rfl,by kernel_rfl,by kernel_rfl⟩
theorem var_size {P:Program} {w:World} {n:String} {d:DataW Unit} (h:VarReads P w n d) {g:Nat} (hg:P.globalNamed n=some g) {t e:TypeId} {k:Nat} (hty:(P.globals[g]?).map (·.type)=some t) (ht:P.underlying t=some (.array k e)) :
  ∃ cs T fr,w.heap[g]? = some (.cells cs T fr)/\cs.size=P.cellsOf t:=by
 obtain ⟨g',t',cs,fuel,p,hg',hty',hvar,hd⟩:=h
 obtain rfl:=Option.some.inj (hg.symm.trans hg')
 obtain rfl:=Option.some.inj (hty.symm.trans hty')
 have hlen:cs.toList.length=P.cellsOf t:=by
  cases fuel with
  | zero=>simp [DataW.trod] at hd
  | succ fuel=>
    simp only [DataW.trod,ht] at hd
    split at hd
    ·assumption
    ·cases hd
 unfold World.var? at hvar
 rw [hg,Option.bind_some] at hvar
 split at hvar
 ·rename_i cs' T fr hheap
  injection hvar with hvar
  subst hvar
  exact ⟨_,_,_,hheap,by simpa using hlen⟩
 ·cases hvar
theorem ints_reps {σ:ASt} {w:World} {k:IntKind}:∀ zs:List Int,Reps σ w (zs.map (AV.int k)) (zs.map (Value.int k))
 | [] => .nil
 | z::zs => .cons (.int k z) (ints_reps zs)
theorem fix_ok {σ:ASt} {W:World} {b:Nat} {zs:List Int} (hs:σ b=some (.fix (zs.map (AV.int .u8)))) {cs:Array Value} {T:TypeId} {fr:Nat×Nat} (hh:W.heap[b]? = some (.cells cs T fr)) (hsz:cs.size=zs.length)
  (hc:∀ j z,zs[j]? = some z->W.cell? ⟨b,j,none⟩=some (.int .u8 z)):RoleOk σ W b (.fix (zs.map (AV.int .u8))):=by
 have hlt:b<W.heap.size:=(Array.getElem?_eq_some_iff.1 hh).1
 refine ⟨At.mk' (ints_reps _) (fun j _=>⟨hlt,.inr (.inl ⟨_,hs⟩)⟩) (fun j v hj=>?_),cs,T,fr,hh,by simpa using hsz⟩
 rw [List.getElem?_map] at hj
 obtain ⟨z,hz,rfl⟩:=Option.map_eq_some_iff.1 hj
 rw [Nat.zero_add]
 exact hc j z hz
def stOf:List (Nat×List AV)->ASt
 | [],_=>none
 | p::ps,b=>if b=p.1 then some (.fix p.2) else stOf ps b
theorem stOf_fix:∀ {ps:List (Nat×List AV)} {b:Nat} {r:Role},stOf ps b=some r->∃ l,r = .fix l
 | [],_,_,h=>by cases h
 | p::ps,b,r,h=>by
   simp only [stOf] at h
   split at h
   ·injection h with h;exact ⟨_,h.symm⟩
   ·exact stOf_fix h
theorem stOf_mem:∀ {ps:List (Nat×List AV)} {b:Nat} {r:Role},stOf ps b=some r->∃ l,(b,l)∈ps/\r = .fix l
 | [],_,_,h=>by cases h
 | p::ps,b,r,h=>by
   simp only [stOf] at h
   split at h
   ·rename_i hb
    injection h with h
    subst hb
    exact ⟨p.2,List.mem_cons_self,h.symm⟩
   ·obtain ⟨l,hl,he⟩:=stOf_mem h
    exact ⟨l,List.mem_cons_of_mem _ hl,he⟩
theorem still_fix {σ:ASt} (hfx:∀ b r,σ b=some r->∃ l,r = .fix l) {w:World} {b o:Nat} (h:b<w.heap.size):Still σ w b o:=by
 refine ⟨h,?_⟩
 cases hb:σ b with
 | none=>exact .inl rfl
 | some r=>obtain ⟨l,rfl⟩:=hfx b r hb;exact .inr (.inl ⟨_,rfl⟩)
end Go.Proofs.YtfnhdjigeedieaaGreatDoor
namespace Go.A
section
variable {σ:ASt} {w:World}
theorem Still.fixed (hfx:∀ b r,σ b=some r->∃ l,r = .fix l) {b o:Nat} (h:Still noRole w b o):Still σ w b o:=by
 refine ⟨h.1,?_⟩
 cases hb:σ b with
 | none=>exact .inl rfl
 | some r=>obtain ⟨l,rfl⟩:=hfx b r hb;exact .inr (.inl ⟨_,rfl⟩)
theorem Stands.fixed (hfx:∀ b r,σ b=some r->∃ l,r = .fix l) (b:Nat):Stands σ b:=by
 refine ⟨fun cs h=>?_,fun l p h=>?_,fun T cs h=>?_⟩<;>(obtain ⟨l,hl⟩:=hfx b _ h;cases hl)
theorem SK.ok_fixed (hfx:∀ b r,σ b=some r->∃ l,r = .fix l) {k:SK} {b o n c sz:Nat} (h:k.ok noRole w b o n c sz):k.ok σ w b o n c sz:=by
 cases k with
 | shr=>trivial
 | full=>exact h
 | tok t s T=>exact ⟨h.1,h.2.1,h.2.2.1,h.2.2.2.1,Stands.fixed hfx b⟩
mutual
theorem Rep.fixed (hfx:∀ b r,σ b=some r->∃ l,r = .fix l):∀ {a:AV} {v:Value},Rep noRole w a v->Rep σ w a v
 | _,_,.any v => .any v
 | _,_,.bool b => .bool b
 | _,_,.int k n => .int k n
 | _,_,.str l => .str l
 | _,_,.ptr b o => .ptr b o
 | _,_,.imm h1 => .imm (h1.fixed hfx)
 | _,_,.nilp => .nilp
 | _,_,.slE A c => .slE A c
 | _,_,.slN => .slN
 | _,_,.sl h1 h2 h3 h4 h5 => .sl (h1.fixed hfx) h2 h3 (SK.ok_fixed hfx h4) h5
 | _,_,.msl b o n c => .msl b o n c
 | _,_,.agg h1 => .agg (h1.fixed hfx)
 | _,_,.tuple h1 => .tuple (h1.fixed hfx)
 | _,_,.iface h1 => .iface (h1.fixed hfx)
 | _,_,.nili => .nili
 | _,_,.func h1 h2 => .func (h1.fixed hfx) (h2.fixed hfx)
 | _,_,.nilf => .nilf
theorem Reps.fixed (hfx:∀ b r,σ b=some r->∃ l,r = .fix l):∀ {avs:List AV} {vs:List Value},Reps noRole w avs vs->Reps σ w avs vs
 | _,_,.nil => .nil
 | _,_,.cons h1 h2 => .cons (h1.fixed hfx) (h2.fixed hfx)
theorem At.fixed (hfx:∀ b r,σ b=some r->∃ l,r = .fix l):∀ {b o:Nat} {avs:List AV},At noRole w b o avs->At σ w b o avs
 | _,_,_,.nil b o => .nil b o
 | _,_,_,.cons h1 h2 h3 h4 => .cons (h1.fixed hfx) h2 (h3.fixed hfx) (h4.fixed hfx)
theorem Row.fixed (hfx:∀ b r,σ b=some r->∃ l,r = .fix l):∀ {b o sz:Nat} {avs:List AV},Row noRole w b o sz avs->Row σ w b o sz avs
 | _,_,_,_,.nil b o sz => .nil b o sz
 | _,_,_,_,.cons h1 h2 h3 => .cons h1 (h2.fixed hfx) (h3.fixed hfx)
end
end
end Go.A
namespace Go.Proofs.YtfnhdjigeedieaaGreatDoor
open Go Go.ChangeShapes Go.WideShapes Go.ChangeAt Go.RowKit Go.A Go.Lib Go.Shelf
theorem u8_roles {σ : ASt} {W : World} (h3 : VarReads Tryz.prog W "unicode/utf8.first" firstData) (h4 : VarReads Tryz.prog W "unicode/utf8.acceptRanges" acceptData) :
  (σ 1=some (.fix (firstTab.map (AV.int .u8)))->RoleOk σ W 1 (.fix (firstTab.map (AV.int .u8))))/\(σ 2=some (.fix (accTab.map (AV.int .u8)))->RoleOk σ W 2 (.fix (accTab.map (AV.int .u8)))):=by
 have hT:=utf8Tabs_of_reads (ρ:=Tryz.lays260_ren) Tryz.lays260 u8_extra h3 h4
 obtain ⟨hT1,hT2⟩:=hT
 have hT1:∀ c,c<256->W.cell? ⟨1,c,none⟩=some (.int .u8 (firstT c)):=hT1
 have hT2:∀ i,i<16->W.cell? ⟨2,2*i,none⟩=some (.int .u8 (accLo i))/\W.cell? ⟨2,2*i+1,none⟩=some (.int .u8 (accHi i)):=hT2
 constructor
 ·intro hs
  obtain ⟨cs,T,fr,hh,hsz⟩:=var_size h3 (g:=1) (by kernel_rfl) u8_extra.y3 (Tryz.lays260.t119)
  refine fix_ok hs hh (hsz.trans (by kernel_rfl)) fun j z hj=>?_
  have hl:=(List.getElem?_eq_some_iff.1 hj).1
  simp only [firstTab,List.length_map,List.length_range] at hl
  simp only [firstTab,List.getElem?_map,List.getElem?_range hl,Option.map_some,Option.some.injEq] at hj
  subst hj
  exact hT1 j hl
 ·intro hs
  obtain ⟨cs,T,fr,hh,hsz⟩:=var_size h4 (g:=2) (by kernel_rfl) u8_extra.y4 (Tryz.lays260.t139)
  refine fix_ok hs hh (hsz.trans (by kernel_rfl)) fun j z hj=>?_
  have hl:=(List.getElem?_eq_some_iff.1 hj).1
  have key:∀ j,j<32->accTab[j]? = some (if j % 2=0 then (accLo (j / 2):Int) else accHi (j / 2)):=by decide
  have hl:j<32:=hl
  rw [key j hl] at hj
  injection hj with hj
  subst hj
  obtain ⟨g1,g2⟩:=hT2 (j / 2) (by omega)
  split
  ·rw [show 2*(j / 2)=j by omega] at g1;exact g1
  ·rw [show 2*(j / 2)+1=j by omega] at g2;exact g2
theorem pow_role {σ : ASt} {W : World} (hfx : ∀ b r, σ b = some r → ∃ l, r = .fix l) (h3 : VarReads Tryz.prog W "internal/strconv.uint64pow10" (Lib.tabData .u64 Lib.pow10Tab)) :
  RoleOk σ W 5 (.fix (Lib.pow10Tab.map (AV.int .u64))):=by
 obtain ⟨g',t',cs,fuel,p,hg',ht',hvar,hd⟩:=h3
 obtain rfl := Option.some.inj ((show Tryz.prog.globalNamed "internal/strconv.uint64pow10" = some 5 by kernel_rfl).symm.trans hg')
 obtain rfl:=Option.some.inj ((show (Tryz.prog.globals[5]?).map (·.type)=some 273 by kernel_rfl).symm.trans ht')
 have hcs:=cells_of_tab (n:=20) (e:=94) (k := .u64) (by kernel_rfl) (by kernel_rfl) (by kernel_rfl) (by kernel_rfl) hd
 unfold World.var? at hvar
 rw [show Tryz.prog.globalNamed "internal/strconv.uint64pow10" = some 5 by kernel_rfl, Option.bind_some] at hvar
 split at hvar
 ·rename_i cs' T fr hheap
  injection hvar with hvar
  have hlt:5<W.heap.size:=(Array.getElem?_eq_some_iff.1 hheap).1
  have he:cs'=(Lib.pow10Tab.map fun z=>Value.int .u64 z).toArray:=by rw [hvar];exact Array.ext' (by simpa using hcs)
  refine ⟨At.mk' (ints_reps _) (fun j _=>still_fix hfx hlt) (fun j v hj=>?_),cs',T,fr,hheap,by rw [he];simp⟩
  simp only [World.cell?,hheap,Nat.zero_add,he]
  simpa using hj
 ·cases hvar
end Go.Proofs.YtfnhdjigeedieaaGreatDoor
namespace Go.Proofs.YtfnhdjigeedieaaGreatDoor
open Go Go.ChangeShapes Go.WideShapes Go.ChangeAt Go.RowKit Go.A Go.Lib Go.Shelf
def vPs:List (Nat×List AV) := [(1,firstTab.map (AV.int .u8)),(2,accTab.map (AV.int .u8)),(5,Lib.pow10Tab.map (AV.int .u64))]
def vSt:ASt:=stOf vPs
end Go.Proofs.YtfnhdjigeedieaaGreatDoor
namespace Go
variable {H:Type} {enc:TypeId×Value->H}
theorem A.returnsInHanded_and_shaped {a:Assume} {C:Checked} {os:Os} {f:FuncId} {fn:Func} {s:ChangeSpec} {conds:List PathCond} {apart fresh handsOn again:Bool} {X:World->Array Value->Prop}
  (hX:∀ (w w':World) (args:Array Value),w.heap=w'.heap->X w args->X w' args)
  (own:ownKnob C.prog.godebug=none) (started:os.Started) (noInit:C.prog.inits.idxOf? f=none) (hfn:C.prog.funcs[f]? = some fn)
  (witness:∃ (w:World) (tape:Tape) (i:Input),w.os=os/\(w.forCall tape i).Shaped C.prog/\i.vars = []/\Input.okWide C.prog (w.forCall tape i) .any w.heap.size f i ∧
   ((s.pre enc C.prog fn conds apart (w.forCall tape i).memory i.args/\X (w.forCall tape i).memory i.args)/\sizedMet enc C.prog fn (OpenSpec.ofChange s) apart (w.forCall tape i).memory i.args)/\a.holds C.prog (lone (Frame.enter C.prog f i.args .normal) [] (w.forCall tape i)))
  (contract:∀ (W:World) (base:Nat) (args:Array Value) (ds gs:List (DataW H)) (before:List MemPlace),
   (∀ (j:Nat) t v,fn.params[j]? = some t->args[j]? = some v->Value.okWide C.prog W .any base t v) →
   DataW.Whole enc C.prog fn.params.toList s.vars apart W args.toList ds gs before →
   W.ShapedOpen C.prog->X W args →
   Calls C.prog f args W fun e W'=>∃ v,e = .returned v/\s.post enc C.prog fn apart fresh handsOn again W args v W') :
  ReturnsInHanded a C os f .any (fun w args=>(s.pre enc C.prog fn conds apart w args/\X w args)/\sizedMet enc C.prog fn (OpenSpec.ofChange s) apart w args) (s.post enc C.prog fn apart fresh handsOn again):=by
 refine returnsInHanded_of_calls own started noInit witness ?_
 intro w tape i _ hsh _ hok hpre hholds
 obtain ⟨_,_,_,fn',hfn',_,_,_,_,hval⟩:=hok
 have e:fn'=fn:=Option.some.inj (hfn'.symm.trans hfn)
 subst e
 obtain ⟨⟨⟨ds,gs,before,hw,hc⟩,hx⟩,hz⟩:=hpre
 have hw':=DataW.Whole.of_heap (w':=w.forCall tape i) (by rfl) hw
 refine (contract (w.forCall tape i) w.heap.size i.args ds gs before hval hw' hsh (hX _ _ _ (by rfl) hx)).mono fun e W' ⟨v,he,hp⟩=>?_
 subst he
 exact ChangeSpec.post_blind hp
end Go
namespace Go.Proofs.YtfnhdjigeedieaaGreatDoor
open Go Go.ChangeShapes Go.WideShapes Go.ChangeAt Go.RowKit Go.A Go.Lib Go.Shelf
def wSt (m:Int):ASt:=fun b=>if b=4 then some (.fix ([m].map (AV.int .i64))) else vSt b
theorem wSt_fix {m:Int} {b:Nat} {r:Role} (h:wSt m b=some r):∃ l,r = .fix l:=by
 unfold wSt at h
 split at h
 ·injection h with h;exact ⟨_,h.symm⟩
 ·exact stOf_fix h
end Go.Proofs.YtfnhdjigeedieaaGreatDoor
namespace Go.Proofs.YtfnhdjigeedieaaGreatDoor
open Go Go.ChangeShapes Go.WideShapes Go.ChangeAt Go.RowKit Go.A Go.Lib Go.Shelf
theorem strs_trod {H:Type} {enc:TypeId×Value->H} {P:Program} {w:World} {base:Nat} {spare:Nat->Bool} {held:Bool} {fuel:Nat} {t e:TypeId} {cs:List Value} {l:List (List UInt8)} {m:List MemPlace}
  (ht:P.underlying t=some (.slice e)) (he:P.underlying e=some .string) (hc:P.cellsOf e=1) (hl:0<l.length)
  (hd:DataW.trod enc P w base spare held fuel t cs=some (.slice (l.map fun s => .lit (.string s)) [],m)) :
  ∃ R o cap,cs = [.slice (some ⟨R,o,none⟩) l.length cap]/\l.length<=cap/\∀ j s,l[j]? = some s->w.cell? ⟨R,o+j,none⟩=some (.string ⟨⟨s⟩⟩):=by
 rcases DataW.trod_slice ht hd with ⟨_,hx⟩|⟨a,len,cap,el,rs,k,rfl,hcs,hx,_,hlc,_,hel,helem,hsp,_⟩
 ·cases hx
 have e0:=congrArg Prod.fst hx
 simp only [DataW.slice.injEq] at e0
 obtain ⟨eE,eR⟩:=e0
 have hlen:len=l.length:=by
  have:=congrArg List.length eE
  simp at this
  omega
 have hcell:∀ i z,l[i]? = some z->w.cell? (a.add i)=some (.string ⟨⟨z⟩⟩):=by
  intro i z hiz
  have hi:i<l.length:=(List.getElem?_eq_some_iff.1 hiz).1
  have h1:=helem i (by omega)
  rw [hc] at h1
  obtain ⟨b, hb⟩ : ∃ b, el[i]? = some b := ⟨el[i]'(by omega), List.getElem?_eq_getElem (by omega)⟩
  rw [hb] at h1
  obtain ⟨ce,hce,hte⟩:=Option.bind_eq_some_iff.1 h1
  obtain ⟨z',hz,hbz,_⟩:=DataW.trod_string he hte
  have hb1:b.1 = .lit (.string z):=by
   have:=congrArg (·[i]?) eE
   simp only [List.getElem?_map,hiz,hb,Option.map_some,Option.some.injEq] at this
   exact this.symm
  rw [hbz] at hb1
  simp only [DataW.lit.injEq,Lit.string.injEq] at hb1
  obtain ⟨_,_,hcc⟩:=World.cells?_some hce
  have:=hcc 0 (by omega)
  rw [hz] at this
  simp only [Nat.mul_one] at this
  have e1:(a.add i).add 0=a.add i:=by simp [Addr.add]
  rw [e1] at this
  rw [this,← hb1]
  rfl
 obtain ⟨z0,hz0⟩:∃ z,l[0]? = some z:=⟨l[0],List.getElem?_eq_getElem hl⟩
 obtain ⟨R,o,sR⟩:=a
 obtain rfl:sR=none:=by
  have h00:=hcell 0 z0 hz0
  have:(Addr.add ⟨R,o,sR⟩ 0)=⟨R,o,sR⟩:=by simp [Addr.add]
  rw [this] at h00
  exact Go.Proofs.cell_spot h00
 exact ⟨R,o,cap,by rw [hcs,hlen],by omega,fun j s hj=>by have:=hcell j s hj;rwa [Addr.add_lit] at this⟩
theorem block_lt {w:World} {R o:Nat} {s:Option Nat} {v:Value} (h:w.cell? ⟨R,o,none⟩=some v):R<w.heap.size:=by
 refine Nat.lt_of_not_le fun hge=>?_
 simp [World.cell?,Array.getElem?_eq_none hge] at h
theorem strs_row {σ:ASt} {w:World} {b:Nat} (hst:∀ o,Still σ w b o):∀ (zs:List (List UInt8)) (o:Nat),(∀ j z,zs[j]? = some z->w.cell? ⟨b,o+j,none⟩=some (.string ⟨⟨z⟩⟩))->Row σ w b o 1 (zs.map AV.str)
 | [],o,_ => .nil _ _ _
 | z::zs,o,h => .cons rfl (.cons (hst o) (h 0 z rfl) (.str z) (.nil _ _)) (strs_row hst zs (o+1) fun j z' hj=>by
   have:=h (j+1) z' (by simpa using hj)
   rwa [show o+(j+1)=o+1+j by omega] at this)
theorem strss_row {σ:ASt} {w:World} {b:Nat} (hst:∀ o,Still σ w b o):∀ (zs:List (List (List UInt8))) (o:Nat),
  (∀ j z,zs[j]? = some z->∃ v,w.cell? ⟨b,o+j,none⟩=some v/\Rep σ w (.sl .shr (z.map AV.str)) v)->Row σ w b o 1 (zs.map fun l=>AV.sl .shr (l.map AV.str))
 | [],o,_ => .nil _ _ _
 | z::zs,o,h=>by
   obtain ⟨v,hv,hr⟩:=h 0 z rfl
   exact .cons rfl (.cons (hst o) hv hr (.nil _ _)) (strss_row hst zs (o+1) fun j z' hj=>by
    have:=h (j+1) z' (by simpa using hj)
    rwa [show o+(j+1)=o+1+j by omega] at this)
theorem levels_role {σ : ASt} {W : World} (hfx : ∀ b r, σ b = some r → ∃ l, r = .fix l) (h : VarReads Tryz.prog W "tabular/parse.levels" (.slice (levelsL.map fun l => .slice (l.map fun s => .lit (.string s)) []) [])) :
  RoleOk σ W 0 (.fix [lvAV]):=by
 obtain ⟨g',t',cs,fuel,p,hg,hty,hvar,hd⟩:=h
 obtain rfl := Option.some.inj ((show Tryz.prog.globalNamed "tabular/parse.levels" = some 0 by kernel_rfl).symm.trans hg)
 obtain rfl:=Option.some.inj ((show (Tryz.prog.globals[0]?).map (·.type)=some 186 by kernel_rfl).symm.trans hty)
 have ht:Tryz.prog.underlying 186=some (.slice 72):=by kernel_rfl
 have ht2:Tryz.prog.underlying 72=some (.slice 9):=by kernel_rfl
 have he:Tryz.prog.underlying 9=some .string:=by kernel_rfl
 have hc:Tryz.prog.cellsOf 72=1:=by kernel_rfl
 have hc2:Tryz.prog.cellsOf 9=1:=by kernel_rfl
 have hpos:∀ (j:Nat) (z:List (List UInt8)),levelsL[j]? = some z->0<z.length:=by
  intro j z hj
  match j,hj with
  | 0,hj|1,hj|2,hj|3,hj|4,hj=>injection hj with hj;subst hj;decide
 rcases DataW.trod_slice ht hd with ⟨_,hx⟩|⟨a,len,cap,el,rs,k,rfl,hcs,hx,_,hlc,_,hel,helem,hsp,_⟩
 ·cases hx
 have e0:=congrArg Prod.fst hx
 simp only [DataW.slice.injEq] at e0
 obtain ⟨eE,eR⟩:=e0
 have hlen:len=levelsL.length:=by
  have:=congrArg List.length eE
  simp at this
  omega
 have hcell:∀ i z,levelsL[i]? = some z->∃ v,W.cell? (a.add i)=some v/\Rep σ W (.sl .shr (z.map AV.str)) v:=by
  intro i z hiz
  have hi:i<levelsL.length:=(List.getElem?_eq_some_iff.1 hiz).1
  have h1:=helem i (by omega)
  rw [hc] at h1
  obtain ⟨b, hb⟩ : ∃ b, el[i]? = some b := ⟨el[i]'(by omega), List.getElem?_eq_getElem (by omega)⟩
  rw [hb] at h1
  obtain ⟨ce,hce,hte⟩:=Option.bind_eq_some_iff.1 h1
  have hb1:b.1 = .slice (z.map fun s => .lit (.string s)) []:=by
   have:=congrArg (·[i]?) eE
   simp only [List.getElem?_map,hiz,hb,Option.map_some,Option.some.injEq] at this
   exact this.symm
  obtain ⟨b1,b2⟩:=b
  dsimp only at hb1
  subst hb1
  obtain ⟨R,o,cap',rfl,hle,hcells⟩:=strs_trod ht2 he hc2 (hpos i z hiz) hte
  obtain ⟨_,_,hcc⟩:=World.cells?_some hce
  have:=hcc 0 (by omega)
  simp only [Nat.mul_one] at this
  have e1:(a.add i).add 0=a.add i:=by simp [Addr.add]
  rw [e1] at this
  obtain ⟨z0, hz0⟩ : ∃ z0, z[0]? = some z0 := ⟨z[0]'(hpos i z hiz), List.getElem?_eq_getElem (hpos i z hiz)⟩
  have hR:=block_lt (s:=none) (hcells 0 z0 hz0)
  exact ⟨_,this,.sl (sz:=1) (strs_row (fun o=>still_fix hfx hR) z o hcells) (by simp) hle trivial hR⟩
 obtain ⟨R,o,sR⟩:=a
 obtain ⟨v0,h00,_⟩:=hcell 0 [[61],[60,62],[60],[60,61],[62],[62,61]] rfl
 obtain rfl:sR=none:=by
  have:(Addr.add ⟨R,o,sR⟩ 0)=⟨R,o,sR⟩:=by simp [Addr.add]
  rw [this] at h00
  exact Go.Proofs.cell_spot h00
 have hR:R<W.heap.size:=by
  have:(Addr.add ⟨R,o,none⟩ 0)=⟨R,o,none⟩:=by simp [Addr.add]
  rw [this] at h00
  exact block_lt (s:=none) h00
 have hrow:=strss_row (fun o=>still_fix hfx hR) levelsL o fun j z hj=>by
  obtain ⟨v,hv,hr⟩:=hcell j z hj
  rw [Addr.add_lit] at hv
  exact ⟨v,hv,hr⟩
 unfold World.var? at hvar
 rw [hg,Option.bind_some] at hvar
 split at hvar
 ·rename_i cs' T fr hheap
  injection hvar with hvar
  subst hvar
  have hcs2:cs' = #[.slice (some ⟨R,o,none⟩) levelsL.length cap]:=by
   rw [<-hlen]
   exact Array.ext' (by simpa using hcs)
  subst hcs2
  have hlt:0<W.heap.size:=(Array.getElem?_eq_some_iff.1 hheap).1
  have hce:W.cell? ⟨0,0,none⟩=some (.slice (some ⟨R,o,none⟩) levelsL.length cap):=by simp [World.cell?,hheap]
  have hrep:Rep σ W lvAV (.slice (some ⟨R,o,none⟩) levelsL.length cap) := .sl (sz:=1) hrow (by simp) (by omega) trivial hR
  exact ⟨.cons (still_fix hfx hlt) hce hrep (.nil _ _),_,T,fr,hheap,rfl⟩
 ·cases hvar
def laidX : List (String × DataW Unit) := [("math/bits.deBruijn32tab", Rows.laid_math_bits_deBruijn32tab), ("math/bits.deBruijn64tab", Rows.laid_math_bits_deBruijn64tab), ("internal/strconv.uint64pow10", Rows.laid_internal_strconv_uint64pow10), ("unicode/utf8.acceptRanges", Rows.laid_unicode_utf8_acceptRanges), ("tabular/parse.levels", Rows.laid_tabular_parse_levels), ("unicode/utf8.first", Rows.laid_unicode_utf8_first)]
def xSt (m:Int):ASt:=fun b=>if b=0 then some (.fix [lvAV]) else wSt m b
theorem xSt_u8 (m:Int):U8 (xSt m):=⟨by simp [xSt,wSt,vSt,vPs,stOf],by simp [xSt,wSt,vSt,vPs,stOf]⟩
theorem xSt_tab (m:Int):Tab (xSt m):=by simp [Tab,xSt,wSt,vSt,vPs,stOf]
theorem xSt_max (m:Int):MaxL (xSt m):=⟨m,by simp [xSt,wSt]⟩
theorem xSt_lv (m:Int):LV (xSt m):=by simp [LV,xSt]
theorem xSt_fix {m:Int} {b:Nat} {r:Role} (h:xSt m b=some r):∃ l,r = .fix l:=by
 unfold xSt at h
 split at h
 ·injection h with h;exact ⟨_,h.symm⟩
 ·exact wSt_fix h
theorem x_sim {W:World} (hsh:W.ShapedOpen Tryz.prog) (h:laidMetH Tryz.prog laidX W):∃ m,Sim (xSt m) W:=by
 rw [MakeChecks.laidMetH_plain _ _ _ (by kernel_rfl)] at h
 have hp : VarReads Tryz.prog W "internal/strconv.uint64pow10" (Lib.tabData .u64 Lib.pow10Tab) := Lib.laidMet.reads h (.tail _ (.tail _ (.head _)))
 have h4 : VarReads Tryz.prog W "unicode/utf8.acceptRanges" acceptData := acc_eq ▸ Lib.laidMet.reads h (.tail _ (.tail _ (.tail _ (.head _))))
 have h5 : VarReads Tryz.prog W "tabular/parse.levels" (.slice (levelsL.map fun l => .slice (l.map fun s => .lit (.string s)) []) []) := Lib.laidMet.reads h (.tail _ (.tail _ (.tail _ (.tail _ (.head _)))))
 have h3 : VarReads Tryz.prog W "unicode/utf8.first" firstData := first_eq ▸ Lib.laidMet.reads h (.tail _ (.tail _ (.tail _ (.tail _ (.tail _ (.head _))))))
 obtain ⟨m,hm⟩:=Go.Proofs.cell_of_shapedOpen_int (g:=4) (zero := #[.int .i64 0]) (t:=3) hsh (of_decide_eq_true (by kernel_rfl)) (by kernel_rfl) rfl (by kernel_rfl) (by kernel_rfl) Tryz.underlying3
 have hm:W.cell? ⟨4,0,none⟩=some (.int .i64 m):=hm
 obtain ⟨cs,hh,hsz,_⟩:=hsh.1 4 #[.int .i64 0] 3 (of_decide_eq_true (by kernel_rfl)) (by kernel_rfl)
 obtain ⟨r1,r2⟩:=u8_roles (σ:=xSt m) h3 h4
 refine ⟨m,fun b r hb=>?_⟩
 have hb0:=hb
 unfold xSt at hb
 split at hb
 ·rename_i hbb
  subst hbb
  injection hb with hb
  subst hb
  exact levels_role (fun _ _=>xSt_fix) h5
 unfold wSt at hb
 split at hb
 ·rename_i hbb
  subst hbb
  injection hb with hb
  subst hb
  have hlt:4<W.heap.size:=(Array.getElem?_eq_some_iff.1 hh).1
  refine ⟨At.mk' (ints_reps _) (fun j _=>⟨hlt,.inr (.inl ⟨_,hb0⟩)⟩) (fun j v hj=>?_),cs,_,_,hh,hsz⟩
  match j,hj with
  | 0,hj=>injection hj with hj;subst hj;exact hm
 ·obtain ⟨l,hl,rfl⟩:=stOf_mem hb
  simp only [vPs,List.mem_cons,List.not_mem_nil,or_false,Prod.mk.injEq] at hl
  rcases hl with ⟨rfl,rfl⟩|⟨rfl,rfl⟩|⟨rfl,rfl⟩
  ·exact r1 (xSt_u8 m).1
  ·exact r2 (xSt_u8 m).2
  ·exact pow_role (fun _ _=>xSt_fix) hp
theorem calls_x {m:Int} {f:FuncId} {args:List AV} {vs:List Value} {w:World} (h:ACalls Tryz.prog f args (xSt m) fun r σ'=>r = .bool true/\σ'=xSt m) (hs:Sim (xSt m) w) (hr:Reps (xSt m) w args vs) :
  Calls Tryz.prog f ⟨vs⟩ w fun e w'=>e = .returned (.bool true)/\Ext w w':=
 (h w vs hs hr).mono fun e w' ⟨u,r,σ',he,⟨hrt,hst⟩,hle,_,hrep⟩=>by
  subst hrt hst
  cases hrep
  refine ⟨he,Ext.of_below ⟨hle.os,hle.tape,hle.output,hle.size,fun k hk=>?_⟩⟩
  cases hn:xSt m k with
  | none=>exact (hle.keep k hk hn).2
  | some r=>
    obtain ⟨l,rfl⟩:=xSt_fix hn
    exact (hle.fix k _ hk hn).2
end Go.Proofs.YtfnhdjigeedieaaGreatDoor
end
