/- Part 11 of what TileBack leans on: Sza CodeOm Om On CodeOp Op Vl CodeOr Or Os Ou CodeOv Ov Ms Mv Mw Mx. -/
import Derived.Test.YtfnhdjigeedieaaGreatDoorProg
import Derived.KernelRfl
import Derived.Test.YtfnhdjigeedieaaGreatDoorRows
import Derived.ProofKit
import Derived.LaidMore
import Derived.OpenShut
import Derived.Stop.LaidErr
import Derived.MakeChecks
import Derived.SevenTiedAt
import Derived.Lay
import Derived.ChangeArms
import Derived.Lib.LaidU8
import Derived.Lib.LaidTab
import Derived.Shelf.Vars
import Derived.HandedShaped
import Derived.Test.YtfnhdjigeedieaaGreatDoorZTileBackj
set_option linter.defProp false
set_option linter.unusedSimpArgs false
set_option linter.unusedVariables false
set_option maxRecDepth 100000
namespace Go.A
open Go.Proofs Go.Lib
mutual
def Nd.strs (B:Nat):Nd->Prop
 | .mk _ _ s _ _ ks=>s.length<=B/\Nd.strss B ks
def Nd.strss (B:Nat):List Nd->Prop
 | []=>True
 | x::xs=>x.strs B/\Nd.strss B xs
end
theorem Nd.strss_mem {B:Nat}:∀ {l:List Nd},Nd.strss B l↔∀ x∈l,x.strs B
 | []=>by simp [Nd.strss]
 | y::l=>by rw [Nd.strss,Nd.strss_mem (l:=l)];simp
section
variable {T:List Tok} {B:Nat}
structure StrF (T:List Tok) (B:Nat) (f:Nat):Prop where
 betw:∀ lvl s r,betwP T f lvl s=some r->r.1.strs B
 loop:∀ lvl n s r,loopP T f lvl n s=some r->n.strs B->r.1.strs B
 signed:∀ s r,signedP T f s=some r->r.1.strs B
 hundred:∀ s r,hundredP T f s=some r->r.1.strs B
 hloop:∀ n s r,hloopP T f n s=some r->n.strs B->r.1.strs B
 prim:∀ s r,primP T f s=some r->r.1.strs B
 name:∀ s r,nameP T f s=some r->r.1.strs B
 args:∀ s r,argsP T f s=some r->Nd.strss B r.1
 aloop:∀ l s r,aloopP T f l s=some r->Nd.strss B l->Nd.strss B r.1
theorem strs_leaf (op n:Int) (a b:Ref):(Nd.mk op n [] a b []).strs B:=by
 rw [Nd.strs,Nd.strss]
 exact ⟨Nat.zero_le _,trivial⟩
theorem strF (hB:∀ s,(curT T s).text.length<=B):∀ f,StrF T B f
 | 0=>by
   constructor
   all_goals intros
   all_goals first
    | (rename_i h;simp only [betwP,signedP,hundredP,primP,nameP,argsP,reduceCtorEq] at h)
    | (rename_i h _;simp only [loopP,hloopP,aloopP,reduceCtorEq] at h)
 | f+1=>by
   have ih:=strF hB f
   have hz:zN.strs B:=strs_leaf _ _ _ _
   constructor
   ·intro lvl s r h
    rw [betwP] at h
    split at h
    ·exact ih.signed s r h
    ·split at h
     ·cases h
     ·rename_i r1 h1
      exact ih.loop _ _ _ _ h (ih.betw _ _ _ h1)
   ·intro lvl n s r h hn
    rw [loopP] at h
    split at h
    ·split at h
     ·cases h
     ·rename_i r1 h1
      refine ih.loop _ _ _ _ h ?_
      rw [Nd.strs,Nd.strss,Nd.strss,Nd.strss]
      exact ⟨Nat.zero_le _,hn,ih.betw _ _ _ h1,trivial⟩
    ·injection h with h;subst h;exact hn
   ·intro s r h
    rw [signedP] at h
    split at h
    ·split at h
     ·cases h
     ·rename_i r1 h1
      injection h with h;subst h
      dsimp only
      rw [Nd.strs,Nd.strss,Nd.strss]
      exact ⟨Nat.zero_le _,ih.signed _ _ h1,trivial⟩
    split at h
    ·split at h
     ·cases h
     ·rename_i r1 h1
      injection h with h;subst h
      dsimp only
      rw [Nd.strs,Nd.strss,Nd.strss]
      exact ⟨Nat.zero_le _,ih.signed _ _ h1,trivial⟩
    ·exact ih.hundred _ _ h
   ·intro s r h
    rw [hundredP] at h
    split at h
    ·cases h
    ·rename_i r1 h1
     exact ih.hloop _ _ _ h (ih.prim _ _ h1)
   ·intro n s r h hn
    rw [hloopP] at h
    split at h
    ·refine ih.hloop _ _ _ h ?_
     rw [Nd.strs,Nd.strss,Nd.strss]
     exact ⟨Nat.zero_le _,hn,trivial⟩
    ·injection h with h;subst h;exact hn
   ·intro s r h
    rw [primP] at h
    split at h
    ·split at h
     ·injection h with h;subst h;exact hz
     ·injection h with h;subst h;exact strs_leaf _ _ _ _
    split at h
    ·injection h with h;subst h
     dsimp only
     rw [Nd.strs,Nd.strss]
     exact ⟨hB s,trivial⟩
    split at h
    ·injection h with h;subst h;exact strs_leaf _ _ _ _
    split at h
    ·injection h with h;subst h
     unfold areaP
     split
     ·exact strs_leaf _ _ _ _
     ·split
      ·first|exact hz|exact strs_leaf _ _ _ _
      ·exact strs_leaf _ _ _ _
    split at h
    ·exact ih.name _ _ h
    split at h
    ·split at h
     ·cases h
     ·rename_i r1 h1
      injection h with h;subst h
      exact (ih.betw _ _ r1 h1:r1.1.strs B)
    ·injection h with h;subst h;exact hz
   ·intro s r h
    rw [nameP] at h
    split at h
    ·split at h
     ·injection h with h;subst h;exact hz
     ·split at h
      ·cases h
      ·rename_i r1 h1
       injection h with h;subst h
       dsimp only
       rw [Nd.strs]
       exact ⟨hB s,ih.args _ _ h1⟩
    split at h
    ·injection h with h;subst h;exact strs_leaf _ _ _ _
    split at h
    ·injection h with h;subst h;exact strs_leaf _ _ _ _
    ·injection h with h;subst h;exact hz
   ·intro s r h
    rw [argsP] at h
    split at h
    ·injection h with h;subst h;rw [Nd.strss];trivial
    ·exact ih.aloop _ _ _ h (by rw [Nd.strss];trivial)
   ·intro l s r h hl
    rw [aloopP] at h
    split at h
    ·injection h with h;subst h;exact hl
    ·split at h
     ·cases h
     ·rename_i r1 h1
      have key:r1.1.strs B:=by
       split at h1
       ·injection h1 with h1;subst h1;exact strs_leaf _ _ _ _
       ·exact ih.betw _ _ _ h1
      have hmem:Nd.strss B (l ++ [r1.1]):=by
       rw [Nd.strss_mem] at hl ⊢
       intro x hx
       rcases List.mem_append.1 hx with hx|hx
       ·exact hl x hx
       ·simp at hx;subst hx;exact key
      split at h
      ·exact ih.aloop _ _ _ h hmem
      ·injection h with h;subst h;exact hmem
end
theorem stepP_len (r:List UInt8) {kd:Int} {t:List UInt8} {n:Nat} (h:stepP r = .tok kd t n):t.length<=4*r.length+8:=by
 unfold stepP at h
 dsimp only at h
 split at h
 ·simp at h
 split at h
 ·simp at h
 split at h
 ·unfold wordsS at h
  dsimp only at h
  have hw:(r.take (runL wordB r)).length<=r.length:=by rw [List.length_take];omega
  split at h
  ·simp only [Step.tok.injEq] at h
   obtain ⟨rfl,rfl,rfl⟩:=h
   omega
  split at h
  ·simp only [Step.tok.injEq] at h
   obtain ⟨rfl,rfl,rfl⟩:=h
   rw [greatP_len];omega
  split at h
  ·simp only [Step.tok.injEq] at h
   obtain ⟨rfl,rfl,rfl⟩:=h
   rw [greatP_len];omega
  ·simp at h
 split at h
 ·obtain ⟨rfl,h2⟩:=quotedF_len _ _ _ _ _ _ _ h
  rw [List.length_drop] at h2
  simp only [List.length_nil] at h2
  omega
 split at h
 ·obtain ⟨rfl,h2⟩:=failS_gd _ _ _ _ _ h
  have hq:∀ x∈errTexts,x.length<=8:=by decide
  have:=hq t h2
  omega
 ·unfold opS at h
  split at h
  ·simp only [Step.tok.injEq] at h
   obtain ⟨rfl,rfl,rfl⟩:=h
   have:=alikeP_len ((decodeL r).1:Int)
   omega
  ·split at h
   ·rename_i e he
    simp only [Step.tok.injEq] at h
    obtain ⟨rfl,rfl,rfl⟩:=h
    have:=twos_len e (twoS_fits r _ _ he).1
    omega
   ·split at h
    ·simp only [Step.tok.injEq] at h
     obtain ⟨rfl,rfl,rfl⟩:=h
     rw [List.length_take];omega
    ·simp at h
theorem lexF_len {B:Nat}:∀ (k:Nat) (r:List UInt8) (a c:Nat) (acc L:List Tok) (x:Nat),4*r.length+8<=B->lexF k r a c acc=(L,x,0)->(∀ t∈acc,t.text.length<=B)->(∀ t∈L,t.text.length<=B)/\L.length<=acc.length+r.length+1
 | 0,r,a,c,acc,L,x,hr,h,hacc=>by simp [lexF] at h
 | k+1,r,a,c,acc,L,x,hr,h,hacc=>by
   rw [lexF] at h
   split at h
   ·simp only [Prod.mk.injEq] at h
    obtain ⟨rfl,_⟩:=h
    refine ⟨fun t ht=>?_,by rw [List.length_append,List.length_singleton];omega⟩
    rcases List.mem_append.1 ht with ht|ht
    ·exact hacc t ht
    ·simp at ht;subst ht;exact Nat.zero_le _
   ·rename_i hne
    have hpos:=List.length_pos_iff.2 hne
    split at h
    ·simp at h
    ·have:=lexF_len (B:=B) k _ _ _ _ _ _ (by rw [List.length_drop];omega) h hacc
     rw [List.length_drop] at this
     exact ⟨this.1,by omega⟩
    ·rename_i kd t n hst
     obtain ⟨f1,f2⟩:=(stepP_fits r hne).2 kd t n hst
     have:=lexF_len (B:=B) k _ _ _ _ _ _ (by rw [List.length_drop];omega) h (fun u hu=>by
      rcases List.mem_append.1 hu with hu|hu
      ·exact hacc u hu
      ·simp at hu;subst hu;have h9:=stepP_len r hst;exact Nat.le_trans h9 hr)
     rw [List.length_drop,List.length_append,List.length_singleton] at this
     exact ⟨this.1,by omega⟩
theorem lexP_len {s:List UInt8} (h:(lexP s).2.2=0):(∀ t∈(lexP s).1,t.text.length<=4*s.length+8)/\(lexP s).1.length<=s.length+1:=by
 unfold lexP at h ⊢
 split
 ·rename_i hl;rw [if_pos hl] at h;cases h
 ·rename_i hl
  rw [if_neg hl] at h
  obtain ⟨R,hR⟩:∃ R,lexF (s.length+1) s 0 0 []=R:=⟨_,rfl⟩
  rw [hR] at h ⊢
  obtain ⟨L,x,e⟩:=R
  dsimp only at h ⊢
  subst h
  have:=lexF_len (B:=4*s.length+8) _ _ _ _ _ _ _ (Nat.le_refl _) hR (by simp)
  exact ⟨this.1,by simpa using this.2⟩
theorem parseR_small {s:List UInt8} (h:(parseR s).2.2=0):(parseR s).1.strs (4*s.length+8)/\(parseR s).1.size<=2*s.length+2:=by
 unfold parseR parseT at h ⊢
 by_cases h1:(lexP s).2.2=0
 ·obtain ⟨hT,hL,hG⟩:=lex_toks h1
  obtain ⟨hl1,hl2⟩:=lexP_len h1
  obtain ⟨r,hr⟩:=betw_some h1
  have hr':=hr
  unfold st0 at hr
  rw [if_neg (by simp [h1]),hr] at h ⊢
  dsimp only at h ⊢
  have W:=(wentF hT.ends _).betw _ _ _ hr' (st0_fit hT.ends)
  obtain ⟨q,hq⟩:∃ q,(if (curT (lexP s).1 r.2).kind≠0 then failP (lexP s).1 r.2 10 else r.2)=q:=⟨_,rfl⟩
  rw [hq] at h ⊢
  by_cases he:q.err≠0
  ·rw [if_pos he] at h
   exact absurd h he
  ·rw [if_neg he]
   have h0:r.2.err=0:=by
    split at hq
    ·subst hq
     exact absurd (by simpa using he) fun h=>fail_err (T:=(lexP s).1) (s:=r.2) (e:=10) (by decide) h
    ·subst hq
     simpa using he
   obtain ⟨g1,g2⟩:=(goodF hT.ends hG (by omega) _).betw _ _ _ hr' (st0_fit hT.ends) h0
   have:=W.fit.i
   have hB:∀ p,(curT (lexP s).1 p).text.length<=4*s.length+8:=fun p=>by
    unfold curT
    split
    ·exact Nat.zero_le _
    ·rw [List.getD_eq_getElem?_getD]
     cases hx:(lexP s).1[p.i]? with
     | none=>exact Nat.zero_le _
     | some t=>exact hl1 t (List.mem_of_getElem? hx)
   refine ⟨(strF hB _).betw _ _ _ hr',?_⟩
   show r.1.size<=_
   omega
 ·rw [if_pos (by simpa using h1)] at h
  exact absurd h h1
theorem kt_of {t:Tok} {k:Int} {x:List UInt8} (h:kt t=(k,x)):t.kind=k/\t.text=x:=by
 unfold kt at h
 injection h with h1 h2
 exact ⟨h1,h2⟩
theorem name_alone {s:List UInt8} (h:NameOk s) (hl:s.length<=2000):nameOkP s=true:=by
 have h1:=lx_name h [] (fun c t e=>by cases e)
 rw [List.append_nil,relP_nil] at h1
 unfold nameOkP
 rw [lexP_rel hl]
 generalize relP s=R at *
 cases R with
 | inl j=>simp [kts] at h1
 | inr x=>
   obtain ⟨ts,m⟩:=x
   simp only [kts,List.map_nil,Option.map_some,List.append_nil,Option.some.injEq] at h1
   match ts,h1 with
   | [],h1=>cases h1
   | t::u::l,h1=>simp at h1
   | [t],h1=>
     injection h1 with h1
     obtain ⟨k1,k2⟩:=kt_of h1
     simp [endOf,k1,k2,Tok.sh]
theorem gdN_num {n:Int} (h0:0<=n) (h1:n<=999999999999999999):GdN 1 n [] .zero .zero 0 where
 op1:=by decide
 op2:=by decide
 n1:=fun _=>⟨h0,h1⟩
 n3:=fun h=>by omega
 n4:=fun h=>by omega
 n0:=fun h=>absurd rfl h
 s2:=fun h=>by omega
 s22:=fun h=>by omega
 s0:=fun _ _=>rfl
 ga:=fun h=>by omega
 a0:=fun _ _=>rfl
 gb:=fun h=>by omega
 b0:=fun _=>rfl
 ar:=fun _=>rfl
theorem nf_wd {n:Nd} (h:Nf n):n.strs 2000->n.size<=2000->n.wd:=by
 have leaf:∀ (op m:Int) (s:List UInt8) (a b:Ref),GdN op m s a b 0->(Nd.mk op m s a b []).wd:=fun op m s a b h=>by
  rw [Nd.wd,Nd.wds]
  exact ⟨h,trivial⟩
 have kid:∀ {op m:Int} {s:List UInt8} {a b:Ref} {ks:List Nd} {x:Nd},x∈ks->(Nd.mk op m s a b ks).strs 2000->(Nd.mk op m s a b ks).size<=2000->x.strs 2000/\x.size<=2000:=by
  intro op m s a b ks x hx hs hz
  rw [Nd.strs,Nd.strss_mem] at hs
  refine ⟨hs.2 x hx,?_⟩
  rw [Nd.size] at hz
  have:∀ l:List Nd,x∈l->x.size<=Nd.sizes l:=by
   intro l
   induction l with
   | nil=>intro h;cases h
   | cons y l ih=>
     intro h
     rw [Nd.sizes]
     rcases List.mem_cons.1 h with rfl|h
     ·omega
     ·have:=ih h;omega
  have:=this ks hx
  omega
 induction h with
 | num h0 h1=>exact fun _ _=>leaf _ _ _ _ _ (gdN_num h0 h1)
 | @text s h0 h1=>
   intro hs _
   rw [Nd.strs] at hs
   have hsg:(sgT s).isSome=true:=by
    have e:sgT s=sgP s:=rfl
    rw [e]
    cases hq:sgP s with
    | none=>exact absurd hq h0
    | some x=>rfl
   exact leaf _ _ _ _ _ ⟨by decide,by decide,fun h=>by omega,fun h=>by omega,fun h=>by omega,fun _ _ _=>rfl,fun _=>⟨hs.1,hsg⟩,fun h=>by omega,fun h=>absurd rfl h,fun h=>by omega,fun _ _=>rfl,fun h=>by omega,fun _=>rfl,fun _=>rfl⟩
 | @truth b hb=>exact fun _ _=>leaf _ _ _ _ _ ⟨by decide,by decide,fun h=>by omega,fun _=>hb,fun h=>by omega,fun _ h=>absurd rfl h,fun h=>by omega,fun h=>by omega,fun _ _=>rfl,fun h=>by omega,fun _ _=>rfl,fun h=>by omega,fun _=>rfl,fun _=>rfl⟩
 | @fail k hk=>exact fun _ _=>leaf _ _ _ _ _ ⟨by decide,by decide,fun h=>by omega,fun h=>by omega,fun _=>⟨by have:(((k:Int)+1)*10000).tmod 10000=0:=Int.mul_tmod_left _ _;exact this,by omega,by omega⟩,fun _ _ h=>absurd rfl h,fun h=>by omega,fun h=>by omega,fun _ _=>rfl,fun h=>by omega,fun _ _=>rfl,fun h=>by omega,fun _=>rfl,fun _=>rfl⟩
 | @cell r hr=>exact fun _ _=>leaf _ _ _ _ _ ⟨by decide,by decide,fun h=>by omega,fun h=>by omega,fun h=>by omega,fun _ _ _=>rfl,fun h=>by omega,fun h=>by omega,fun _ _=>rfl,fun _=>hr,fun h=>absurd rfl h,fun h=>by omega,fun _=>rfl,fun _=>rfl⟩
 | @area r q hr hq=>exact fun _ _=>leaf _ _ _ _ _ ⟨by decide,by decide,fun h=>by omega,fun h=>by omega,fun h=>by omega,fun _ _ _=>rfl,fun h=>by omega,fun h=>by omega,fun _ _=>rfl,fun _=>hr,fun _ h=>absurd rfl h,fun _=>hq,fun h=>absurd rfl h,fun _=>rfl⟩
 | @sign op x ho hx hne ih=>
   intro hs hz
   obtain ⟨k1,k2⟩:=kid (by simp:x ∈ [x]) hs hz
   rw [Nd.wd,Nd.wds,Nd.wds]
   refine ⟨⟨by omega,by omega,fun h=>by omega,fun h=>by omega,fun h=>by omega,fun _ _ _=>rfl,fun h=>by omega,fun h=>by omega,fun _ _=>rfl,fun h=>by omega,fun _ _=>rfl,fun h=>by omega,fun _=>rfl,fun _=>?_⟩,ih k1 k2,trivial⟩
   unfold arity
   rw [if_pos (by omega)]
   rfl
 | @hund x hx hne ih=>
   intro hs hz
   obtain ⟨k1,k2⟩:=kid (by simp:x ∈ [x]) hs hz
   rw [Nd.wd,Nd.wds,Nd.wds]
   exact ⟨⟨by decide,by decide,fun h=>by omega,fun h=>by omega,fun h=>by omega,fun _ _ _=>rfl,fun h=>by omega,fun h=>by omega,fun _ _=>rfl,fun h=>by omega,fun _ _=>rfl,fun h=>by omega,fun _=>rfl,fun _=>rfl⟩,ih k1 k2,trivial⟩
 | @bin i x y hi hx hnx hy hny ihx ihy=>
   intro hs hz
   obtain ⟨k1,k2⟩:=kid (by simp:x ∈ [x,y]) hs hz
   obtain ⟨k3,k4⟩:=kid (by simp:y ∈ [x,y]) hs hz
   rw [Nd.wd,Nd.wds,Nd.wds,Nd.wds]
   refine ⟨⟨by omega,by omega,fun h=>by omega,fun h=>by omega,fun h=>by omega,fun _ _ _=>rfl,fun h=>by omega,fun h=>by omega,fun _ _=>rfl,fun h=>by omega,fun _ _=>rfl,fun h=>by omega,fun _=>rfl,fun _=>?_⟩,ihx k1 k2,ihy k3 k4,trivial⟩
   unfold arity
   rw [if_neg (by omega),if_pos (by omega)]
   rfl
 | @call s ks hn hl hk hm ih=>
   intro hs hz
   have hst:=hs
   rw [Nd.strs] at hst
   have hlen:ks.length<=2000:=by
    have:=sizes_len ks
    rw [Nd.size] at hz
    omega
   rw [Nd.wd,Nd.wds_mem]
   refine ⟨⟨by decide,by decide,fun h=>by omega,fun h=>by omega,fun h=>by omega,fun _ _ _=>rfl,fun h=>by omega,fun _=>⟨hst.1,name_alone hn hst.1,hlen⟩,fun _ h=>absurd rfl h,fun h=>by omega,fun _ _=>rfl,fun h=>by omega,fun _=>rfl,fun h=>absurd rfl h⟩,fun x hx=>?_⟩
   obtain ⟨k1,k2⟩:=kid hx hs hz
   exact ih x hx k1 k2
 | miss=>exact fun _ _=>leaf _ _ _ _ _ ⟨by decide,by decide,fun h=>by omega,fun h=>by omega,fun h=>by omega,fun _ _ _=>rfl,fun h=>by omega,fun h=>by omega,fun _ _=>rfl,fun h=>by omega,fun _ _=>rfl,fun h=>by omega,fun _=>rfl,fun _=>rfl⟩
end Go.A
namespace Go.A
open Go.Proofs
/-! 4: tabular/tabularlaw20.TileWrites -/
def c4_20:ACode := .seq (.seq (.ops [ oq 81 (.mv (.t 9)),oq 82 (.bin .lss (.t 81) (.v (.int .i64 4)))]) (.cond (.t 82) .skip (.exit 0))) (.seq (.block 1 (.seq (.ops [ oq 85 (.mv (.t 7)),oq 86 (.mv (.t 9)),oe 87 (.call 20 [(.t 85),(.t 86)]),oq 88 (.mv (.t 8)),oq 89 (.mv (.t 9)),oe 90 (.call 21 [(.t 88),(.t 89)]),oq 91 (.bin .neq (.t 87) (.t 90))]) (.cond (.t 91) (.seq (.ops [ oq 6 (.mv (.v (.bool false)))]) .ret) .skip))) (.ops [ oq 83 (.mv (.t 9)),oq 84 (.bin .add (.t 83) (.v (.int .i64 1))),oq 9 (.mv (.t 84))]))
def c4_27:ACode := .seq (.seq (.ops [ oe 19 (.call 10 []),oq 20 (.un .not (.t 19)),oq 21 (.mv (.t 20)),⟨some 22,some (21,false),.q (.mv (.t 7)),[]⟩,⟨some 24,some (21,false),.q (.mv (.t 8)),[]⟩,⟨some 23,some (21,false),.e (.call 14 [(.t 22)]),[]⟩,⟨some 25,some (21,false),.e (.call 15 [(.t 24)]),[]⟩,⟨some 26,some (21,false),.q (.bin .neq (.t 23) (.t 25)),[]⟩,oq 27 (.pick (.t 21) (.v (.bool true)) (.t 26)),oq 28 (.mv (.t 27)),⟨some 29,some (28,false),.q (.mv (.t 7)),[]⟩,⟨some 30,some (28,false),.q (.mv (.t 1)),[]⟩,⟨some 32,some (28,false),.q (.mv (.t 8)),[]⟩,⟨some 33,some (28,false),.q (.mv (.t 1)),[]⟩,⟨some 31,some (28,false),.e (.call 16 [(.t 29),(.t 30)]),[]⟩,⟨some 34,some (28,false),.e (.call 17 [(.t 32),(.t 33)]),[]⟩,⟨some 35,some (28,false),.q (.bin .neq (.t 31) (.t 34)),[]⟩,oq 36 (.pick (.t 28) (.v (.bool true)) (.t 35)),oq 37 (.mv (.t 36)),⟨some 38,some (37,false),.q (.mv (.t 7)),[]⟩,⟨some 39,some (37,false),.q (.mv (.t 2)),[]⟩,⟨some 40,some (37,false),.q (.nc (.t 38)),[]⟩,⟨some 41,some (37,false),.q (.iaa 32 13 (.t 40) (.t 39)),[]⟩,⟨some 42,some (37,false),.q (.ld (some 13) (.t 41)),[]⟩,⟨some 44,some (37,false),.q (.mv (.t 8)),[]⟩,⟨some 45,some (37,false),.q (.mv (.t 2)),[]⟩,⟨some 46,some (37,false),.q (.ia 15 (.t 44) (.t 45)),[]⟩,⟨some 47,some (37,false),.q (.ld (some 15) (.t 46)),[]⟩,⟨some 43,some (37,false),.e (.call 9 [(.t 42)]),[⟨(some (37,false)),.ld (some 15) (.t 46),47⟩]⟩,⟨some 48,some (37,false),.e (.call 18 [(.t 47)]),[]⟩,⟨some 49,some (37,false),.q (.bin .neq (.t 43) (.t 48)),[]⟩,oq 50 (.pick (.t 37) (.v (.bool true)) (.t 49)),oq 51 (.mv (.t 50)),⟨some 52,some (51,false),.q (.mv (.t 7)),[]⟩,⟨some 53,some (51,false),.q (.mv (.t 2)),[]⟩,⟨some 54,some (51,false),.q (.nc (.t 52)),[]⟩,⟨some 55,some (51,false),.q (.iaa 32 13 (.t 54) (.t 53)),[]⟩,⟨some 56,some (51,false),.q (.ld (some 13) (.t 55)),[]⟩,⟨some 58,some (51,false),.q (.mv (.t 8)),[]⟩,⟨some 59,some (51,false),.q (.mv (.t 2)),[]⟩,⟨some 60,some (51,false),.q (.ia 15 (.t 58) (.t 59)),[]⟩,⟨some 61,some (51,false),.q (.ld (some 15) (.t 60)),[]⟩,⟨some 57,some (51,false),.e (.call 12 [(.t 56)]),[⟨(some (51,false)),.ld (some 15) (.t 60),61⟩]⟩,⟨some 62,some (51,false),.e (.call 19 [(.t 61)]),[]⟩,⟨some 63,some (51,false),.q (.eq .b true (.t 57) (.t 62)),[]⟩,oq 64 (.pick (.t 51) (.v (.bool true)) (.t 63)),oq 65 (.mv (.t 64)),⟨some 66,some (65,false),.q (.mv (.t 7)),[]⟩,⟨some 67,some (65,false),.q (.mv (.t 2)),[]⟩,⟨some 68,some (65,false),.q (.nc (.t 66)),[]⟩,⟨some 69,some (65,false),.q (.iaa 32 13 (.t 68) (.t 67)),[]⟩,⟨some 70,some (65,false),.q (.ld (some 13) (.t 69)),[]⟩,⟨some 72,some (65,false),.q (.mv (.t 8)),[]⟩,⟨some 73,some (65,false),.q (.mv (.t 2)),[]⟩,⟨some 74,some (65,false),.q (.ia 15 (.t 72) (.t 73)),[]⟩,⟨some 75,some (65,false),.q (.fa 0 (.t 74)),[]⟩,⟨some 76,some (65,false),.q (.fa 0 (.t 75)),[]⟩,⟨some 77,some (65,false),.q (.ld none (.t 76)),[]⟩,⟨some 78,some (65,false),.q (.bin .gtr (.t 77) (.v (.int .i64 0))),[]⟩,⟨some 71,some (65,false),.e (.call 11 [(.t 70)]),[⟨(some (65,false)),.ld none (.t 76),77⟩]⟩,⟨some 79,some (65,false),.q (.eq .b true (.t 71) (.t 78)),[]⟩,oq 80 (.pick (.t 65) (.v (.bool true)) (.t 79))]) (.cond (.t 80) (.seq (.ops [ oq 6 (.mv (.v (.bool false)))]) .ret) .skip)) (.seq (.seq (.ops [ oq 9 (.mv (.v (.int .i64 1)))]) (.block 0 (.loop c4_20))) (.seq (.ops [ oq 92 (.mv (.t 7)),oq 93 (.mv (.t 2)),oq 94 (.nc (.t 92)),oq 95 (.iaa 32 13 (.t 94) (.t 93)),oq 96 (.ld (some 13) (.t 95)),oq 97 (.mv (.t 7)),oq 98 (.nc (.t 97)),oq 99 (.iaa 32 13 (.t 98) (.v (.int .i64 0))),oq 100 (.ld (some 13) (.t 99)),oq 102 (.mv (.t 8)),oq 103 (.mv (.t 2)),oq 104 (.ia 15 (.t 102) (.t 103)),oq 105 (.ld (some 15) (.t 104)),oq 106 (.mv (.t 8)),oq 107 (.ia 15 (.t 106) (.v (.int .i64 0))),oq 108 (.ld (some 15) (.t 107)),⟨some 101,none,.e (.call 22 [(.t 96),(.t 100)]),[⟨none,.ld (some 15) (.t 104),105⟩,⟨none,.ld (some 15) (.t 107),108⟩]⟩,oe 109 (.call 23 [(.t 105),(.t 108)]),oq 110 (.eq .b false (.t 101) (.t 109)),oq 6 (.mv (.t 110))]) .ret))
def c4_30:ACode := .seq (.ops [ oq 6 (.mv (.v (.bool false)))]) (.seq (.ops [ oq 11 (.mv (.t 0)),oe 12 (.call 13 [(.t 11)]),oq 10 (.mv (.t 12)),oq 13 (.ext 0 (.t 10)),oq 14 (.ext 1 (.t 10)),oq 7 (.mv (.t 13)),oq 8 (.mv (.t 14))]) (.seq (.ops [ oq 15 (.mv (.t 2)),oq 16 (.bin .rem (.t 15) (.v (.int .i64 32))),oq 17 (.bin .add (.t 16) (.v (.int .i64 32))),oq 18 (.bin .rem (.t 17) (.v (.int .i64 32))),oq 2 (.mv (.t 18))]) c4_27))
def c4:AFn:=⟨111,[.t 6],c4_30⟩
end Go.A
namespace Go.A
open Go.Proofs Go.Lib Go.Vint
mutual
theorem nd_strs_mono {B C:Nat} (h:B<=C):∀ n:Nd,n.strs B->n.strs C
 | .mk op m s a b ks,hs=>by
   rw [Nd.strs] at hs ⊢
   exact ⟨Nat.le_trans hs.1 h,nd_strss_mono h ks hs.2⟩
theorem nd_strss_mono {B C:Nat} (h:B<=C):∀ l:List Nd,Nd.strss B l->Nd.strss C l
 | [],_=>by rw [Nd.strss];trivial
 | x::l,hs=>by
   rw [Nd.strss] at hs ⊢
   exact ⟨nd_strs_mono h x hs.1,nd_strss_mono h l hs.2⟩
end
theorem rfB_le {r:Ref} (h:r.good=true):(rfB r).length<=20:=by
 have hb:=good_bd h
 have ha:absN r<=3:=by unfold absN;split<;>split<;>omega
 have h1:=uintB_le (u:=((absN r+4*r.row.toNat:Nat):Int)) (by omega)
 have h2:=uintB_le (u:=((r.col.toNat:Nat):Int)) (by omega)
 rw [Int.toNat_natCast] at h1 h2
 unfold rfB
 rw [List.length_append]
 omega
theorem restB_le {op n:Int} {s:List UInt8} {a b:Ref} {k B:Nat} (h:GdN op n s a b k) (hs:s.length<=B):(restB op n s a b k).length<=B+50:=by
 have hn:=h.num
 have hk:=h.kids
 have htx:(textB s).length<=B+10:=by
  have h1:=uintB_le (u:=((s.length:Nat):Int)) (by
   by_cases e:op=2
   ·have:=(h.s2 e).1;omega
   by_cases e2:op=22
   ·have:=(h.s22 e2).1;omega
   ·rw [h.s0 e e2];decide)
  rw [Int.toNat_natCast] at h1
  unfold textB
  rw [List.length_append]
  omega
 unfold restB
 split
 ·have hf:=(foldI n)
  have h2:foldI n<=18446744073709551615/\0<=foldI n:=by unfold foldI;split<;>omega
  have:=uintB_le (u:=foldI n) h2.1
  omega
 split
 ·omega
 split
 ·rename_i e
  have:=rfB_le (h.ga (.inl e))
  omega
 split
 ·rename_i e
  have h1:=rfB_le (h.ga (.inr e))
  have h2:=rfB_le (h.gb e)
  rw [List.length_append]
  omega
 split
 ·have h1:=uintB_le (u:=(k:Int)) (by omega)
  rw [Int.toNat_natCast] at h1
  rw [List.length_append]
  omega
 ·exact Nat.zero_le _
mutual
theorem nd_bytes_le {B:Nat}:∀ n:Nd,n.wd->n.strs B->n.bytes.length<=(B+60)*n.size
 | .mk op n s a b ks,hw,hs=>by
   rw [Nd.wd] at hw
   rw [Nd.strs] at hs
   have h1:=restB_le hw.1 hs.1
   have h2:=nd_bytess_le ks hw.2 hs.2
   have h3:=uintB_le (u:=op) (by have:=hw.1.op2;omega)
   rw [Nd.bytes,List.length_append,List.length_append,Nd.size,Nat.mul_add,Nat.mul_one]
   omega
theorem nd_bytess_le {B:Nat}:∀ l:List Nd,Nd.wds l->Nd.strss B l->(Nd.bytess l).length<=(B+60)*Nd.sizes l
 | [],_,_=>by rw [Nd.bytess];exact Nat.zero_le _
 | x::l,hw,hs=>by
   rw [Nd.wds] at hw
   rw [Nd.strss] at hs
   have h1:=nd_bytes_le x hw.1 hs.1
   have h2:=nd_bytess_le l hw.2 hs.2
   rw [Nd.bytess,List.length_append,Nd.sizes,Nat.mul_add]
   omega
end
structure TC.made (c:TC):Prop where
 fine:c.fine
 wf:c.wfine
 size:c.t.size<=5000
 op:0<=c.t.op
 nf:c.isF=true->Nf c.t/\0<c.t.op
theorem lcC_made (F:List UInt8) (k n:Int) (S:List UInt8):(lcC F k n S).made:=by
 have hop:∀ m:Nd,Nf m->0<m.op:=fun m hm=>by cases hm<;>simp only [Nd.op]<;>omega
 have hcase:((lcT F)=zNd)\/((parseR (F.take 80)).2.2=0/\lcT F=(parseR (F.take 80)).1):=by
  unfold lcT
  split
  ·rename_i h;exact .inr ⟨h,rfl⟩
  ·exact .inl rfl
 have hF8:(F.take 80).length<=80:=by rw [List.length_take];omega
 have hshort:∀ t,(lcC F k n S).val = .text t->t.length<=2000:=fun t ht=>by
  have ht:ofP ⟨k,n,S.take 60⟩ = .text t:=ht
  unfold ofP at ht
  dsimp only at ht
  split at ht
  ·split at ht<;>cases ht
  split at ht
  ·split at ht
   ·rename_i h;injection ht with ht;rw [<-ht];exact h.2
   ·cases ht
  split at ht
  ·cases ht
  split at ht
  ·split at ht<;>cases ht
  ·cases ht
 refine ⟨lcC_fine F k n S,⟨?_,?_,ofP_good _,hshort⟩,lcT_size F,?_,?_⟩
 ·intro h
  have h':(!decide ((lcT F).op=0))=true:=h
  show (lcT F).wd
  rcases hcase with hz|⟨he,hz⟩
  ·rw [hz] at h';exact absurd h' (by decide)
  ·rw [hz]
   have hsm:=parseR_small he
   have hst:(parseR (F.take 80)).1.strs 2000:=nd_strs_mono (by omega) _ hsm.1
   exact nf_wd (parseR_nf he).1 hst (by omega)
 ·intro h
  have h':(!decide ((lcT F).op=0))=true:=h
  show (lcT F).bytes.length<=100000
  rcases hcase with hz|⟨he,hz⟩
  ·rw [hz] at h';exact absurd h' (by decide)
  ·rw [hz]
   have hsm:=parseR_small he
   have hst:(parseR (F.take 80)).1.strs 2000:=nd_strs_mono (by omega) _ hsm.1
   have hst2:(parseR (F.take 80)).1.strs 328:=nd_strs_mono (by omega) _ hsm.1
   have hb:=nd_bytes_le _ (nf_wd (parseR_nf he).1 hst (by omega)) hst2
   have h2:(328+60)*(parseR (F.take 80)).1.size<=(328+60)*162:=Nat.mul_le_mul_left _ (by omega)
   omega
 ·show 0<=(lcT F).op
  rcases hcase with hz|⟨he,hz⟩
  ·rw [hz];decide
  ·rw [hz];have:=hop _ (parseR_nf he).1;omega
 ·intro h
  have h':(!decide ((lcT F).op=0))=true:=h
  show Nf (lcT F)/\0<(lcT F).op
  rcases hcase with hz|⟨he,hz⟩
  ·rw [hz] at h';exact absurd h' (by decide)
  ·rw [hz];exact ⟨(parseR_nf he).1,hop _ (parseR_nf he).1⟩
theorem zTC_made:zTC.made:=by
 refine ⟨⟨fun h=>(by cases h),fun h=>(by cases h),trivial,trivial,by decide +kernel⟩,⟨fun h=>(by cases h),fun h=>(by cases h),trivial,fun t h=>(by cases h)⟩,by decide,by decide,fun h=>(by cases h)⟩
end Go.A
section
attribute [local go_sem] reduceCtorEq Nat.reduceEqDiff Nat.reduceAdd Nat.reduceSub Nat.reduceMul Nat.reduceLeDiff Int.reduceLT Int.reduceLE Int.reduceEq Int.reduceNeg Int.reduceAdd Int.reduceSub Int.reduceMul true_imp_iff forall_const Nat.mul_one Int.reduceToNat Nat.reducePow Int.reducePow Bool.true_and Bool.false_and Bool.and_false
attribute [local go_sem ↓] reduceIte
namespace Go.A
open Go.Proofs Go.Lib Go.Vint
def eqPl (a:Pl) (k y:Int) (z:List UInt8):Bool:=decide (a.kind=k) && (decide (a.n=y) && decide (a.s=z))
def endV (k y:Int) (z:List UInt8) (p:Nat):PV×Int×Nat:=if eqPl (plOf (ofP ⟨k,y,z⟩)) k y z=true then (ofP ⟨k,y,z⟩,0,p) else (.blank,3,p)
def getV (s:List UInt8) (p:Nat):PV×Int×Nat:=
 if (readU s p 0).2.2≠0 then (.blank,(readU s p 0).2.2,(readU s p 0).2.1)
 else if min (readU s p 0).1 9=1\/min (readU s p 0).1 9=3\/min (readU s p 0).1 9=4 then
  if (readU s (readU s p 0).2.1 0).2.2≠0 then (.blank,(readU s (readU s p 0).2.1 0).2.2,(readU s (readU s p 0).2.1 0).2.1)
  else endV ((min (readU s p 0).1 9:Nat):Int) (unfI (readU s (readU s p 0).2.1 0).1) [] (readU s (readU s p 0).2.1 0).2.1
 else if min (readU s p 0).1 9=2 then
  if (rtxP s (readU s p 0).2.1 0 2000).2.2≠0 then (.blank,(rtxP s (readU s p 0).2.1 0 2000).2.2,(rtxP s (readU s p 0).2.1 0 2000).2.1)
  else endV 2 0 (rtxP s (readU s p 0).2.1 0 2000).1 (rtxP s (readU s p 0).2.1 0 2000).2.1
 else endV ((min (readU s p 0).1 9:Nat):Int) 0 [] (readU s p 0).2.1
def GotV (s:List UInt8) (b:Nat) (σ:ASt) (G:PV×Int×Nat) (v:AV) (σ':ASt):Prop:=v = .tuple [G.1.av,.int .i64 G.2.1]/\∃ P E,σ'=σ.set b (rd s P E)/\(G.2.1=0->P=G.2.2/\E=0)
set_option maxHeartbeats 2000000 in
theorem vgetR_ok {σ:ASt} (hU:U8 σ) (s:List UInt8) (p b:Nat) (hb:σ b=rd s p 0) (hs:s.length<=10000000) (hp:p<=s.length) :
  ACalls Tryz.prog 72 [.ptr b 0] σ (GotV s b σ (getV s p)):=by
 obtain ⟨G,hG⟩:∃ G,getV s p=G:=⟨_,rfl⟩
 rw [hG]
 unfold getV at hG
 obtain ⟨f1,f2,f3,f4⟩:=readU_facts s p 0 hp
 have hq2:=readU_facts s (readU s p 0).2.1 0 f2
 have hx2:=rtxP_facts s (readU s p 0).2.1 2000 f2
 have hI:=fun (τ:ASt) (h:τ b=rd s (readU s p 0).2.1 0)=>rint_ok s (readU s p 0).2.1 0 b τ h (by omega) f2
 have hX:=fun (τ:ASt) (h:τ b=rd s (readU s p 0).2.1 0)=>rtext_ok s (readU s p 0).2.1 0 2000 b τ h (by omega) f2 (by decide)
 have hR:=ruint_ok s p 0 b σ hb (by omega) hp
 have hO:=fun (τ:ASt) (h:U8 τ) (pl:Pl) (hl)=>of_ok h pl hl
 have hE:=fun (τ:ASt) (P:Nat) (E:Int) (h:τ b=rd s P E)=>rerr_ok s P E b τ h
 have hbl:PV.blank.av = .iface 138 (.agg []):=rfl
 generalize readU s p 0=R at *
 obtain ⟨u,p1,e1⟩:=R
 dsimp only at *
 generalize readU s p1 0=Q at *
 obtain ⟨u2,p2,e2⟩:=Q
 generalize rtxP s p1 0 2000=X at *
 obtain ⟨x3,p3,e3⟩:=X
 dsimp only at *
 obtain ⟨k,hk⟩:∃ k:Nat,min u 9=k:=⟨_,rfl⟩
 rw [hk] at hG
 have hmn:min (u:Int) 9=(k:Int):=by omega
 have hk9:k<=9:=by omega
 have hun : -9223372036854775808<=unfI u2/\unfI u2<=9223372036854775807:=by unfold unfI;split<;>omega
 obtain ⟨F,hF⟩:∃ F,F=ACode.wp Tryz.prog c72_34:=⟨_,rfl⟩
 have hcne:∀ {c:Nat},σ c=none->b≠c:=fun {c} hc=>by rintro rfl;rw [hb] at hc;cases hc
 have hgoE:∀ (P P':Nat) (E:Int) (c:Nat) (cs:List AV) (a:AFr),E≠0->σ c=none->(a 0 = .ptr b 0/\a 4 = .ptr c 0)->F (RetQ [.t 2,.t 3] (GotV s b σ (.blank,E,P'))) a ((σ.set b (rd s P E)).set c (some (.obj cs))):=by
  intro P P' E c cs a hE0 hc hf
  have hbc:=hcne hc
  have he:=hE ((σ.set b (rd s P E)).set c (some (.obj cs))) P E (by rw [ASt.set_ne hbc,ASt.set_same])
  rw [hF]
  simp (disch:=first|assumption|omega|(simp only [List.length_append,List.length_cons,List.length_nil];omega)) only [go_sem,hf]
  refine he.mono ?_
  rintro v σ1 ⟨rfl,rfl⟩
  simp (disch:=first|assumption|omega|(simp only [List.length_append,List.length_cons,List.length_nil];omega)) only [go_sem,hf,hE0]
  refine he.mono ?_
  rintro v σ1 ⟨rfl,rfl⟩
  simp (disch:=first|assumption|omega|(simp only [List.length_append,List.length_cons,List.length_nil];omega)) only [go_sem]
  exact retC_by (Drop.set (by rw [ASt.set_ne (Ne.symm hbc)];exact hc)) (.refl _) ⟨rfl,P,E,rfl,fun h=>absurd h hE0⟩
 have hgo:∀ (P:Nat) (k y:Int) (z:List UInt8) (c:Nat) (a:AFr),z.length<=4611686018427387904->σ c=none->(a 0 = .ptr b 0/\a 4 = .ptr c 0)->F (RetQ [.t 2,.t 3] (GotV s b σ (endV k y z P))) a ((σ.set b (rd s P 0)).set c (some (.obj [.int .i64 k,.int .i64 y,.str z]))):=by
  intro P k y z c a hz hc hf
  have hbc:=hcne hc
  have he:=hE ((σ.set b (rd s P 0)).set c (some (.obj [.int .i64 k,.int .i64 y,.str z]))) P 0 (by rw [ASt.set_ne hbc,ASt.set_same])
  have hU2:U8 ((σ.set b (rd s P 0)).set c (some (.obj [.int .i64 k,.int .i64 y,.str z]))):=(hU.rd hb P 0).set (by rw [ASt.set_ne (Ne.symm hbc)];exact hc)
  have ho:=hO _ hU2 ⟨k,y,z⟩ hz
  have hT:=tell_ok (ofP ⟨k,y,z⟩)
  rw [tell_pl] at hT
  have hdr:Drop ((σ.set b (rd s P 0)).set c (some (.obj [.int .i64 k,.int .i64 y,.str z]))) (σ.set b (rd s P 0)):=Drop.set (by rw [ASt.set_ne (Ne.symm hbc)];exact hc)
  have hcc:((σ.set b (rd s P 0)).set c (some (.obj [.int .i64 k,.int .i64 y,.str z]))) c=some (.obj [.int .i64 k,.int .i64 y,.str z]):=ASt.set_same _ _ _
  generalize (σ.set b (rd s P 0)).set c (some (.obj [.int .i64 k,.int .i64 y,.str z]))=τ at *
  obtain ⟨V,hV⟩:∃ V,endV k y z P=V:=⟨_,rfl⟩
  rw [hV]
  unfold endV at hV
  generalize ofP ⟨k,y,z⟩=vv at *
  generalize plOf vv=pl at *
  obtain ⟨k2,y2,z2⟩:=pl
  unfold plAV at ho hT
  dsimp only at ho hT
  have hx:(decide (k2=k) && (decide (y2=y) && decide (z2=z)))=eqPl ⟨k2,y2,z2⟩ k y z:=rfl
  rw [hF]
  cases hq:eqPl ⟨k2,y2,z2⟩ k y z with
  | true=>
    rw [hq] at hV hx
    rw [if_pos rfl] at hV
    subst hV
    simp (disch:=first|assumption|omega|(simp only [List.length_append,List.length_cons,List.length_nil];omega)) only [go_sem,hf]
    refine he.mono ?_
    rintro v σ1 ⟨rfl,rfl⟩
    simp (disch:=first|assumption|omega|(simp only [List.length_append,List.length_cons,List.length_nil];omega)) only [go_sem,hf,hcc]
    refine ho.mono ?_
    rintro v σ1 ⟨rfl,rfl⟩
    simp (disch:=first|assumption|omega|(simp only [List.length_append,List.length_cons,List.length_nil];omega)) only [go_sem,hf,hcc]
    refine hT.use ?_
    simp (disch:=first|assumption|omega|(simp only [List.length_append,List.length_cons,List.length_nil];omega)) only [go_sem,hf,hcc,hx]
    exact retC_by hdr (.refl _) ⟨rfl,P,0,rfl,fun _=>⟨rfl,rfl⟩⟩
  | false=>
    rw [hq] at hV hx
    rw [if_neg (by simp)] at hV
    subst hV
    simp (disch:=first|assumption|omega|(simp only [List.length_append,List.length_cons,List.length_nil];omega)) only [go_sem,hf]
    refine he.mono ?_
    rintro v σ1 ⟨rfl,rfl⟩
    simp (disch:=first|assumption|omega|(simp only [List.length_append,List.length_cons,List.length_nil];omega)) only [go_sem,hf,hcc]
    refine ho.mono ?_
    rintro v σ1 ⟨rfl,rfl⟩
    simp (disch:=first|assumption|omega|(simp only [List.length_append,List.length_cons,List.length_nil];omega)) only [go_sem,hf,hcc]
    refine hT.use ?_
    simp (disch:=first|assumption|omega|(simp only [List.length_append,List.length_cons,List.length_nil];omega)) only [go_sem,hf,hcc,hx]
    exact retC_by hdr (.refl _) ⟨rfl,P,0,rfl,fun h=>by cases h⟩
 have hsw:∀ (c:Nat) (hc:σ c=none) (X Y Z:Option Role),((σ.set b X).set c Y).set b Z=(σ.set b Z).set c Y:=fun c hc X Y Z=>by rw [set_swap (Ne.symm (hcne hc)),ASt.set_set]
 refine a72 (by simp) ?_
 simp (disch:=first|assumption|omega|(simp only [List.length_append,List.length_cons,List.length_nil];omega)) only [go_sem]
 refine hR.mono ?_
 rintro v σ1 ⟨rfl,rfl⟩
 simp (disch:=first|assumption|omega|(simp only [List.length_append,List.length_cons,List.length_nil];omega)) only [go_sem,hmn]
 refine allocC_by fun c hc=>?_
 have hcb:c≠b:=by rintro rfl;unfold A.rd at hc;rw [ASt.set_same] at hc;cases hc
 have hc0:σ c=none:=by rw [ASt.set_ne hcb] at hc;exact hc
 have hbc:b≠c:=Ne.symm hcb
 have hsw:=hsw c hc0
 clear hR hE hO hbl
 by_cases he1:e1=0
 ·subst he1
  rw [if_neg (by simp)] at hG
  by_cases hk134:k=1\/k=3\/k=4
  ·rw [if_pos hk134] at hG
   have hI:=fun (X:Role)=>hI ((σ.set b (rd s p1 0)).set c (some X)) (by rw [ASt.set_ne hbc,ASt.set_same])
   by_cases he2:e2=0
   ·subst he2
    rw [if_neg (by simp)] at hG
    subst hG
    rcases hk134 with rfl|rfl|rfl
    all_goals
     simp (disch:=first|assumption|omega|(simp only [List.length_append,List.length_cons,List.length_nil];omega)) only [go_sem,ASt.set_set,←hF]
     refine (hI _).mono ?_
     rintro v σ2 ⟨rfl,rfl⟩
     simp (disch:=first|assumption|omega|(simp only [List.length_append,List.length_cons,List.length_nil];omega)) only [go_sem,hsw,ASt.set_set,←hF]
     refine hgo p2 _ _ [] c _ (Nat.zero_le _) hc0 ?_
     simp (disch:=first|assumption|omega|(simp only [List.length_append,List.length_cons,List.length_nil];omega)) only [go_sem]
   ·rw [if_pos he2] at hG
    subst hG
    rcases hk134 with rfl|rfl|rfl
    all_goals
     simp (disch:=first|assumption|omega|(simp only [List.length_append,List.length_cons,List.length_nil];omega)) only [go_sem,ASt.set_set,←hF]
     refine (hI _).mono ?_
     rintro v σ2 ⟨rfl,rfl⟩
     simp (disch:=first|assumption|omega|(simp only [List.length_append,List.length_cons,List.length_nil];omega)) only [go_sem,hsw,ASt.set_set,←hF]
     refine hgoE p2 p2 e2 c _ _ he2 hc0 ?_
     simp (disch:=first|assumption|omega|(simp only [List.length_append,List.length_cons,List.length_nil];omega)) only [go_sem]
  ·rw [if_neg hk134] at hG
   by_cases hk2:k=2
   ·subst hk2
    rw [if_pos rfl] at hG
    have hX:=fun (X:Role)=>hX ((σ.set b (rd s p1 0)).set c (some X)) (by rw [ASt.set_ne hbc,ASt.set_same])
    have h20:((2000:Nat):Int)=2000:=rfl
    rw [h20] at hX
    by_cases he3:e3=0
    ·subst he3
     rw [if_neg (by simp)] at hG
     subst hG
     simp (disch:=first|assumption|omega|(simp only [List.length_append,List.length_cons,List.length_nil];omega)) only [go_sem,ASt.set_set,←hF]
     refine (hX _).mono ?_
     rintro v σ2 ⟨rfl,rfl⟩
     simp (disch:=first|assumption|omega|(simp only [List.length_append,List.length_cons,List.length_nil];omega)) only [go_sem,hsw,ASt.set_set,←hF]
     refine hgo p3 _ _ x3 c _ (by omega) hc0 ?_
     simp (disch:=first|assumption|omega|(simp only [List.length_append,List.length_cons,List.length_nil];omega)) only [go_sem]
    ·rw [if_pos he3] at hG
     subst hG
     simp (disch:=first|assumption|omega|(simp only [List.length_append,List.length_cons,List.length_nil];omega)) only [go_sem,ASt.set_set,←hF]
     refine (hX _).mono ?_
     rintro v σ2 ⟨rfl,rfl⟩
     simp (disch:=first|assumption|omega|(simp only [List.length_append,List.length_cons,List.length_nil];omega)) only [go_sem,hsw,ASt.set_set,←hF]
     refine hgoE p3 p3 e3 c _ _ he3 hc0 ?_
     simp (disch:=first|assumption|omega|(simp only [List.length_append,List.length_cons,List.length_nil];omega)) only [go_sem]
   ·rw [if_neg hk2] at hG
    subst hG
    have n1:¬ (k:Int)=1:=by omega
    have n2:¬ (k:Int)=2:=by omega
    have n3:¬ (k:Int)=3:=by omega
    have n4:¬ (k:Int)=4:=by omega
    simp (disch:=first|assumption|omega|(simp only [List.length_append,List.length_cons,List.length_nil];omega)) only [go_sem,n1,n2,n3,n4,ASt.set_set,←hF]
    refine hgo p1 _ _ [] c _ (Nat.zero_le _) hc0 ?_
    simp (disch:=first|assumption|omega|(simp only [List.length_append,List.length_cons,List.length_nil];omega)) only [go_sem]
 ·rw [if_pos he1] at hG
  subst hG
  obtain ⟨hu0,_⟩:=f3 he1
  obtain rfl:k=0:=by omega
  simp (disch:=first|assumption|omega|(simp only [List.length_append,List.length_cons,List.length_nil];omega)) only [go_sem,ASt.set_set,←hF]
  refine hgoE p1 p1 e1 c _ _ he1 hc0 ?_
  simp (disch:=first|assumption|omega|(simp only [List.length_append,List.length_cons,List.length_nil];omega)) only [go_sem]
theorem getV_back {s r:List UInt8} {p:Nat} {v:PV} (hd:s.drop p=putB v++r) (hg:v.good) (ht:∀ t,v = .text t->t.length<=2000) (hof:ofP (plOf v)=v):getV s p=(v,0,p+(putB v).length):=by
 obtain ⟨k,y,z,hpl,hB,hy,hz,hk⟩:=put_pl v hg ht
 have hend:∀ q,endV k y z q=(v,0,q):=fun q=>by
  have hov:ofP ⟨k,y,z⟩=v:=by rw [<-hpl];exact hof
  unfold endV
  rw [hov,hpl]
  unfold eqPl
  simp
 rw [hB] at hd ⊢
 have hk4:0<=k/\k<=4:=by omega
 have hd1:s.drop p=uintB k.toNat++((if k=1\/k=3\/k=4 then uintB (foldI y).toNat else if k=2 then textB z else [])++r):=by rw [hd];simp [plB]
 have hR:=readU_uint hd1 (by omega)
 have hd2:=drop_app hd1
 have hkm:min k.toNat 9=k.toNat:=by omega
 have hkn:((k.toNat:Nat):Int)=k:=by omega
 unfold getV
 rw [hR]
 dsimp only
 rw [if_neg (by simp),hkm,hkn]
 rcases hk with ⟨hk,rfl⟩|⟨rfl,rfl⟩|⟨rfl,rfl,rfl⟩
 ·rw [if_pos hk] at hd2
  have hR2:=readU_uint hd2 (by have:=foldI_bd (n:=y) (by omega) (by omega);omega)
  have hun:=unf_fold (n:=y) (by omega) (by omega)
  rw [if_pos (by omega),hR2]
  dsimp only
  rw [if_neg (by simp),hun,hend]
  unfold plB
  rw [if_pos hk,List.length_append,Nat.add_assoc]
 ·rw [if_neg (by omega),if_pos rfl] at hd2
  have hR2:=rtx_written hd2 hz (by omega)
  rw [if_neg (by decide),if_pos (by decide),hR2]
  dsimp only
  rw [if_neg (by simp),hend]
  unfold plB
  rw [if_neg (by omega),if_pos rfl,List.length_append,Nat.add_assoc]
 ·rw [if_neg (by decide),if_neg (by decide),hend]
  unfold plB
  simp
end Go.A
namespace Go.A
open Go.Proofs
/-! 56: tabular/tile.get -/
def c56_47:ACode := .seq (.ops [ oq 48 (.mv (.t 0)),oe 49 (.call 72 [(.t 48)]),oq 47 (.mv (.t 49)),oq 50 (.ext 0 (.t 47)),oq 51 (.ext 1 (.t 47)),oq 10 (.mv (.t 50)),oq 11 (.mv (.t 51))]) (.seq (.seq (.ops [ oq 52 (.mv (.t 11)),oq 53 (.bin .neq (.t 52) (.v (.int .i64 0)))]) (.cond (.t 53) (.seq (.ops [ oq 54 (.build [(.int .i64 0),(.int .i64 0),(.str []),(.int .i64 0),(.int .i64 0),(.bool false),(.bool false),(.int .i64 0),(.int .i64 0),(.bool false),(.bool false),(.sl .full []),.nili] []),oq 55 (.mv (.t 11)),oz (.store 13 (.t 4) (.t 54)),oq 5 (.mv (.t 55))]) .ret) .skip)) (.seq (.seq (.ops [ oq 56 (.mv (.t 10)),oq 57 (.fa 12 (.t 6)),oz (.store 1 (.t 57) (.t 56))]) (.seq (.ops [ oq 58 (.ld (some 13) (.t 6)),oe 59 (.call 12 [(.t 58)])]) (.cond (.t 59) (.seq (.ops [ oq 60 (.build [(.int .i64 0),(.int .i64 0),(.str []),(.int .i64 0),(.int .i64 0),(.bool false),(.bool false),(.int .i64 0),(.int .i64 0),(.bool false),(.bool false),(.sl .full []),.nili] []),oz (.store 13 (.t 4) (.t 60)),oq 5 (.mv (.v (.int .i64 3)))]) .ret) .skip))) (.seq (.ops [ oq 61 (.ld (some 13) (.t 6)),oz (.store 13 (.t 4) (.t 61)),oq 5 (.mv (.v (.int .i64 0)))]) .ret)))
def c56_54:ACode := .seq (.ops [ oe 4 (.alloc [(.int .i64 0),(.int .i64 0),(.str []),(.int .i64 0),(.int .i64 0),(.bool false),(.bool false),(.int .i64 0),(.int .i64 0),(.bool false),(.bool false),(.sl .full []),.nili]),oq 5 (.mv (.v (.int .i64 0)))]) (.seq (.ops [ oe 6 (.alloc [(.int .i64 0),(.int .i64 0),(.str []),(.int .i64 0),(.int .i64 0),(.bool false),(.bool false),(.int .i64 0),(.int .i64 0),(.bool false),(.bool false),(.sl .full []),.nili])]) (.seq (.ops [ oq 12 (.mv (.t 0)),oe 13 (.call 53 [(.t 12)]),oq 7 (.mv (.t 13))]) (.seq (.seq (.ops [ oq 14 (.mv (.t 0)),oe 15 (.call 54 [(.t 14)]),oq 16 (.bin .neq (.t 15) (.v (.int .i64 0)))]) (.cond (.t 16) (.seq (.ops [ oq 17 (.ld (some 13) (.t 6)),oq 18 (.mv (.t 0)),⟨some 19,none,.e (.call 54 [(.t 18)]),[⟨none,.ld (some 13) (.t 6),17⟩]⟩,oz (.store 13 (.t 4) (.t 17)),oq 5 (.mv (.t 19))]) .ret) .skip)) (.seq (.seq (.ops [ oq 20 (.mv (.t 7)),oq 21 (.bin .gtr (.t 20) (.v (.int .u64 2))),oq 22 (.mv (.t 21)),⟨some 23,some (22,false),.q (.mv (.t 7)),[]⟩,⟨some 24,some (22,false),.q (.bin .eql (.t 23) (.v (.int .u64 0))),[]⟩,⟨some 25,some (22,false),.q (.mv (.t 24)),[]⟩,⟨some 26,some (25,true),.q (.mv (.t 1)),[]⟩,⟨some 27,some (25,true),.q (.un .not (.t 26)),[]⟩,⟨some 28,some (22,false),.q (.pick (.t 25) (.t 27) (.v (.bool false))),[]⟩,oq 29 (.pick (.t 22) (.v (.bool true)) (.t 28))]) (.cond (.t 29) (.seq (.ops [ oq 30 (.ld (some 13) (.t 6)),oz (.store 13 (.t 4) (.t 30)),oq 5 (.mv (.v (.int .i64 3)))]) .ret) .skip)) (.seq (.seq (.ops [ oq 31 (.mv (.t 7)),oq 32 (.bin .eql (.t 31) (.v (.int .u64 0)))]) (.cond (.t 32) (.seq (.ops [ oq 33 (.ld (some 13) (.t 6)),oz (.store 13 (.t 4) (.t 33)),oq 5 (.mv (.v (.int .i64 0)))]) .ret) .skip)) (.seq (.seq (.ops [ oq 34 (.mv (.t 7)),oq 35 (.bin .eql (.t 34) (.v (.int .u64 2)))]) (.cond (.t 35) (.seq (.ops [ oq 37 (.mv (.t 0)),oe 38 (.call 96 [(.t 37)]),oq 36 (.mv (.t 38)),oq 39 (.ext 0 (.t 36)),oq 40 (.ext 1 (.t 36)),oe 8 (.alloc [(.int .i64 0),(.int .i64 0),(.str []),(.int .i64 0),(.int .i64 0),(.bool false),(.bool false),(.int .i64 0),(.int .i64 0),(.bool false),(.bool false),(.sl .full [])]),oz (.store 12 (.t 8) (.t 39)),oq 9 (.mv (.t 40))]) (.seq (.seq (.ops [ oq 41 (.mv (.t 9)),oq 42 (.bin .neq (.t 41) (.v (.int .i64 0)))]) (.cond (.t 42) (.seq (.ops [ oq 43 (.build [(.int .i64 0),(.int .i64 0),(.str []),(.int .i64 0),(.int .i64 0),(.bool false),(.bool false),(.int .i64 0),(.int .i64 0),(.bool false),(.bool false),(.sl .full []),.nili] []),oq 44 (.mv (.t 9)),oz (.store 13 (.t 4) (.t 43)),oq 5 (.mv (.t 44))]) .ret) .skip)) (.ops [ oq 45 (.ld (some 12) (.t 8)),oq 46 (.fa 0 (.t 6)),oz (.store 12 (.t 46) (.t 45))]))) .skip)) c56_47))))))
@[go_sem] def c56_47_wp:=wp_of c56_47.eq_1
@[go_sem] def c56_54_wp:=wp_of c56_54.eq_1
def c56:AFn:=⟨62,[.c 4 (some 13),.t 5],c56_54⟩
theorem c56_ok:compF Tryz.prog Tryz.f56=some c56:=by kernel_rfl
theorem a56 {args:List AV} {σ:ASt} {R:AV->ASt->Prop} (hl:args.length<=62) (h:c56_54.wp Tryz.prog (RetQ [.c 4 (some 13),.t 5] R) (init args) σ):ACalls Tryz.prog 56 args σ R:=acalls_of Tryz.func56 c56_ok hl h
end Go.A
namespace Go.A
open Go.Proofs Go.Lib Go.Vint
def endC (t:Nd) (G:PV×Int×Nat):TC×Int×Nat:=if G.2.1≠0 then (zTC,G.2.1,G.2.2) else if TC.empty ⟨t,some G.1⟩=true then (zTC,3,G.2.2) else (⟨t,some G.1⟩,0,G.2.2)
def getC (s:List UInt8) (p:Nat) (em:Bool):TC×Int×Nat:=
 if (readU s p 0).2.2≠0 then (zTC,(readU s p 0).2.2,(readU s p 0).2.1)
 else if 2<(readU s p 0).1\/((readU s p 0).1=0/\em=false) then (zTC,3,(readU s p 0).2.1)
 else if (readU s p 0).1=0 then (zTC,0,(readU s p 0).2.1)
 else if (readU s p 0).1=2 then
  if (treeR s 2101 (readU s p 0).2.1).2.1≠0 then (zTC,(treeR s 2101 (readU s p 0).2.1).2.1,(treeR s 2101 (readU s p 0).2.1).2.2.1)
  else endC (treeR s 2101 (readU s p 0).2.1).1 (getV s (treeR s 2101 (readU s p 0).2.1).2.2.1)
 else endC zNd (getV s (readU s p 0).2.1)
def GotC (s:List UInt8) (b:Nat) (σ:ASt) (G:TC×Int×Nat) (v:AV) (σ':ASt):Prop:=v = .tuple [G.1.av,.int .i64 G.2.1]/\∃ P E,σ'=σ.set b (rd s P E)/\(G.2.1=0->P=G.2.2/\E=0)
theorem U8.objs {σ:ASt} (h:U8 σ) {b:Nat} {cs:List AV} {r:Option Role} (hb:σ b=some (.obj cs)):U8 (σ.set b r):=by
 unfold U8 at h ⊢
 obtain ⟨h1,h2⟩:=h
 constructor
 ·rw [ASt.set_ne]
  ·exact h1
  ·rintro rfl;rw [hb] at h1;cases h1
 ·rw [ASt.set_ne]
  ·exact h2
  ·rintro rfl;rw [hb] at h2;cases h2
def headCs (op n:Int) (x:List UInt8) (a c:Ref) (kv:AV):List AV := [.int .i64 op,.int .i64 n,.str x,.int .i64 a.row,.int .i64 a.col,.bool a.absRow,.bool a.absCol,.int .i64 c.row,.int .i64 c.col,.bool c.absRow,.bool c.absCol,kv]
set_option maxHeartbeats 4000000 in
theorem tget_ok {σ:ASt} (hU:U8 σ) (s:List UInt8) (p b:Nat) (hb:σ b=rd s p 0) (hs:s.length<=10000000) (hp:p<=s.length) (em:Bool) :
  ACalls Tryz.prog 56 [.ptr b 0,.bool em] σ (GotC s b σ (getC s p em)):=by
 obtain ⟨G,hG⟩:∃ G,getC s p em=G:=⟨_,rfl⟩
 rw [hG]
 unfold getC at hG
 obtain ⟨f1,f2,f3,f4⟩:=readU_facts s p 0 hp
 have hR:=fun (τ:ASt) (h:τ b=rd s p 0)=>ruint_ok s p 0 b τ h (by omega) hp
 have hV:=fun (τ:ASt) (P:Nat) (hP:P<=s.length) (hU:U8 τ) (h:τ b=rd s P 0)=>vgetR_ok hU s P b h hs hP
 have hT:=fun (τ:ASt) (P:Nat) (hP:P<=s.length) (hU:U8 τ) (h:τ b=rd s P 0)=>eReadP_ok s hs b P hP τ hU h
 have hTF:=fun (P:Nat) (hP:P<=s.length)=>treeR_facts s 2101 P hP
 have hE:=fun (τ:ASt) (P:Nat) (E:Int) (h:τ b=rd s P E)=>rerr_ok s P E b τ h
 have hbne:∀ {c:Nat},σ c=none->c≠b:=fun {c} hc=>by rintro rfl;rw [hb] at hc;cases hc
 generalize readU s p 0=R at *
 obtain ⟨u,p1,e1⟩:=R
 dsimp only at *
 refine ACalls.retd (K:=fun v σ'=>GotC s b σ G (Go.A.deep v) σ') ?_ (fun v σ' h=>h)
 obtain ⟨F,hF⟩:∃ F,F=ACode.wp Tryz.prog c56_47:=⟨_,rfl⟩
 have hz:Go.A.deep (.agg [.int .i64 0,.int .i64 0,.str [],.int .i64 0,.int .i64 0,.bool false,.bool false,.int .i64 0,.int .i64 0,.bool false,.bool false,.sl .full [],.nili])=zTC.av:=rfl
 have hgo:∀ (τ:ASt) (c4 c6 P:Nat) (op n:Int) (x:List UInt8) (a c:Ref) (kv:AV) (ks:List Nd) (a0:AFr),P<=s.length->U8 τ->τ b=rd s P 0->Go.A.deep kv = .sl .shr (ks.map Nd.av)->kv.leaf=true->kv.cells = [kv]->kv.isAny=false →
   τ c4=some (.obj [.int .i64 0,.int .i64 0,.str [],.int .i64 0,.int .i64 0,.bool false,.bool false,.int .i64 0,.int .i64 0,.bool false,.bool false,.sl .full [],.nili])->τ c6=some (.obj (headCs op n x a c kv ++ [.nili]))->σ c4=none->σ c6=none->c4≠c6->(∀ y,y≠b->σ y=τ y\/σ y=none) →
   (a0 0 = .ptr b 0/\a0 4 = .ptr c4 0/\a0 6 = .ptr c6 0)->F (RetQ [.c 4 (some 13),.t 5] fun v σ'=>GotC s b σ (endC (.mk op n x a c ks) (getV s P)) (Go.A.deep v) σ') a0 τ:=by
  intro τ c4 c6 P op n x a c kv ks a0 hP hU2 hτb hkv hkl hkc hka h4 h6 hs4 hs6 h46 hout hf
  have n4:=hbne hs4
  have n6:=hbne hs6
  have n4':b≠c4:=Ne.symm n4
  have n6':b≠c6:=Ne.symm n6
  have h64:c6≠c4:=Ne.symm h46
  have hV:=hV τ P hP hU2 hτb
  have hdr:∀ (X:Option Role) (Y Z:Option Role),Drop (((τ.set b X).set c6 Y).set c4 Z) (σ.set b X):=fun X Y Z y=>by
   by_cases hy4:y=c4
   ·rw [hy4,ASt.set_ne n4];exact .inr hs4
   by_cases hy6:y=c6
   ·rw [hy6,ASt.set_ne n6];exact .inr hs6
   rw [ASt.set_ne hy4,ASt.set_ne hy6]
   by_cases hyb:y=b
   ·rw [hyb,ASt.set_same,ASt.set_same];exact .inl rfl
   ·rw [ASt.set_ne hyb,ASt.set_ne hyb];exact hout y hyb
  have hdr2:∀ (X:Option Role) (Z:Option Role),Drop ((τ.set b X).set c4 Z) (σ.set b X):=fun X Z y=>by
   by_cases hy4:y=c4
   ·rw [hy4,ASt.set_ne n4];exact .inr hs4
   rw [ASt.set_ne hy4]
   by_cases hyb:y=b
   ·rw [hyb,ASt.set_same,ASt.set_same];exact .inl rfl
   ·rw [ASt.set_ne hyb,ASt.set_ne hyb];exact hout y hyb
  rw [hF]
  simp (disch:=first|assumption|omega|(simp only [List.length_append,List.length_cons,List.length_nil];omega)) only [go_sem,hf]
  refine hV.mono ?_
  rintro v σ1 ⟨rfl,P2,E2,rfl,hPE⟩
  generalize getV s P=V at *
  obtain ⟨vv,ve,vp⟩:=V
  dsimp only at hPE ⊢
  unfold endC
  dsimp only
  by_cases hve:ve=0
  ·subst hve
   rw [if_neg (by simp)]
   obtain ⟨rfl,rfl⟩:=hPE rfl
   have hcell:Go.A.deep (.agg [.int .i64 op,.int .i64 n,.str x,.int .i64 a.row,.int .i64 a.col,.bool a.absRow,.bool a.absCol,.int .i64 c.row,.int .i64 c.col,.bool c.absRow,.bool c.absCol,kv,vv.av])=TC.av ⟨.mk op n x a c ks,some vv⟩:=by
    simp only [deep_agg,deeps_cons,deeps_nil,deep_int,deep_str,deep_bool,hkv,pv_deep]
    rfl
   have hEm:=tcEmpty_ok ⟨.mk op n x a c ks,some vv⟩
   have h6':τ c6=some (.obj [.int .i64 op,.int .i64 n,.str x,.int .i64 a.row,.int .i64 a.col,.bool a.absRow,.bool a.absCol,.int .i64 c.row,.int .i64 c.col,.bool c.absRow,.bool c.absCol,kv,.nili]):=h6
   have va:=PV.av_any vv
   have vl:=PV.av_leaf vv
   have vc:=PV.av_cells vv
   generalize TC.empty ⟨.mk op n x a c ks,some vv⟩=emp at *
   obtain ⟨cav,hcav⟩:∃ cav,TC.av ⟨.mk op n x a c ks,some vv⟩=cav:=⟨_,rfl⟩
   rw [hcav] at hEm hcell
   generalize vv.av=w at *
   simp (disch:=first|assumption|omega|(simp only [List.length_append,List.length_cons,List.length_nil];omega)) only [go_sem,hf,h6',va,vl,vc]
   refine ACalls.deep (args' := [cav]) (by rw [deeps_cons,hcell];rfl) (hEm.use ?_)
   cases emp with
   | true=>
     rw [if_pos rfl]
     simp (disch:=first|assumption|omega|(simp only [List.length_append,List.length_cons,List.length_nil];omega)) only [go_sem,hf,h4]
     exact retC_by (hdr _ _ _) (.refl _) ⟨rfl,P2,0,rfl,fun h=>by cases h⟩
   | false=>
     rw [if_neg (by simp)]
     simp (disch:=first|assumption|omega|(simp only [List.length_append,List.length_cons,List.length_nil];omega)) only [go_sem,hf,h4,hkl,hkc,hka,va,vl,vc]
     exact retC_by (hdr _ _ _) (.refl _) ⟨by rw [hcav,← hcell];rfl,P2,0,rfl,fun _=>⟨rfl,rfl⟩⟩
  ·rw [if_pos hve]
   simp (disch:=first|assumption|omega|(simp only [List.length_append,List.length_cons,List.length_nil];omega)) only [go_sem,hf,hve,h4]
   exact retC_by (hdr2 _ _) (.refl _) ⟨rfl,P2,E2,rfl,fun h=>absurd h hve⟩
 refine a56 (by simp) ?_
 simp (disch:=first|assumption|omega|(simp only [List.length_append,List.length_cons,List.length_nil];omega)) only [go_sem]
 refine allocC_by fun c4 h4=>?_
 have n4:=hbne h4
 have n4':b≠c4:=Ne.symm n4
 simp (disch:=first|assumption|omega|(simp only [List.length_append,List.length_cons,List.length_nil];omega)) only [go_sem]
 refine allocC_by fun c6 h6=>?_
 repeat (with_reducible replace h6:=set_none h6;obtain ⟨_,_,h6⟩:=h6)
 have n6:=hbne h6
 have n6':b≠c6:=Ne.symm n6
 have h64:c6≠c4:=by assumption
 have h46:c4≠c6:=Ne.symm h64
 obtain ⟨Z,hZ⟩:∃ Z,Z=([.int .i64 0,.int .i64 0,.str [],.int .i64 0,.int .i64 0,.bool false,.bool false,.int .i64 0,.int .i64 0,.bool false,.bool false,.sl .full [],.nili]:List AV):=⟨_,rfl⟩
 rw [<-hZ] at hgo hz ⊢
 have hZl:Z.length=13:=by rw [hZ];rfl
 have hZv:leaves Z=true:=by rw [hZ];rfl
 have hZt:Z.take 13=Z:=by rw [hZ];rfl
 have hZd:Z.drop 13 = []:=by rw [hZ];rfl
 have hgz:∀ e:Int,Go.A.deep (.tuple [.agg Z,.int .i64 e]) = .tuple [zTC.av,.int .i64 e]:=fun e=>by rw [deep_tuple,deeps_cons,hz];rfl
 have hdr:∀ (X:Option Role) (A B C:Option Role),Drop ((((σ.set c4 A).set c6 B).set b X).set c4 C) (σ.set b X):=fun X A B C y=>by
  by_cases hy4:y=c4
  ·rw [hy4,ASt.set_ne n4];exact .inr h4
  rw [ASt.set_ne hy4]
  by_cases hyb:y=b
  ·rw [hyb,ASt.set_same,ASt.set_same];exact .inl rfl
  rw [ASt.set_ne hyb,ASt.set_ne hyb]
  by_cases hy6:y=c6
  ·rw [hy6];exact .inr h6
  rw [ASt.set_ne hy6,ASt.set_ne hy4];exact .inl rfl
 have hU2:∀ (P:Nat) (E:Int),U8 (((σ.set c4 (some (.obj Z))).set c6 (some (.obj Z))).set b (rd s P E)):=fun P E=>by
  have h1:U8 ((σ.set c4 (some (.obj Z))).set c6 (some (.obj Z))):=(hU.set h4).set (by rw [ASt.set_ne h64];exact h6)
  exact U8.rd h1 (p:=p) (e:=0) (by rw [ASt.set_ne n6',ASt.set_ne n4'];exact hb) P E
 have hR:=hR ((σ.set c4 (some (.obj Z))).set c6 (some (.obj Z))) (by rw [ASt.set_ne n6',ASt.set_ne n4'];exact hb)
 have hE1:=hE (((σ.set c4 (some (.obj Z))).set c6 (some (.obj Z))).set b (rd s p1 e1)) p1 e1 (ASt.set_same _ _ _)
 simp (disch:=first|assumption|omega|(simp only [List.length_append,List.length_cons,List.length_nil];omega)) only [go_sem]
 refine hR.mono ?_
 rintro v σ1 ⟨rfl,rfl⟩
 simp (disch:=first|assumption|omega|(simp only [List.length_append,List.length_cons,List.length_nil];omega)) only [go_sem]
 refine hE1.mono ?_
 rintro v σ1 ⟨rfl,rfl⟩
 by_cases he1:e1=0
 ·subst he1
  rw [if_neg (by simp)] at hG
  by_cases hu2:2<u
  ·rw [if_pos (.inl hu2)] at hG
   subst hG
   have hu2':(2:Int)<(u:Int):=by omega
   simp (disch:=first|assumption|omega|(simp only [List.length_append,List.length_cons,List.length_nil];omega)) only [go_sem,hu2',hZl,hZv,hZt,hZd,List.drop_zero]
   exact retC_by (hdr _ _ _ _) (.refl _) ⟨hgz 3,p1,0,rfl,fun h=>by cases h⟩
  have hu2':¬ (2:Int)<(u:Int):=by omega
  by_cases hu0:u=0
  ·subst hu0
   cases em with
   | false=>
     rw [if_pos (.inr ⟨rfl,rfl⟩)] at hG
     subst hG
     simp (disch:=first|assumption|omega|(simp only [List.length_append,List.length_cons,List.length_nil];omega)) only [go_sem,hZl,hZv,hZt,hZd,List.drop_zero]
     exact retC_by (hdr _ _ _ _) (.refl _) ⟨hgz 3,p1,0,rfl,fun h=>by cases h⟩
   | true=>
     rw [if_neg (by simp),if_pos rfl] at hG
     subst hG
     simp (disch:=first|assumption|omega|(simp only [List.length_append,List.length_cons,List.length_nil];omega)) only [go_sem,hZl,hZv,hZt,hZd,List.drop_zero]
     exact retC_by (hdr _ _ _ _) (.refl _) ⟨hgz 0,p1,0,rfl,fun _=>⟨rfl,rfl⟩⟩
  have hu0':¬ (u:Int)=0:=by omega
  rw [if_neg (by rintro (h|⟨h,_⟩)<;>omega),if_neg hu0] at hG
  by_cases hk2:u=2
  ·subst hk2
   rw [if_pos rfl] at hG
   have hT:=hT (((σ.set c4 (some (.obj Z))).set c6 (some (.obj Z))).set b (rd s p1 0)) p1 f2 (hU2 p1 0) (ASt.set_same _ _ _)
   have hTF:=hTF p1 f2
   generalize treeR s 2101 p1=T at *
   obtain ⟨t,te,P,E⟩:=T
   obtain ⟨op,n,x,ra,rc,ks⟩:=t
   rw [ASt.set_set] at hT
   dsimp only at hT hTF hG
   rw [Nd.av_cs] at hT
   unfold Nd.cs at hT
   have hkv:Go.A.deep (.sl .shr (ks.map Nd.av)) = .sl .shr (ks.map Nd.av):=by rw [deep_sl,deeps_map]
   have hgo:=hgo
   by_cases hte:te=0
   ·subst hte
    obtain rfl:=hTF.2 rfl
    rw [if_neg (by simp)] at hG
    subst hG
    have hgo:=fun (τ:ASt) (a0:AFr)=>hgo τ c4 c6 P op n x ra rc (.sl .shr (ks.map Nd.av)) ks a0 hTF.1
    generalize ks.map Nd.av=KL at *
    simp (disch:=first|assumption|omega|(simp only [List.length_append,List.length_cons,List.length_nil];omega)) only [go_sem,←hF]
    refine hT.mono ?_
    rintro v σ1 ⟨rfl,rfl⟩
    simp (disch:=first|assumption|omega|(simp only [List.length_append,List.length_cons,List.length_nil];omega)) only [go_sem,←hF]
    refine allocC_by fun c8 h8=>?_
    have h8b:c8≠b:=by rintro rfl;unfold A.rd at h8;rw [ASt.set_same] at h8;cases h8
    rw [ASt.set_ne h8b] at h8
    have h86:c8≠c6:=by rintro rfl;rw [ASt.set_same] at h8;cases h8
    rw [ASt.set_ne h86] at h8
    have h84:c8≠c4:=by rintro rfl;rw [ASt.set_same] at h8;cases h8
    rw [ASt.set_ne h84] at h8
    have h6b:c6≠c8:=Ne.symm h86
    have hZ6:Z.drop 12 = [.nili]:=by rw [hZ];rfl
    have h8b':b≠c8:=Ne.symm h8b
    have h84':c4≠c8:=Ne.symm h84
    simp (disch:=first|assumption|omega|(simp only [List.length_append,List.length_cons,List.length_nil];omega)) only [go_sem,hZl,hZ6,ASt.set_set,←hF]
    have hS8:(((σ.set c4 (some (.obj Z))).set c6 (some (.obj Z))).set b (rd s P 0)) c8=none:=by rw [ASt.set_ne h8b,ASt.set_ne h86,ASt.set_ne h84];exact h8
    refine hgo _ _ (U8.objs (cs:=Z) (U8.set (hU2 P 0) hS8) ?_) ?_ hkv rfl rfl rfl ?_ (ASt.set_same _ _ _) h4 h6 h46 (fun y hy=>?_) ?_
    ·rw [ASt.set_ne h6b,ASt.set_ne n6,ASt.set_same]
    ·rw [ASt.set_ne n6',ASt.set_ne h8b',ASt.set_same]
    ·rw [ASt.set_ne h46,ASt.set_ne h84',ASt.set_ne n4,ASt.set_ne h46,ASt.set_same,hZ]
    ·by_cases y4:y=c4
     ·rw [y4];exact .inr h4
     by_cases y6:y=c6
     ·rw [y6];exact .inr h6
     by_cases y8:y=c8
     ·rw [y8];exact .inr h8
     rw [ASt.set_ne y6,ASt.set_ne y8,ASt.set_ne hy,ASt.set_ne y6,ASt.set_ne y4]
     exact .inl rfl
    ·simp (disch:=first|assumption|omega|(simp only [List.length_append,List.length_cons,List.length_nil];omega)) only [go_sem]
   ·rw [if_pos hte] at hG
    subst hG
    generalize ks.map Nd.av=KL at *
    simp (disch:=first|assumption|omega|(simp only [List.length_append,List.length_cons,List.length_nil];omega)) only [go_sem,←hF]
    refine hT.mono ?_
    rintro v σ1 ⟨rfl,rfl⟩
    simp (disch:=first|assumption|omega|(simp only [List.length_append,List.length_cons,List.length_nil];omega)) only [go_sem,←hF]
    refine allocC_by fun c8 h8=>?_
    have h8b:c8≠b:=by rintro rfl;unfold A.rd at h8;rw [ASt.set_same] at h8;cases h8
    rw [ASt.set_ne h8b] at h8
    have h86:c8≠c6:=by rintro rfl;rw [ASt.set_same] at h8;cases h8
    rw [ASt.set_ne h86] at h8
    have h84:c8≠c4:=by rintro rfl;rw [ASt.set_same] at h8;cases h8
    rw [ASt.set_ne h84] at h8
    have h84':c4≠c8:=Ne.symm h84
    simp (disch:=first|assumption|omega|(simp only [List.length_append,List.length_cons,List.length_nil];omega)) only [go_sem,hte,hZl,hZv,hZt,hZd,List.drop_zero,ASt.set_set,←hF]
    refine retC_by (σ':=σ.set b (rd s P E)) (fun y=>?_) (.refl _) ⟨(by first|exact hgz te|(have h:=hgz te;rw [hZ] at h;exact h)),P,E,rfl,fun h=>absurd h hte⟩
    by_cases y4:y=c4
    ·rw [y4,ASt.set_ne n4];exact .inr h4
    by_cases y6:y=c6
    ·rw [y6,ASt.set_ne n6];exact .inr h6
    by_cases y8:y=c8
    ·rw [y8,ASt.set_ne h8b];exact .inr h8
    rw [ASt.set_ne y4,ASt.set_ne y8]
    by_cases yb:y=b
    ·rw [yb,ASt.set_same,ASt.set_same];exact .inl rfl
    rw [ASt.set_ne yb,ASt.set_ne yb,ASt.set_ne y6,ASt.set_ne y4]
    exact .inl rfl
  ·rw [if_neg hk2] at hG
   subst hG
   have hk2':¬ (u:Int)=2:=by omega
   simp (disch:=first|assumption|omega|(simp only [List.length_append,List.length_cons,List.length_nil];omega)) only [go_sem,hu2',hu0',hk2',←hF]
   refine hgo _ c4 c6 p1 0 0 [] .zero .zero (.sl .full []) [] _ f2 (hU2 p1 0) (ASt.set_same _ _ _) rfl rfl rfl rfl ?_ ?_ h4 h6 h46 (fun y hy=>?_) ?_
   ·rw [ASt.set_ne n4,ASt.set_ne h46,ASt.set_same,hZ]
   ·rw [ASt.set_ne n6,ASt.set_same,hZ];rfl
   ·by_cases y4:y=c4
    ·rw [y4];exact .inr h4
    by_cases y6:y=c6
    ·rw [y6];exact .inr h6
    rw [ASt.set_ne hy,ASt.set_ne y6,ASt.set_ne y4]
    exact .inl rfl
   ·simp (disch:=first|assumption|omega|(simp only [List.length_append,List.length_cons,List.length_nil];omega)) only [go_sem]
 ·rw [if_pos he1] at hG
  subst hG
  simp (disch:=first|assumption|omega|(simp only [List.length_append,List.length_cons,List.length_nil];omega)) only [go_sem,he1,hZl,hZv,hZt,hZd,List.drop_zero]
  refine hE1.mono ?_
  rintro v σ1 ⟨rfl,rfl⟩
  simp (disch:=first|assumption|omega|(simp only [List.length_append,List.length_cons,List.length_nil];omega)) only [go_sem,hZl,hZv,hZt,hZd,List.drop_zero]
  exact retC_by (hdr _ _ _ _) (.refl _) ⟨hgz e1,p1,e1,rfl,fun h=>absurd h he1⟩
end Go.A
namespace Go.A
open Go.Vint
theorem numsB_drop {l:List Int} {i:Nat} {g:Int} (h:l[i]? = some g):numsB (l.drop i)=uintB g.toNat++numsB (l.drop (i+1)):=by
 obtain ⟨h1,h2⟩:=List.getElem?_eq_some_iff.1 h
 rw [List.drop_eq_getElem_cons h1,h2];rfl
theorem take_last {L:List Int} {j:Nat} {y:Int} (h:L[j]? = some y):(L.take (j+1)).getLast? = some y:=by
 obtain ⟨h1,h2⟩:=List.getElem?_eq_some_iff.1 h
 rw [List.take_succ_eq_append_getElem h1,h2];simp
theorem take_snoc {L:List Int} {j:Nat} {y:Int} (h:L[j]? = some y):L.take j ++ [y]=L.take (j+1):=by
 obtain ⟨h1,h2⟩:=List.getElem?_eq_some_iff.1 h
 rw [List.take_succ_eq_append_getElem h1,h2]
theorem gap_at {L:List Int} (hL:Rises L) {i:Nat} {x:Int} (hx:L[i]? = some x):∃ g:Nat,(gaps L)[i]? = some (g:Int)/\g<18446744073709551616 ∧
  ((i=0/\x=g)\/∃ j y,i=j+1/\L[j]? = some y/\0<=y/\y+g+1=x/\x<=18446744073709551615):=by
 obtain ⟨x0,x1⟩:=hL.at_ hx
 cases i with
 | zero=>exact ⟨x.toNat,by rw [gaps_zero hx];congr 1;omega,by omega,.inl ⟨rfl,by omega⟩⟩
 | succ j=>
   have hlt:=(List.getElem?_eq_some_iff.1 hx).1
   have hy : L[j]? = some (L[j]'(by omega)) := List.getElem?_eq_getElem (by omega)
   obtain ⟨y, hyy⟩ : ∃ y, L[j]'(by omega) = y := ⟨_, rfl⟩
   rw [hyy] at hy
   obtain ⟨y0,y1⟩:=hL.at_ hy
   have:=hL.2 j y x hy hx
   exact ⟨(x-y-1).toNat,by rw [gaps_succ hy hx];congr 1;omega,by omega,.inr ⟨j,y,rfl,hy,y0,by omega,x1⟩⟩
theorem risF_back {L:List Int} (hL:Rises L) {s r:List UInt8}:∀ (k i p:Nat),i+k=L.length->s.drop p=numsB ((gaps L).drop i)++r->risF s k (L.take i) p 0=(L,p+(numsB ((gaps L).drop i)).length,0)
 | 0,i,p,hk,h=>by
   have e1:L.take i=L:=List.take_of_length_le (by omega)
   have e2:(gaps L).drop i = []:=List.drop_eq_nil_of_le (by rw [gaps_length];omega)
   rw [e1,e2];rfl
 | k+1,i,p,hk,h=>by
   have hx : L[i]? = some (L[i]'(by omega)) := List.getElem?_eq_getElem (by omega)
   obtain ⟨x, hxx⟩ : ∃ x, L[i]'(by omega) = x := ⟨_, rfl⟩
   rw [hxx] at hx
   obtain ⟨g,hg,hg1,hcase⟩:=gap_at hL hx
   have hn:=numsB_drop hg
   rw [Int.toNat_natCast] at hn
   rw [hn,List.append_assoc] at h
   have hr:=readU_uint h hg1
   have hd:=drop_app h
   have ih:=risF_back hL k (i+1) (p+(uintB g).length) (by omega) hd
   rw [hn,List.length_append,← Nat.add_assoc,← ih]
   rcases hcase with ⟨rfl,rfl⟩|⟨j,y,rfl,hy,y0,hxy,x1⟩
   ·rw [risF,if_neg (by simp)]
    simp only [List.take_zero,List.getLast?_nil,hr,List.nil_append]
    rw [<-take_snoc hx,List.take_zero,List.nil_append]
   ·have ha:afterP s p 0 y=(x,p+(uintB g).length,0):=by
     unfold afterP
     rw [hr]
     dsimp only
     rw [if_neg (by omega),hxy,Int.emod_eq_of_lt (by omega) (by omega)]
    rw [show risF s (k+1) (L.take (j+1)) p 0=risF s k (L.take (j+1) ++ [(afterP s p 0 y).1]) (afterP s p 0 y).2.1 (afterP s p 0 y).2.2 by
     rw [risF,if_neg (by simp),take_last hy]]
    rw [ha]
    dsimp only
    rw [take_snoc hx]
theorem count_back {s r:List UInt8} {p n most:Nat} (h:s.drop p=uintB n++r) (hn:n<=most) (hm:most<=1000000):countP s p 0 most=(n,p+(uintB n).length,0):=by
 have hr:=readU_uint h (by omega)
 unfold countP
 rw [hr]
 dsimp only
 rw [if_neg (by simp),if_neg (by omega)]
theorem risingR_back {L:List Int} (hL:Rises L) {s r:List UInt8} {p most:Nat} (h:s.drop p=risingB L++r) (hn:L.length<=most) (hm:most<=1000000):risingR s p 0 most=(L,p+(risingB L).length,0):=by
 unfold risingB at h ⊢
 rw [List.append_assoc] at h
 have hc:=count_back h hn hm
 have hd:=drop_app h
 have:=risF_back hL (s:=s) (r:=r) L.length 0 (p+(uintB L.length).length) (by omega) (by simpa using hd)
 simp only [List.take_zero,List.drop_zero] at this
 unfold risingR
 rw [hc]
 dsimp only
 rw [this]
 dsimp only
 rw [if_neg (by simp),List.length_append,Nat.add_assoc]
end Go.A
namespace Go.A
open Go.Proofs
/-! 25: tabular/tile.Read -/
def c25_8:ACode := .ops [ oq 30 (.build [(.int .i64 0),(.int .i64 0),(.str []),(.int .i64 0),(.int .i64 0),(.bool false),(.bool false),(.int .i64 0),(.int .i64 0),(.bool false),(.bool false),(.sl .full []),.nili,(.int .i64 0),(.int .i64 0),(.str []),(.int .i64 0),(.int .i64 0),(.bool false),(.bool false),(.int .i64 0),(.int .i64 0),(.bool false),(.bool false),(.sl .full []),.nili,(.int .i64 0),(.int .i64 0),(.str []),(.int .i64 0),(.int .i64 0),(.bool false),(.bool false),(.int .i64 0),(.int .i64 0),(.bool false),(.bool false),(.sl .full []),.nili,(.int .i64 0),(.int .i64 0),(.str []),(.int .i64 0),(.int .i64 0),(.bool false),(.bool false),(.int .i64 0),(.int .i64 0),(.bool false),(.bool false),(.sl .full []),.nili,(.int .i64 0),(.int .i64 0),(.str []),(.int .i64 0),(.int .i64 0),(.bool false),(.bool false),(.int .i64 0),(.int .i64 0),(.bool false),(.bool false),(.sl .full []),.nili,(.int .i64 0),(.int .i64 0),(.str []),(.int .i64 0),(.int .i64 0),(.bool false),(.bool false),(.int .i64 0),(.int .i64 0),(.bool false),(.bool false),(.sl .full []),.nili,(.int .i64 0),(.int .i64 0),(.str []),(.int .i64 0),(.int .i64 0),(.bool false),(.bool false),(.int .i64 0),(.int .i64 0),(.bool false),(.bool false),(.sl .full []),.nili,(.int .i64 0),(.int .i64 0),(.str []),(.int .i64 0),(.int .i64 0),(.bool false),(.bool false),(.int .i64 0),(.int .i64 0),(.bool false),(.bool false),(.sl .full []),.nili,(.int .i64 0),(.int .i64 0),(.str []),(.int .i64 0),(.int .i64 0),(.bool false),(.bool false),(.int .i64 0),(.int .i64 0),(.bool false),(.bool false),(.sl .full []),.nili,(.int .i64 0),(.int .i64 0),(.str []),(.int .i64 0),(.int .i64 0),(.bool false),(.bool false),(.int .i64 0),(.int .i64 0),(.bool false),(.bool false),(.sl .full []),.nili,(.int .i64 0),(.int .i64 0),(.str []),(.int .i64 0),(.int .i64 0),(.bool false),(.bool false),(.int .i64 0),(.int .i64 0),(.bool false),(.bool false),(.sl .full []),.nili,(.int .i64 0),(.int .i64 0),(.str []),(.int .i64 0),(.int .i64 0),(.bool false),(.bool false),(.int .i64 0),(.int .i64 0),(.bool false),(.bool false),(.sl .full []),.nili,(.int .i64 0),(.int .i64 0),(.str []),(.int .i64 0),(.int .i64 0),(.bool false),(.bool false),(.int .i64 0),(.int .i64 0),(.bool false),(.bool false),(.sl .full []),.nili,(.int .i64 0),(.int .i64 0),(.str []),(.int .i64 0),(.int .i64 0),(.bool false),(.bool false),(.int .i64 0),(.int .i64 0),(.bool false),(.bool false),(.sl .full []),.nili,(.int .i64 0),(.int .i64 0),(.str []),(.int .i64 0),(.int .i64 0),(.bool false),(.bool false),(.int .i64 0),(.int .i64 0),(.bool false),(.bool false),(.sl .full []),.nili,(.int .i64 0),(.int .i64 0),(.str []),(.int .i64 0),(.int .i64 0),(.bool false),(.bool false),(.int .i64 0),(.int .i64 0),(.bool false),(.bool false),(.sl .full []),.nili,(.int .i64 0),(.int .i64 0),(.str []),(.int .i64 0),(.int .i64 0),(.bool false),(.bool false),(.int .i64 0),(.int .i64 0),(.bool false),(.bool false),(.sl .full []),.nili,(.int .i64 0),(.int .i64 0),(.str []),(.int .i64 0),(.int .i64 0),(.bool false),(.bool false),(.int .i64 0),(.int .i64 0),(.bool false),(.bool false),(.sl .full []),.nili,(.int .i64 0),(.int .i64 0),(.str []),(.int .i64 0),(.int .i64 0),(.bool false),(.bool false),(.int .i64 0),(.int .i64 0),(.bool false),(.bool false),(.sl .full []),.nili,(.int .i64 0),(.int .i64 0),(.str []),(.int .i64 0),(.int .i64 0),(.bool false),(.bool false),(.int .i64 0),(.int .i64 0),(.bool false),(.bool false),(.sl .full []),.nili,(.int .i64 0),(.int .i64 0),(.str []),(.int .i64 0),(.int .i64 0),(.bool false),(.bool false),(.int .i64 0),(.int .i64 0),(.bool false),(.bool false),(.sl .full []),.nili,(.int .i64 0),(.int .i64 0),(.str []),(.int .i64 0),(.int .i64 0),(.bool false),(.bool false),(.int .i64 0),(.int .i64 0),(.bool false),(.bool false),(.sl .full []),.nili,(.int .i64 0),(.int .i64 0),(.str []),(.int .i64 0),(.int .i64 0),(.bool false),(.bool false),(.int .i64 0),(.int .i64 0),(.bool false),(.bool false),(.sl .full []),.nili,(.int .i64 0),(.int .i64 0),(.str []),(.int .i64 0),(.int .i64 0),(.bool false),(.bool false),(.int .i64 0),(.int .i64 0),(.bool false),(.bool false),(.sl .full []),.nili,(.int .i64 0),(.int .i64 0),(.str []),(.int .i64 0),(.int .i64 0),(.bool false),(.bool false),(.int .i64 0),(.int .i64 0),(.bool false),(.bool false),(.sl .full []),.nili,(.int .i64 0),(.int .i64 0),(.str []),(.int .i64 0),(.int .i64 0),(.bool false),(.bool false),(.int .i64 0),(.int .i64 0),(.bool false),(.bool false),(.sl .full []),.nili,(.int .i64 0),(.int .i64 0),(.str []),(.int .i64 0),(.int .i64 0),(.bool false),(.bool false),(.int .i64 0),(.int .i64 0),(.bool false),(.bool false),(.sl .full []),.nili,(.int .i64 0),(.int .i64 0),(.str []),(.int .i64 0),(.int .i64 0),(.bool false),(.bool false),(.int .i64 0),(.int .i64 0),(.bool false),(.bool false),(.sl .full []),.nili,(.int .i64 0),(.int .i64 0),(.str []),(.int .i64 0),(.int .i64 0),(.bool false),(.bool false),(.int .i64 0),(.int .i64 0),(.bool false),(.bool false),(.sl .full []),.nili,(.int .i64 0),(.int .i64 0),(.str []),(.int .i64 0),(.int .i64 0),(.bool false),(.bool false),(.int .i64 0),(.int .i64 0),(.bool false),(.bool false),(.sl .full []),.nili,(.int .i64 0),(.int .i64 0),(.str []),(.int .i64 0),(.int .i64 0),(.bool false),(.bool false),(.int .i64 0),(.int .i64 0),(.bool false),(.bool false),(.sl .full []),.nili,(.int .i64 0),(.int .i64 0),(.str []),(.int .i64 0),(.int .i64 0),(.bool false),(.bool false),(.int .i64 0),(.int .i64 0),(.bool false),(.bool false),(.sl .full []),.nili] []),oe 31 (.box (.t 30)),oq 7 (.mv (.t 31))]
def c25_22:ACode := .seq (.ops [ oq 37 (.bin .lss (.t 36) (.v (.int .i64 32)))]) (.seq (.cond (.t 37) .skip (.exit 0)) (.seq (.block 1 (.seq (.ops [ oq 38 (.mv (.t 36)),oq 9 (.mv (.t 38))]) (.ops [ oq 39 (.mv (.t 8)),oq 40 (.mv (.t 6)),oq 41 (.conv .i64 (.t 40)),oq 42 (.mv (.t 9)),oe 43 (.call 42 [(.t 41),(.t 42)]),oq 44 (.conv .u64 (.t 43)),oq 45 (.bsl 1 [(.t 44)]),oe 46 (.app 94 1 8 [(.int .u64 0)] (.t 39) (.t 45)),oq 8 (.mv (.t 46))]))) (.ops [ oq 47 (.bin .add (.t 36) (.v (.int .i64 1))),oq 36 (.mv (.t 47))])))
def c25_57:ACode := .seq (.ops [ oq 56 (.bin .lss (.t 55) (.t 54))]) (.seq (.cond (.t 56) .skip (.exit 2)) (.seq (.block 3 (.seq (.ops [ oq 57 (.ia 1 (.t 53) (.t 55)),oq 58 (.ld none (.t 57)),oq 11 (.mv (.t 58))]) (.seq (.seq (.ops [ oq 59 (.mv (.t 11)),oq 60 (.bin .geq (.t 59) (.v (.int .u64 32)))]) (.cond (.t 60) (.seq (.ops [ oq 2 (.mv (.v .nilp)),oq 3 (.mv (.v (.int .i64 0))),oq 4 (.mv (.v (.int .i64 3)))]) .ret) .skip)) (.seq (.ops [ oq 62 (.mv (.t 5)),oq 63 (.mv (.t 6)),oq 64 (.bin .neq (.t 63) (.v (.int .u64 3))),oe 65 (.call 56 [(.t 62),(.t 64)]),oq 61 (.mv (.t 65)),oq 66 (.ext 0 (.t 61)),oq 67 (.ext 1 (.t 61)),oe 12 (.alloc [(.int .i64 0),(.int .i64 0),(.str []),(.int .i64 0),(.int .i64 0),(.bool false),(.bool false),(.int .i64 0),(.int .i64 0),(.bool false),(.bool false),(.sl .full []),.nili]),oz (.store 13 (.t 12) (.t 66)),oq 13 (.mv (.t 67))]) (.seq (.seq (.ops [ oq 68 (.mv (.t 13)),oq 69 (.bin .neq (.t 68) (.v (.int .i64 0)))]) (.cond (.t 69) (.seq (.ops [ oq 70 (.mv (.t 13)),oq 2 (.mv (.v .nilp)),oq 3 (.mv (.v (.int .i64 0))),oq 4 (.mv (.t 70))]) .ret) .skip)) (.ops [ oq 71 (.mv (.t 7)),oq 72 (.mv (.t 11)),oq 73 (.ld (some 13) (.t 12)),oq 74 (.nc (.t 71)),oq 75 (.iaa 32 13 (.t 74) (.t 72)),oz (.store 13 (.t 75) (.t 73))])))))) (.ops [ oq 76 (.bin .add (.t 55) (.v (.int .i64 1))),oq 55 (.mv (.t 76))])))
def c25_71:ACode := .seq (.seq (.ops [ oq 53 (.mv (.t 8)),oq 54 (.len (.t 53)),oq 55 (.mv (.v (.int .i64 0)))]) (.block 2 (.loop c25_57))) (.seq (.seq (.ops [ oq 77 (.mv (.t 5)),oe 78 (.call 57 [(.t 77)]),oq 14 (.mv (.t 78))]) (.seq (.ops [ oq 79 (.mv (.t 14)),oq 80 (.bin .neq (.t 79) (.v (.int .i64 0)))]) (.cond (.t 80) (.seq (.ops [ oq 81 (.mv (.t 14)),oq 2 (.mv (.v .nilp)),oq 3 (.mv (.v (.int .i64 0))),oq 4 (.mv (.t 81))]) .ret) .skip))) (.seq (.ops [ oq 82 (.mv (.t 7)),oq 83 (.mv (.t 6)),oq 84 (.conv .i64 (.t 83)),oq 2 (.mv (.t 82)),oq 3 (.mv (.t 84)),oq 4 (.mv (.v (.int .i64 0)))]) .ret))
def c25_72:ACode := .seq (.seq (.ops [ oq 48 (.mv (.t 5)),oe 49 (.call 54 [(.t 48)]),oq 50 (.bin .neq (.t 49) (.v (.int .i64 0)))]) (.cond (.t 50) (.seq (.ops [ oq 51 (.mv (.t 5)),oe 52 (.call 54 [(.t 51)]),oq 2 (.mv (.v .nilp)),oq 3 (.mv (.v (.int .i64 0))),oq 4 (.mv (.t 52))]) .ret) .skip)) c25_71
def c25_73:ACode := .seq (.seq (.ops [ oq 32 (.mv (.t 6)),oq 33 (.bin .eql (.t 32) (.v (.int .u64 3)))]) (.cond (.t 33) (.ops [ oq 34 (.mv (.t 5)),oe 35 (.call 55 [(.t 34),(.v (.int .i64 32))]),oq 8 (.mv (.t 35))]) (.seq (.ops [ oq 36 (.mv (.v (.int .i64 0)))]) (.block 0 (.loop c25_22))))) c25_72
def c25_74:ACode := .seq (.ops [ oq 8 (.mv (.v (.sl .full [])))]) c25_73
def c25_75:ACode := .seq c25_8 c25_74
def c25_76:ACode := .seq (.seq (.ops [ oq 19 (.mv (.t 5)),oe 20 (.call 54 [(.t 19)]),oq 21 (.bin .eql (.t 20) (.v (.int .i64 0))),oq 22 (.mv (.t 21)),⟨some 23,some (22,true),.q (.mv (.t 6)),[]⟩,⟨some 24,some (22,true),.q (.bin .lss (.t 23) (.v (.int .u64 1))),[]⟩,⟨some 25,some (22,true),.q (.mv (.t 24)),[]⟩,⟨some 26,some (25,false),.q (.mv (.t 6)),[]⟩,⟨some 27,some (25,false),.q (.bin .gtr (.t 26) (.v (.int .u64 3))),[]⟩,⟨some 28,some (22,true),.q (.pick (.t 25) (.v (.bool true)) (.t 27)),[]⟩,oq 29 (.pick (.t 22) (.t 28) (.v (.bool false)))]) (.cond (.t 29) (.seq (.ops [ oq 2 (.mv (.v .nilp)),oq 3 (.mv (.v (.int .i64 0))),oq 4 (.mv (.v (.int .i64 3)))]) .ret) .skip)) c25_75
def c25_77:ACode := .seq (.ops [ oq 17 (.mv (.t 5)),oe 18 (.call 53 [(.t 17)]),oq 6 (.mv (.t 18))]) c25_76
def c25_78:ACode := .seq (.ops [ oq 15 (.mv (.t 0)),oe 16 (.call 52 [(.t 15)]),oq 5 (.mv (.t 16))]) c25_77
def c25_79:ACode := .seq (.ops [ oq 2 (.mv (.v .nilp)),oq 3 (.mv (.v (.int .i64 0))),oq 4 (.mv (.v (.int .i64 0)))]) c25_78
@[go_sem] def c25_22_wp:=wp_of c25_22.eq_1
@[go_sem] def c25_57_wp:=wp_of c25_57.eq_1
@[go_sem] def c25_71_wp:=wp_of c25_71.eq_1
def c25:AFn:=⟨85,[.t 2,.t 3,.t 4],c25_79⟩
theorem c25_ok:compF Tryz.prog Tryz.f25=some c25:=by kernel_rfl
theorem a25 {args:List AV} {σ:ASt} {R:AV->ASt->Prop} (hl:args.length<=85) (h:c25_79.wp Tryz.prog (RetQ [.t 2,.t 3,.t 4] R) (init args) σ):ACalls Tryz.prog 25 args σ R:=acalls_of Tryz.func25 c25_ok hl h
end Go.A
namespace Go.A
open Go.Proofs Go.Lib Go.Vint
theorem endV_place (k y:Int) (z:List UInt8) (p:Nat):(endV k y z p).2.2=p:=by unfold endV;split<;>rfl
theorem getV_facts {s:List UInt8} {p:Nat} (hp:p<=s.length):(getV s p).2.2<=s.length:=by
 obtain ⟨f1,f2,f3,f4⟩:=readU_facts s p 0 hp
 have hq2:=readU_facts s (readU s p 0).2.1 0 f2
 have hx2:=rtxP_facts s (readU s p 0).2.1 2000 f2
 unfold getV
 split
 ·exact f2
 split
 ·split
  ·exact hq2.2.1
  ·rw [endV_place];exact hq2.2.1
 split
 ·split
  ·exact hx2.1
  ·rw [endV_place];exact hx2.1
 ·rw [endV_place];exact f2
theorem endC_place (t:Nd) (G:PV×Int×Nat):(endC t G).2.2=G.2.2:=by
 unfold endC
 split
 ·rfl
 ·split<;>rfl
theorem getC_facts {s:List UInt8} {p:Nat} (hp:p<=s.length) (em:Bool):(getC s p em).2.2<=s.length:=by
 obtain ⟨f1,f2,f3,f4⟩:=readU_facts s p 0 hp
 have ht:=treeR_facts s 2101 (readU s p 0).2.1 f2
 unfold getC
 split
 ·exact f2
 split
 ·exact f2
 split
 ·exact f2
 split
 ·split
  ·exact ht.1
  ·rw [endC_place];exact getV_facts ht.1
 ·rw [endC_place];exact getV_facts f2
theorem risF_place (s:List UInt8):∀ (k:Nat) (l:List Int) (p:Nat) (e:Int),p<=s.length->(∀ x∈l,0<=x/\x<=18446744073709551615)->(risF s k l p e).2.1<=s.length/\∀ x∈(risF s k l p e).1,0<=x/\x<=18446744073709551615
 | 0,l,p,e,hp,hl=>⟨hp,hl⟩
 | k+1,l,p,e,hp,hl=>by
   obtain ⟨f1,f2,f3,f4⟩:=readU_facts s p e hp
   rw [risF]
   split
   ·exact ⟨hp,hl⟩
   ·split
    ·refine risF_place s k _ _ _ f2 fun x hx=>?_
     rcases List.mem_append.1 hx with hx|hx
     ·exact hl x hx
     ·rw [List.mem_singleton.1 hx];omega
    ·rename_i x hx
     have hxm:=hl x (List.mem_of_getLast? hx)
     obtain ⟨g1,g2,g3⟩:=afterP_facts s p e x hp hxm.1 hxm.2
     refine risF_place s k _ _ _ g3 fun y hy=>?_
     rcases List.mem_append.1 hy with hy|hy
     ·exact hl y hy
     ·rw [List.mem_singleton.1 hy];exact ⟨g1,g2⟩
theorem risingR_place {s:List UInt8} {p most:Nat} {e:Int} (hp:p<=s.length):(risingR s p e most).2.1<=s.length/\∀ x∈(risingR s p e most).1,0<=x/\x<=18446744073709551615:=by
 have hc:=countP_facts s p e most hp
 have h:=risF_place s (countP s p e most).1 [] (countP s p e most).2.1 (countP s p e most).2.2 hc.2 (fun x hx=>by cases hx)
 unfold risingR
 split
 ·exact ⟨h.1,fun x hx=>by cases hx⟩
 ·exact h
def cellsR (s:List UInt8) (em:Bool):List Int->Nat->List TC->List TC×Int×Nat
 | [],p,T=>(T,0,p)
 | i::ls,p,T=>if 32<=i then (T,3,p) else if (getC s p em).2.1≠0 then (T,(getC s p em).2.1,p) else cellsR s em ls (getC s p em).2.2 (T.set i.toNat (getC s p em).1)
def finR (s:List UInt8) (u:Nat) (R:List TC×Int×Nat):List TC×Nat×Int:=if R.2.1≠0 then ([],0,R.2.1) else if R.2.2<s.length then ([],0,3) else (R.1,u,0)
def placesL (u:Nat):List Int:=(List.range 32).map fun i=>((placeN (u:Int) i:Nat):Int)
def tileR (s:List UInt8):List TC×Nat×Int:=
 if (readU s 0 0).2.2≠0 then ([],0,(readU s 0 0).2.2)
 else if (readU s 0 0).1<1\/3<(readU s 0 0).1 then ([],0,3)
 else if (readU s 0 0).1=3 then
  if (risingR s (readU s 0 0).2.1 0 32).2.2≠0 then ([],0,(risingR s (readU s 0 0).2.1 0 32).2.2)
  else finR s 3 (cellsR s false (risingR s (readU s 0 0).2.1 0 32).1 (risingR s (readU s 0 0).2.1 0 32).2.1 (List.replicate 32 zTC))
 else finR s (readU s 0 0).1 (cellsR s true (placesL (readU s 0 0).1) (readU s 0 0).2.1 (List.replicate 32 zTC))
def TreadQ (σ:ASt) (R:List TC×Nat×Int) (v:AV) (σ':ASt):Prop:=
 (R.2.2=0/\∃ q,σ q=none/\v = .tuple [.ptr q 0,.int .i64 R.2.1,.int .i64 0]/\σ'=σ.set q (some (.obj (tileCs R.1))))\/(R.2.2≠0/\v = .tuple [.nilp,.int .i64 0,.int .i64 R.2.2]/\σ'=σ)
set_option maxHeartbeats 4000000 in
theorem tread_tail {σ S:ASt} {s:List UInt8} (hs:s.length<=10000000) {b q p u:Nat} (hu:u<=3) (hp:p<=s.length) {kk:SK} {ns:List Int} (hns:∀ x∈ns,0<=x/\x<=18446744073709551615) (hnl:ns.length<=1000) {Zc:List AV} (hZc:deeps Zc=tileCs (List.replicate 32 zTC))
  (hb:S b=rd s p 0) (hq:S q=some (.obj Zc)) (hbq:b≠q) (hsb:σ b=none) (hsq:σ q=none) (hout:∀ x,x≠b->x≠q->σ x=S x\/σ x=none) (hU:U8 S) (a1:AFr)
  (hf:a1 5 = .ptr b 0/\a1 6 = .int .u64 u/\a1 7 = .ptr q 0/\a1 8 = .sl kk (ns.map (AV.int .u64))) :
  ACode.wp Tryz.prog c25_71 (RetQ [.t 2,.t 3,.t 4] (TreadQ σ (finR s u (cellsR s (decide (u≠3)) ns p (List.replicate 32 zTC))))) a1 S:=by
 have hqb:q≠b:=Ne.symm hbq
 obtain ⟨RES,hRES⟩:∃ R,cellsR s (decide (u≠3)) ns p (List.replicate 32 zTC)=R:=⟨_,rfl⟩
 rw [hRES]
 have hS:S=(S.set b (rd s p 0)).set q (some (.obj Zc)):=by
  funext x
  by_cases h1:x=q
  ·rw [h1,ASt.set_same,hq]
  by_cases h2:x=b
  ·rw [h2,ASt.set_ne hbq,ASt.set_same,hb]
  ·rw [ASt.set_ne h1,ASt.set_ne h2]
 have hsd:SDrop ((S.set b (rd s p 0)).set q (some (.obj Zc))) ((S.set b (rd s p 0)).set q (some (.obj (tileCs (List.replicate 32 zTC))))):=SDrop.cong (SDrop.refl _) hZc
 have hUU:∀ (P:Nat) (E:Int) (cs:List AV),U8 ((S.set b (rd s P E)).set q (some (.obj cs))):=fun P E cs=>U8.objs (cs:=Zc) (U8.rd hU hb P E) (by rw [ASt.set_ne hqb];exact hq)
 have hG:=fun (T:List TC) (P:Nat) (hP:P<=s.length) (em:Bool)=>tget_ok (hUU P 0 (tileCs T)) s P b (by rw [ASt.set_ne hbq,ASt.set_same]) hs hP em
 have hsw:∀ (X Y Z:Option Role),((S.set b X).set q Y).set b Z=(S.set b Z).set q Y:=fun X Y Z=>by rw [set_swap hqb,ASt.set_set]
 have hdn:=fun (T:List TC) (P:Nat)=>rdone_ok s P 0 b ((S.set b (rd s P 0)).set q (some (.obj (tileCs T)))) (by rw [ASt.set_ne hbq,ASt.set_same])
 have hdr0:∀ X Y,Drop ((S.set b X).set q Y) σ:=fun X Y x=>by
  by_cases h1:x=q
  ·rw [h1];exact .inr hsq
  by_cases h2:x=b
  ·rw [h2];exact .inr hsb
  rw [ASt.set_ne h1,ASt.set_ne h2]
  exact hout x h2 h1
 have hdr1:∀ X Y,Drop ((S.set b X).set q Y) (σ.set q Y):=fun X Y x=>by
  by_cases h1:x=q
  ·rw [h1,ASt.set_same,ASt.set_same];exact .inl rfl
  rw [ASt.set_ne h1,ASt.set_ne h1]
  by_cases h2:x=b
  ·rw [h2];exact .inr hsb
  rw [ASt.set_ne h2]
  exact hout x h2 h1
 have hnl':((ns.map (AV.int .u64)).length:Int)=(ns.length:Int):=by rw [List.length_map]
 obtain ⟨J,hJ⟩:∃ J:Nat->AFr->ASt->Prop,J=fun j a s2=>j<=ns.length/\(a 5 = .ptr b 0/\a 6 = .int .u64 u/\a 7 = .ptr q 0/\a 53 = .sl kk (ns.map (AV.int .u64))/\a 54 = .int .i64 ns.length/\a 55 = .int .i64 j)/\∃ T P,T.length=32/\P<=s.length/\cellsR s (decide (u≠3)) (ns.drop j) P T=RES/\s2=(S.set b (rd s P 0)).set q (some (.obj (tileCs T))):=⟨_,rfl⟩
 rw [hS]
 simp (disch:=first|assumption|omega|(simp only [List.length_append,List.length_cons,List.length_nil];omega)) only [go_sem,hf,hnl']
 refine wp_loop_by J (fun j=>ns.length-j) 0 (Dr.sdrop hsd ?_) ?_
 ·rw [hJ]
  refine ⟨Nat.zero_le _,?_,_,p,List.length_replicate,hp,hRES,rfl⟩
  simp (disch:=first|assumption|omega|(simp only [List.length_append,List.length_cons,List.length_nil];omega)) only [go_sem,hf]
 clear hf hsd hS hRES hb hq
 intro j a2 s2 hjj
 rw [hJ] at hjj
 obtain ⟨hj,hf,T,P,hTl,hP,hR,rfl⟩:=hjj
 by_cases hlt:j<ns.length
 ·have hlt':(j:Int)<(ns.length:Int):=by omega
  obtain ⟨i,hi⟩:∃ i,ns[j]? = some i:=⟨_,List.getElem?_eq_getElem hlt⟩
  have hib:=hns i (List.mem_of_getElem? hi)
  have hix:(ns.map (AV.int .u64))[j]? = some (.int .u64 i):=by rw [List.getElem?_map,hi];rfl
  have hdrop:ns.drop j=i::ns.drop (j+1):=by
   obtain ⟨_,rfl⟩:=List.getElem?_eq_some_iff.1 hi
   exact List.drop_eq_getElem_cons hlt
  rw [hdrop,cellsR] at hR
  by_cases h32:32<=i
  ·rw [if_pos h32] at hR
   subst hR
   simp (disch:=first|assumption|omega|(simp only [List.length_append,List.length_cons,List.length_nil];omega)) only [go_sem,hf,hlt',hix,h32]
   exact retC_by (hdr0 _ _) (.refl _) (.inr ⟨by rw [finR,if_pos (show (3:Int)≠0 by decide)];exact (by decide:(3:Int)≠0),by rw [finR,if_pos (show (3:Int)≠0 by decide)];rfl,rfl⟩)
  ·rw [if_neg h32] at hR
   have hE:=hG T P hP (decide (u≠3))
   have hGf:=getC_facts hP (decide (u≠3))
   obtain ⟨⟨c,e,P2⟩,hGe⟩:∃ G,getC s P (decide (u≠3))=G:=⟨_,rfl⟩
   rw [hGe] at hE hR hGf
   dsimp only at hR hGf
   have hdec:decide (u≠3) = !decide ((u:Int)=3):=by
    by_cases h3:u=3
    ·rw [h3];rfl
    ·rw [decide_eq_true h3,decide_eq_false (by omega:¬ (u:Int)=3)];rfl
   rw [hdec] at hE
   simp (disch:=first|assumption|omega|(simp only [List.length_append,List.length_cons,List.length_nil];omega)) only [go_sem,hf,hlt',hix,h32]
   refine hE.mono ?_
   rintro v σ1 ⟨rfl,P',E',rfl,hPE⟩
   dsimp only at hPE
   rw [hsw]
   simp (disch:=first|assumption|omega|(simp only [List.length_append,List.length_cons,List.length_nil];omega)) only [go_sem]
   refine allocC_by fun c12 h12=>?_
   have h12q:c12≠q:=by rintro rfl;rw [ASt.set_same] at h12;cases h12
   rw [ASt.set_ne h12q] at h12
   have h12b:c12≠b:=by rintro rfl;unfold A.rd at h12;rw [ASt.set_same] at h12;cases h12
   rw [ASt.set_ne h12b] at h12
   have hs12:σ c12=none:=(hout c12 h12b h12q).elim (fun h=>h.trans h12) id
   have hf1:=TC.cs_leaf c
   have hn1:=TC.cs_len c
   have hset1:=flat_set TC.cs_len c T i.toNat (by omega)
   have hcl:=flat_len TC.cs_len T
   have hTl2:(T.set i.toNat c).length=32:=by rw [List.length_set];exact hTl
   have hcd:∀ T,T.flatMap TC.cs=tileCs T:=fun _=>rfl
   rw [hcd,hcd] at hset1
   rw [hcd] at hcl
   rw [TC.av_cs]
   generalize hT2:T.set i.toNat c=T2 at *
   generalize hC2:tileCs T2=C2 at *
   generalize hC1:tileCs T=C1 at *
   generalize c.cs=mcs at *
   have hb1:i.toNat*13+13<=C1.length:=by omega
   have hi32:i<32:=by omega
   have htk:mcs.take 13=mcs:=List.take_of_length_le (by omega)
   by_cases he:e=0
   ·rw [if_neg (fun h=>h he)] at hR
    obtain ⟨rfl,rfl⟩:=hPE he
    simp (disch:=first|assumption|omega|(simp only [List.length_append,List.length_cons,List.length_nil];omega)) only [go_sem,hf,hf1,hn1,he,hi32,hib,hb1,hset1,htk,Nat.zero_add]
    refine ⟨j+1,by dsimp only;omega,?_⟩
    rw [set_swap h12q,ASt.set_set]
    refine Dr.drop (Drop.set (by rw [ASt.set_ne h12q,ASt.set_ne h12b];exact h12)) ?_
    rw [hJ]
    refine ⟨by omega,?_,T2,P',hTl2,hGf,hR,by rw [hC2]⟩
    simp (disch:=first|assumption|omega|(simp only [List.length_append,List.length_cons,List.length_nil];omega)) only [go_sem,hf]
   ·rw [if_pos he] at hR
    subst hR
    simp (disch:=first|assumption|omega|(simp only [List.length_append,List.length_cons,List.length_nil];omega)) only [go_sem,hf,hf1,hn1,he]
    refine retC_by (σ':=σ) (fun y=>?_) (.refl _) (.inr ⟨by rw [finR,if_pos (by exact he)];exact he,by rw [finR,if_pos (by exact he)];rfl,rfl⟩)
    by_cases y1:y=c12
    ·rw [y1];exact .inr hs12
    rw [ASt.set_ne y1]
    exact hdr0 _ _ y
 ·have hlt':¬ (j:Int)<(ns.length:Int):=by omega
  rw [List.drop_of_length_le (by omega),cellsR] at hR
  subst hR
  have hD:=hdn T P
  by_cases hPl:P<s.length
  ·rw [if_pos hPl] at hD
   simp (disch:=first|assumption|omega|(simp only [List.length_append,List.length_cons,List.length_nil];omega)) only [go_sem,hf,hlt']
   refine hD.mono ?_
   rintro v σ1 ⟨rfl,rfl⟩
   simp (disch:=first|assumption|omega|(simp only [List.length_append,List.length_cons,List.length_nil];omega)) only [go_sem,firstErr]
   exact retC_by (by rw [hsw];exact hdr0 _ _) (.refl _) (.inr ⟨by rw [finR,if_neg (fun h=>h rfl),if_pos (by exact hPl)];exact (by decide:(3:Int)≠0),by rw [finR,if_neg (fun h=>h rfl),if_pos (by exact hPl)];rfl,rfl⟩)
  ·rw [if_neg hPl] at hD
   simp (disch:=first|assumption|omega|(simp only [List.length_append,List.length_cons,List.length_nil];omega)) only [go_sem,hf,hlt']
   refine hD.mono ?_
   rintro v σ1 ⟨rfl,rfl⟩
   simp (disch:=first|assumption|omega|(simp only [List.length_append,List.length_cons,List.length_nil];omega)) only [go_sem,hf]
   exact retC_by (by rw [hsw];exact hdr1 _ _) (.refl _) (.inl ⟨by rw [finR,if_neg (fun h=>h rfl),if_neg (by exact hPl)],q,hsq,by rw [finR,if_neg (fun h=>h rfl),if_neg (by exact hPl)];rfl,by rw [finR,if_neg (fun h=>h rfl),if_neg (by exact hPl)]⟩)
set_option maxHeartbeats 2000000 in
theorem tread_post {σ S:ASt} {s:List UInt8} (hs:s.length<=10000000) {b q p u:Nat} {E:Int} (hu:u<=3) (hp:p<=s.length) {kk:SK} {ns:List Int} (hns:∀ x∈ns,0<=x/\x<=18446744073709551615) (hnl:ns.length<=1000) {Zc:List AV} (hZc:deeps Zc=tileCs (List.replicate 32 zTC))
  (hb:S b=rd s p E) (hq:S q=some (.obj Zc)) (hbq:b≠q) (hsb:σ b=none) (hsq:σ q=none) (hout:∀ x,x≠b->x≠q->σ x=S x\/σ x=none) (hU:U8 S) (a1:AFr)
  (hf:a1 5 = .ptr b 0/\a1 6 = .int .u64 u/\a1 7 = .ptr q 0/\a1 8 = .sl kk (ns.map (AV.int .u64))) {R:List TC×Nat×Int}
  (hR:if E≠0 then R.2.2=E else R=finR s u (cellsR s (decide (u≠3)) ns p (List.replicate 32 zTC))) :
  ACode.wp Tryz.prog c25_72 (RetQ [.t 2,.t 3,.t 4] (TreadQ σ R)) a1 S:=by
 have hE:=rerr_ok s p E b S hb
 obtain ⟨K,hK⟩:∃ K,K=c25_71:=⟨_,rfl⟩
 rw [c25_72.eq_1,← hK]
 by_cases he:E=0
 ·subst he
  rw [if_neg (fun h=>h rfl)] at hR
  subst hR
  simp (disch:=first|assumption|omega|(simp only [List.length_append,List.length_cons,List.length_nil];omega)) only [go_sem,hf]
  refine hE.mono ?_
  rintro v σ1 ⟨rfl,rfl⟩
  simp (disch:=first|assumption|omega|(simp only [List.length_append,List.length_cons,List.length_nil];omega)) only [go_sem]
  rw [hK]
  refine tread_tail (kk:=kk) hs hu hp hns hnl hZc hb hq hbq hsb hsq hout hU _ ?_
  simp (disch:=first|assumption|omega|(simp only [List.length_append,List.length_cons,List.length_nil];omega)) only [go_sem,hf]
 ·rw [if_pos he] at hR
  simp (disch:=first|assumption|omega|(simp only [List.length_append,List.length_cons,List.length_nil];omega)) only [go_sem,hf]
  refine hE.mono ?_
  rintro v σ1 ⟨rfl,rfl⟩
  simp (disch:=first|assumption|omega|(simp only [List.length_append,List.length_cons,List.length_nil];omega)) only [go_sem,hf,he]
  refine hE.mono ?_
  rintro v σ1 ⟨rfl,rfl⟩
  simp (disch:=first|assumption|omega|(simp only [List.length_append,List.length_cons,List.length_nil];omega)) only [go_sem,hf,he]
  refine retC_by (σ':=σ) (fun y=>?_) (.refl _) (.inr ⟨by rw [hR];exact he,by rw [hR];rfl,rfl⟩)
  by_cases y1:y=b
  ·rw [y1];exact .inr hsb
  by_cases y2:y=q
  ·rw [y2];exact .inr hsq
  exact hout y y1 y2
def ordP (u n:Nat):List AV:=(List.range n).map fun (i:Nat)=>AV.int .u64 (placeN (u:Int) i:Nat)
theorem ordP_succ (u n:Nat):ordP u (n+1)=ordP u n ++ [.int .u64 (placeN (u:Int) n:Nat)]:=by
 unfold ordP;rw [List.range_succ,List.map_append];rfl
theorem ordP_len (u n:Nat):(ordP u n).length=n:=by unfold ordP;simp
theorem ordP_all (u:Nat):ordP u 32=(placesL u).map (AV.int .u64):=by unfold ordP placesL;rw [List.map_map];rfl
theorem placesL_at {u:Nat}:∀ x∈placesL u,0<=x/\x<=18446744073709551615:=fun x hx=>by
 obtain ⟨i,hi,rfl⟩:=List.mem_map.1 hx
 have:=placeN_lt (k:=(u:Int)) (List.mem_range.1 hi)
 omega
theorem risF_len {s:List UInt8}:∀ (k:Nat) (l:List Int) (p:Nat) (e:Int),(risF s k l p e).1.length<=l.length+k
 | 0,l,p,e=>Nat.le_refl _
 | k+1,l,p,e=>by
   rw [risF]
   split
   ·show l.length<=l.length+(k+1);omega
   ·split
    ·refine Nat.le_trans (risF_len k _ _ _) ?_;rw [List.length_append];show _+1+k<=_;omega
    ·refine Nat.le_trans (risF_len k _ _ _) ?_;rw [List.length_append];show _+1+k<=_;omega
theorem risingR_len {s:List UInt8} {p most:Nat} {e:Int}:(risingR s p e most).1.length<=most:=by
 have h1:(countP s p e most).1<=most:=by unfold countP;split;exact Nat.zero_le _;split;exact Nat.zero_le _;show (readU s p e).1<=_;omega
 have h:=risF_len (s:=s) (countP s p e most).1 [] (countP s p e most).2.1 (countP s p e most).2.2
 unfold risingR
 split
 ·exact Nat.zero_le _
 ·simp at h;omega
theorem tread_c8:c25_8 = .ops [⟨some 30,none,.q (.build z416 []),[]⟩,⟨some 31,none,.e (.box (.t 30)),[]⟩,⟨some 7,none,.q (.mv (.t 31)),[]⟩]:=by rfl
set_option maxHeartbeats 4000000 in
theorem tread_mid {σ:ASt} (hU:U8 σ) {s:List UInt8} (hs:s.length<=10000000) {b q p1 u:Nat} {e1:Int} (hu:u<=3) (hp:p1<=s.length) {Z:List AV} (hZ:deeps Z=tileCs (List.replicate 32 zTC)) (hb:σ b=none) (hq:σ q=none) (hbq:b≠q) {a1:AFr} (hf:a1 5 = .ptr b 0/\a1 6 = .int .u64 u/\a1 7 = .ptr q 0) {R:List TC×Nat×Int}
  (hR:if u=3 then (if (risingR s p1 e1 32).2.2≠0 then R.2.2=(risingR s p1 e1 32).2.2 else R=finR s 3 (cellsR s false (risingR s p1 e1 32).1 (risingR s p1 e1 32).2.1 (List.replicate 32 zTC))) else (if e1≠0 then R.2.2=e1 else R=finR s u (cellsR s true (placesL u) p1 (List.replicate 32 zTC)))) :
  ACode.wp Tryz.prog c25_74 (RetQ [.t 2,.t 3,.t 4] (TreadQ σ R)) a1 ((σ.set b (rd s p1 e1)).set q (some (.obj Z))):=by
 obtain ⟨K,hK⟩:∃ K,K=c25_72:=⟨_,rfl⟩
 have hqb:q≠b:=Ne.symm hbq
 have hU2:∀ P E,U8 ((σ.set b (rd s P E)).set q (some (.obj Z))):=fun P E=>U8.set (U8.set hU hb) (by rw [ASt.set_ne hqb];exact hq)
 have hout:∀ P E x,x≠b->x≠q->σ x=((σ.set b (rd s P E)).set q (some (.obj Z))) x:=fun P E x h1 h2=>by rw [ASt.set_ne h2,ASt.set_ne h1]
 rw [c25_74.eq_1,c25_73.eq_1,← hK]
 by_cases h3:u=3
 ·subst h3
  rw [if_pos rfl] at hR
  have hRi:=rrising_ok s p1 e1 32 b ((σ.set b (rd s p1 e1)).set q (some (.obj Z))) (by rw [ASt.set_ne hbq,ASt.set_same]) (by omega) hp (by decide)
  have hpl:=risingR_place (s:=s) (p:=p1) (most:=32) (e:=e1) hp
  have hln:=risingR_len (s:=s) (p:=p1) (most:=32) (e:=e1)
  generalize risingR s p1 e1 32=X at *
  obtain ⟨L,p2,e2⟩:=X
  dsimp only at hR hRi hpl hln
  rw [set_swap hqb,ASt.set_set] at hRi
  unfold u64sAV at hRi
  simp (disch:=first|assumption|omega|(simp only [List.length_append,List.length_cons,List.length_nil];omega)) only [go_sem,hf]
  refine hRi.mono ?_
  rintro v σ1 ⟨rfl,rfl⟩
  simp (disch:=first|assumption|omega|(simp only [List.length_append,List.length_cons,List.length_nil];omega)) only [go_sem]
  rw [hK]
  refine tread_post (kk := .shr) (ns:=L) (E:=e2) hs hu hpl.1 hpl.2 (by omega) hZ (by rw [ASt.set_ne hbq,ASt.set_same]) (ASt.set_same _ _ _) hbq hb hq (fun x h1 h2 => .inl (hout _ _ x h1 h2)) (hU2 _ _) _ ?_ hR
  simp (disch:=first|assumption|omega|(simp only [List.length_append,List.length_cons,List.length_nil];omega)) only [go_sem,hf]
 ·rw [if_neg h3] at hR
  have h3':¬ (u:Int)=3:=by omega
  have hdc:decide (u≠3)=true:=decide_eq_true h3
  have hUk:=hU2 p1 e1
  have hout':=hout p1 e1
  have hSb:((σ.set b (rd s p1 e1)).set q (some (.obj Z))) b=rd s p1 e1:=by rw [ASt.set_ne hbq,ASt.set_same]
  have hSq:((σ.set b (rd s p1 e1)).set q (some (.obj Z))) q=some (.obj Z):=ASt.set_same _ _ _
  generalize (σ.set b (rd s p1 e1)).set q (some (.obj Z))=S0 at *
  simp (disch:=first|assumption|omega|(simp only [List.length_append,List.length_cons,List.length_nil];omega)) only [go_sem,hf,h3']
  refine wp_loop_on (fun (i:Nat) a s2=>i<=32/\∃ kk,(a 5 = .ptr b 0/\a 6 = .int .u64 u/\a 7 = .ptr q 0/\a 8 = .sl kk (ordP u i)/\a 36 = .int .i64 i)/\Grown S0 s2 kk (ordP u i).length 1) (fun i=>32-i) 0 ⟨Nat.zero_le _,.full,?_,.inl ⟨rfl,rfl,rfl⟩⟩ ?_
  ·simp (disch:=first|assumption|omega|(simp only [List.length_append,List.length_cons,List.length_nil];omega)) only [go_sem,hf]
   all_goals rfl
  rintro i a2 s2 ⟨hi,kk,hf,hg⟩
  have hln:=ordP_len u i
  by_cases hlt:i<32
  ·have hlt':(i:Int)<32:=by omega
   have hst:=ordP_succ u i
   have hpn:=placeN_lt (k:=(u:Int)) hlt
   have hP:=place_ok (u:Int) i hlt
   generalize placeN (u:Int) i=pn at *
   generalize ordP u i=xs at *
   simp (disch:=first|assumption|omega|(simp only [List.length_append,List.length_cons,List.length_nil];omega)) only [go_sem,hf,hlt']
   refine hP.use ?_
   simp (disch:=first|assumption|omega|(simp only [List.length_append,List.length_cons,List.length_nil];omega)) only [go_sem,hf]
   refine appC_by hg rfl rfl (by rw [hln];simp;omega) (by rw [hln];simp;omega) fun q' s3 hg'=>?_
   simp (disch:=first|assumption|omega|(simp only [List.length_append,List.length_cons,List.length_nil];omega)) only [go_sem,hf]
   refine ⟨i+1,by omega,by omega,q',?_,by rw [hst];simpa using hg'⟩
   rw [hst]
   simp (disch:=first|assumption|omega|(simp only [List.length_append,List.length_cons,List.length_nil];omega)) only [go_sem,hf]
   all_goals simp
  ·have hi32:i=32:=by omega
   subst hi32
   have hlt':¬ ((32:Nat):Int)<32:=by omega
   rw [ordP_all] at hf
   simp (disch:=first|assumption|omega|(simp only [List.length_append,List.length_cons,List.length_nil];omega)) only [go_sem,hf,hlt']
   rw [hK]
   refine tread_post (kk:=kk) (ns:=placesL u) (E:=e1) hs hu hp placesL_at (by unfold placesL;simp) hZ ?_ ?_ hbq hb hq (fun x h1 h2=>?_) ?_ _ ?_ (by rw [hdc];exact hR)
   ·exact hg.at hSb
   ·exact hg.at hSq
   ·rcases hg.drop x with h|h
    ·exact .inl ((hout' x h1 h2).trans h)
    ·exact .inr ((hout' x h1 h2).trans h)
   ·rcases hg with ⟨_,_,rfl⟩|⟨c,T,_,hc,rfl⟩
    ·exact hUk
    ·exact U8.set hUk hc
   ·simp (disch:=first|assumption|omega|(simp only [List.length_append,List.length_cons,List.length_nil];omega)) only [go_sem,hf]
set_option maxHeartbeats 4000000 in
theorem tread_ok {σ:ASt} (hU:U8 σ) (s:List UInt8) (hs:s.length<=10000000):ACalls Tryz.prog 25 [.str s] σ (TreadQ σ (tileR s)):=by
 obtain ⟨R,hR⟩:∃ R,tileR s=R:=⟨_,rfl⟩
 rw [hR]
 obtain ⟨f1,f2,f3,f4⟩:=readU_facts s 0 0 (Nat.zero_le _)
 unfold tileR at hR
 have hI:=fun (b:Nat)=>ruint_ok s 0 0 b (σ.set b (rd s 0 0)) (ASt.set_same _ _ _) (by omega) (Nat.zero_le _)
 have hE:=fun (b P:Nat) (E:Int)=>rerr_ok s P E b (σ.set b (rd s P E)) (ASt.set_same _ _ _)
 have hRi:=fun (b P q:Nat) (E:Int) (τ:ASt) (h:τ b=rd s P E) (hP:P<=s.length)=>rrising_ok s P E 32 b τ h (by omega) hP (by decide)
 have hU1:∀ b,σ b=none->∀ P E,U8 (σ.set b (rd s P E)):=fun b hb P E=>U8.set hU hb
 obtain ⟨RU,hRU⟩:∃ RU,readU s 0 0=RU:=⟨_,rfl⟩
 rw [hRU] at hR f1 f2 f3 hI
 obtain ⟨u,p1,e1⟩:=RU
 dsimp only at hR f1 f2 f3 hI
 obtain ⟨Z,hZ⟩:∃ Z,Z=z416:=⟨_,rfl⟩
 have hs1:=soft416z
 have hl416:=z416_len
 have hc8:=tread_c8
 rw [<-hZ] at hs1 hc8 hl416
 obtain ⟨K,hK⟩:∃ K,K=c25_74:=⟨_,rfl⟩
 refine a25 (by simp) ?_
 rw [c25_79.eq_1,c25_78.eq_1,c25_77.eq_1,c25_76.eq_1,c25_75.eq_1,hc8,← hK]
 clear hZ hc8
 simp (disch:=first|assumption|omega|(simp only [List.length_append,List.length_cons,List.length_nil];omega)) only [go_sem]
 refine (rread_ok s σ).mono ?_
 rintro v σ1 ⟨b,rfl,hb,rfl⟩
 simp (disch:=first|assumption|omega|(simp only [List.length_append,List.length_cons,List.length_nil];omega)) only [go_sem]
 refine (hI b).mono ?_
 rintro v σ1 ⟨rfl,rfl⟩
 simp (disch:=first|assumption|omega|(simp only [List.length_append,List.length_cons,List.length_nil];omega)) only [go_sem,ASt.set_set]
 refine (hE b p1 e1).mono ?_
 rintro v σ1 ⟨rfl,rfl⟩
 by_cases he:e1=0
 ·subst he
  rw [if_neg (fun h=>h rfl)] at hR
  by_cases h1:u<1
  ·have h1':(u:Int)<1:=by omega
   rw [if_pos (.inl h1)] at hR
   subst hR
   simp (disch:=first|assumption|omega|(simp only [List.length_append,List.length_cons,List.length_nil];omega)) only [go_sem,h1']
   refine retC_by (σ':=σ) (Drop.set hb) (.refl _) (.inr ⟨(by decide:(3:Int)≠0),rfl,rfl⟩)
  have h1':¬ (u:Int)<1:=by omega
  by_cases h2:3<u
  ·have h2':(3:Int)<u:=by omega
   rw [if_pos (.inr h2)] at hR
   subst hR
   simp (disch:=first|assumption|omega|(simp only [List.length_append,List.length_cons,List.length_nil];omega)) only [go_sem,h1',h2']
   refine retC_by (σ':=σ) (Drop.set hb) (.refl _) (.inr ⟨(by decide:(3:Int)≠0),rfl,rfl⟩)
  have h2':¬ (3:Int)<u:=by omega
  rw [if_neg (by omega)] at hR
  simp (disch:=first|assumption|omega|(simp only [List.length_append,List.length_cons,List.length_nil];omega)) only [go_sem,h1',h2']
  refine boxC_by rfl fun q hq=>?_
  repeat (with_reducible replace hq:=set_none hq;obtain ⟨_,_,hq⟩:=hq)
  simp (disch:=first|assumption|omega|(simp only [List.length_append,List.length_cons,List.length_nil];omega)) only [go_sem]
  rw [hK]
  refine tread_mid (u:=u) hU hs (by omega) f2 hs1 hb (by assumption) (by rename_i h _ ;exact Ne.symm h) ?_ ?_
  ·simp (disch:=first|assumption|omega|(simp only [List.length_append,List.length_cons,List.length_nil];omega)) only [go_sem]
  ·by_cases h3:u=3
   ·rw [if_pos h3] at hR ⊢
    split at hR
    ·rename_i h;rw [if_pos h,← hR]
    ·rename_i h;rw [if_neg h,← hR]
   ·rw [if_neg h3] at hR ⊢
    rw [if_neg (fun h=>h rfl),← hR]
 ·rw [if_pos he] at hR
  subst hR
  obtain ⟨rfl,rfl⟩:=f3 he
  simp (disch:=first|assumption|omega|(simp only [List.length_append,List.length_cons,List.length_nil];omega)) only [go_sem,he]
  refine boxC_by rfl fun q hq=>?_
  repeat (with_reducible replace hq:=set_none hq;obtain ⟨_,_,hq⟩:=hq)
  simp (disch:=first|assumption|omega|(simp only [List.length_append,List.length_cons,List.length_nil];omega)) only [go_sem]
  rw [hK]
  refine tread_mid (u:=0) hU hs (by omega) f2 hs1 hb (by assumption) (by rename_i h _ ;exact Ne.symm h) ?_ ?_
  ·simp (disch:=first|assumption|omega|(simp only [List.length_append,List.length_cons,List.length_nil];omega)) only [go_sem]
  ·rw [if_neg (by decide),if_pos he]
end Go.A
namespace Go.A
open Go.Proofs Go.Lib Go.Vint
theorem pair_nodup {l:List Int} (h:l.Pairwise (· < ·)):l.Nodup:=List.Pairwise.imp (fun h=>by omega) h
theorem nats_pair {T:List TC} {n:Nat}:(natsI (fullN T n)).Pairwise (· < ·):=by
 have hp:(fullN T n).Pairwise (· < ·):=List.Pairwise.filter _ List.pairwise_lt_range
 unfold natsI
 rw [List.pairwise_map]
 exact hp.imp fun h=>by omega
theorem mem_nats {T:List TC} {x:Int}:x∈natsI (fullN T 32)↔0<=x/\x<32/\hasT T x.toNat=true:=by
 unfold natsI fullN
 rw [List.mem_map]
 constructor
 ·rintro ⟨j,hj,rfl⟩
  obtain ⟨h1,h2⟩:=List.mem_filter.1 hj
  have:=List.mem_range.1 h1
  exact ⟨by omega,by omega,by rw [Int.toNat_natCast];exact h2⟩
 ·rintro ⟨h0,h1,h2⟩
  exact ⟨x.toNat,List.mem_filter.2 ⟨List.mem_range.2 (by omega),h2⟩,by omega⟩
theorem places_nodup {u:Nat} (h:u<=3):(placesL u).Nodup:=by
 have:u=0\/u=1\/u=2\/u=3:=by omega
 rcases this with rfl|rfl|rfl|rfl<;>decide +kernel
theorem places_all {u j:Nat} (h:u<=3) (hj:j<32):(j:Int)∈placesL u:=by
 have h2:∀ u:Nat,u<=3->∀ j:Nat,j<32->(j:Int)∈placesL u:=by decide +kernel
 exact h2 u h j hj
end Go.A
namespace Go.A
open Go.Proofs Go.Lib Go.Vint
def TC.back (c:TC):TC:=if c.empty=true then zTC else ⟨c.t,some c.val⟩
structure TC.neat (c:TC):Prop where
 made:c.made
 plain:c.isF=false->c.t=zNd
 of:ofP (plOf c.val)=c.val
 deep:c.t.depth<=2101
theorem getC_back {s r:List UInt8} {p:Nat} {em:Bool} {c:TC} (hc:c.neat) (he:em=true\/c.empty=false) (hd:s.drop p=c.bytes++r):getC s p em=(c.back,0,p+c.bytes.length):=by
 have hw:=hc.made.wf
 have hV:=fun (q:Nat) (h:s.drop q=putB c.val++r)=>getV_back h hw.good hw.short hc.of
 have hend:∀ (t:Nd) (q:Nat),t=c.t->c.empty=false->s.drop q=putB c.val++r->endC t (getV s q)=(c.back,0,q+(putB c.val).length):=by
  intro t q ht h h2
  have hce:TC.empty ⟨t,some c.val⟩=false:=by rw [ht];exact h
  unfold endC TC.back
  rw [hV q h2]
  dsimp only
  rw [if_neg (fun h=>h rfl),hce,if_neg (by simp),h,if_neg (by simp),ht]
 unfold TC.bytes at hd ⊢
 by_cases h1:c.empty=true
 ·rw [if_pos h1] at hd ⊢
  have hR:=readU_uint hd (by decide)
  have hem:em=true:=he.elim id fun h=>by rw [h1] at h;cases h
  unfold getC
  rw [hR]
  dsimp only
  rw [if_neg (fun h=>h rfl),if_neg (by rintro (h|⟨_,h⟩);omega;rw [hem] at h;cases h),if_pos rfl]
  unfold TC.back
  rw [if_pos h1]
 ·rw [if_neg h1] at hd ⊢
  have h1':c.empty=false:=by simpa using h1
  by_cases h2:c.isF=true
  ·rw [if_pos h2] at hd ⊢
   rw [List.append_assoc,List.append_assoc] at hd
   have hR:=readU_uint hd (by decide)
   have hd2:=drop_app hd
   have hT:=tree_back 2101 c.t (hw.wd h2) hc.deep _ _ hd2
   have hd3:=drop_app hd2
   unfold getC
   rw [hR]
   dsimp only
   rw [if_neg (fun h=>h rfl),if_neg (by rintro (h|⟨h,_⟩)<;>omega),if_neg (by decide),if_pos rfl,hT]
   dsimp only
   rw [if_neg (fun h=>h rfl),hend c.t _ rfl h1' hd3]
   simp only [List.length_append,Nat.add_assoc]
  ·rw [if_neg h2] at hd ⊢
   rw [List.append_assoc] at hd
   have hR:=readU_uint hd (by decide)
   have hd2:=drop_app hd
   unfold getC
   rw [hR]
   dsimp only
   rw [if_neg (fun h=>h rfl),if_neg (by rintro (h|⟨h,_⟩)<;>omega),if_neg (by decide),if_neg (by decide),hend zNd _ (hc.plain (by simpa using h2)).symm h1' hd2,List.length_append,Nat.add_assoc]
theorem cellsR_back {s r:List UInt8} {T:List TC} (hT:T.length=32) (hN:∀ c∈T,c.neat) {em:Bool}:∀ (ls:List Int) (p:Nat) (T0:List TC),ls.Nodup->(∀ x∈ls,0<=x/\x<32/\(em=true\/hasT T x.toNat=true))->T0.length=32->s.drop p=(ls.flatMap fun x=>cellB T x.toNat)++r →
  ∃ T',cellsR s em ls p T0=(T',0,p+(ls.flatMap fun x=>cellB T x.toNat).length)/\T'.length=32/\(∀ j:Nat,(j:Int) ∉ ls->T'[j]? = T0[j]?)/\(∀ x∈ls,T'[x.toNat]? = (T[x.toNat]?).map TC.back)
 | [],p,T0,_,_,h0,_=>⟨T0,rfl,h0,fun _ _=>rfl,fun x hx=>by cases hx⟩
 | i::ls,p,T0,hnd,hls,h0,hd=>by
   obtain ⟨hi0,hi1,hie⟩:=hls i List.mem_cons_self
   obtain ⟨c,hc⟩:∃ c,T[i.toNat]? = some c:=⟨_,List.getElem?_eq_getElem (by omega)⟩
   have hcn:=hN c (List.mem_of_getElem? hc)
   obtain ⟨hni,hnd'⟩:=List.nodup_cons.1 hnd
   rw [List.flatMap_cons,cellB_at hc,List.append_assoc] at hd
   have hce:em=true\/c.empty=false:=hie.imp id fun h=>by
    unfold hasT at h;rw [hc] at h
    have h:(!c.empty)=true:=h
    simpa using h
   have hg:=getC_back hcn hce hd
   obtain ⟨T',k1,k2,k3,k4⟩:=cellsR_back hT hN ls (p+c.bytes.length) (T0.set i.toNat c.back) hnd' (fun x hx=>hls x (List.mem_cons_of_mem _ hx)) (by rw [List.length_set];exact h0) (drop_app hd)
   refine ⟨T',?_,k2,fun j hj=>?_,fun x hx=>?_⟩
   ·rw [cellsR,if_neg (by omega),hg]
    dsimp only
    rw [if_neg (fun h=>h rfl),k1,List.flatMap_cons,cellB_at hc,List.length_append,Nat.add_assoc]
   ·rw [k3 j (fun h=>hj (List.mem_cons_of_mem _ h))]
    exact List.getElem?_set_ne (by rintro rfl;exact hj (by rw [show ((i.toNat:Nat):Int)=i by omega];exact List.mem_cons_self))
   ·rcases List.mem_cons.1 hx with rfl|hx
    ·rw [k3 x.toNat (by rw [show ((x.toNat:Nat):Int)=x by omega];exact hni),hc]
     exact List.getElem?_set_self (by omega)
    ·exact k4 x hx
theorem back_same (c:TC) (hc:c.neat):TC.same c c.back=true:=by
 have hz:Nd.same c.t c.t=true:=Nd.same_refl c.t
 unfold TC.back
 by_cases h1:c.empty=true
 ·rw [if_pos h1]
  have h2:=h1
  unfold TC.empty at h2
  rw [Bool.and_eq_true,decide_eq_true_eq,decide_eq_true_eq] at h2
  have ht:=hc.plain (by unfold TC.isF;rw [decide_eq_true h2.1];rfl)
  have hv:zTC.val = .blank:=rfl
  unfold TC.same
  rw [h2.2,hv,ht]
  decide +kernel
 ·rw [if_neg h1]
  unfold TC.same
  have hv:TC.val ⟨c.t,some c.val⟩=c.val:=rfl
  rw [hv]
  simp [hz]
theorem tileR_back {T:List TC} (hT:T.length=32) (hN:∀ c∈T,c.neat) {k:Nat} (hk1:1<=k) (hk3:k<=3):∃ T',tileR (tileB T (k:Int))=(T',k,0)/\T'.length=32/\∀ (j:Nat) c d,T[j]? = some c->T'[j]? = some d->d=c.back:=by
 obtain ⟨s,hs⟩:∃ s,tileB T (k:Int)=s:=⟨_,rfl⟩
 rw [hs]
 have hfin:∀ (ls:List Int) (em:Bool) (p:Nat),ls.Nodup->(∀ x∈ls,0<=x/\x<32/\(em=true\/hasT T x.toNat=true))->(∀ j:Nat,j<32->(j:Int) ∉ ls->hasT T j=false)->s.drop p=(ls.flatMap fun x=>cellB T x.toNat) →
   ∃ T',finR s k (cellsR s em ls p (List.replicate 32 zTC))=(T',k,0)/\T'.length=32/\∀ (j:Nat) c d,T[j]? = some c->T'[j]? = some d->d=c.back:=by
  intro ls em p hnd hls hno hd
  obtain ⟨T',k1,k2,k3,k4⟩:=cellsR_back (r := []) hT hN ls p (List.replicate 32 zTC) hnd hls List.length_replicate (by rw [List.append_nil];exact hd)
  refine ⟨T',?_,k2,fun j c d hc hdd=>?_⟩
  ·rw [k1]
   unfold finR
   dsimp only
   rw [if_neg (fun h=>h rfl),if_neg]
   rw [<-hd,List.length_drop]
   omega
  ·have hj:j<32:=by have:=(List.getElem?_eq_some_iff.1 hc).1;omega
   by_cases hm:(j:Int)∈ls
   ·have h:=k4 _ hm
    rw [Int.toNat_natCast,hc,hdd] at h
    have h:d=c.back:=Option.some.inj h
    exact h
   ·have h:=k3 j hm
    rw [hdd,List.getElem?_replicate,if_pos hj] at h
    have hz:d=zTC:=Option.some.inj h
    have hh:=hno j hj hm
    unfold hasT at hh
    rw [hc] at hh
    have hh:(!c.empty)=false:=hh
    have he:c.empty=true:=by simpa using hh
    have hb:c.back=zTC:=by unfold TC.back;rw [if_pos he]
    rw [hz,hb]
 unfold tileB at hs
 unfold tileR
 by_cases h3:k=3
 ·subst h3
  rw [if_pos (by decide)] at hs
  have hd:s.drop 0=uintB 3++(risingB (natsI (fullN T 32))++spB T (fullN T 32)):=by rw [List.drop_zero,← hs,List.append_assoc]
  have hR:=readU_uint hd (by decide)
  have hd2:=drop_app hd
  have hris:=fullN_rises T 32 (Nat.le_refl _)
  have hln:(natsI (fullN T 32)).length<=32:=by unfold natsI;rw [List.length_map];exact fullN_le T 32
  have hRi:=risingR_back hris hd2 hln (by decide)
  have hd3:=drop_app hd2
  rw [hR]
  dsimp only
  rw [if_neg (fun h=>h rfl),if_neg (by omega),if_pos rfl,hRi]
  dsimp only
  rw [if_neg (fun h=>h rfl)]
  refine hfin _ false _ (pair_nodup nats_pair) (fun x hx=>?_) (fun j hj hm=>?_) ?_
  ·obtain ⟨h1,h2,h4⟩:=mem_nats.1 hx
   exact ⟨h1,h2,.inr h4⟩
  ·cases hh:hasT T j with
   | false=>rfl
   | true=>exact absurd (mem_nats.2 ⟨by omega,by omega,by rw [Int.toNat_natCast];exact hh⟩) hm
  ·rw [hd3]
   unfold spB natsI
   rw [List.flatMap_map]
   rfl
 ·rw [if_neg (by omega),Int.toNat_natCast] at hs
  have hd:s.drop 0=uintB k++wrT T (k:Int) 32:=by rw [List.drop_zero,← hs]
  have hR:=readU_uint hd (by omega)
  have hd2:=drop_app hd
  rw [hR]
  dsimp only
  rw [if_neg (fun h=>h rfl),if_neg (by omega),if_neg h3]
  refine hfin (placesL k) true _ (places_nodup (by omega)) (fun x hx=>?_) (fun j hj hm=>absurd (places_all (by omega) hj) hm) ?_
  ·have:=placesL_at x hx
   obtain ⟨i,hi,rfl⟩:=List.mem_map.1 hx
   have:=placeN_lt (k:=(k:Int)) (List.mem_range.1 hi)
   exact ⟨by omega,by omega,.inl rfl⟩
  ·rw [hd2]
   unfold wrT placesL
   rw [List.flatMap_map]
   rfl
theorem ofP_txt {p:Pl} {t:List UInt8} (h:ofP p = .text t):(sgT t).isSome=true/\t.length<=2000:=by
 unfold ofP at h
 split at h
 ·split at h<;>cases h
 split at h
 ·split at h
  ·rename_i h2;injection h with h;rw [<-h];exact h2
  ·cases h
 split at h
 ·cases h
 split at h
 ·split at h<;>cases h
 ·cases h
theorem lcC_neat (F:List UInt8) (k n:Int) (S:List UInt8):(lcC F k n S).neat:=by
 refine ⟨lcC_made F k n S,fun h=>?_,of_back _ (ofP_good _) fun t ht=>ofP_txt ht,?_⟩
 ·have h':(!decide ((lcT F).op=0))=false:=h
  show lcT F=zNd
  by_cases he:(parseR (F.take 80)).2.2=0
  ·have hm:=(lcC_made F k n S).nf
   have h2:lcT F=(parseR (F.take 80)).1:=by unfold lcT;rw [if_pos he]
   have hn:=(parseR_nf he).1
   rw [<-h2] at hn
   rw [h2] at h'
   have:¬ (parseR (F.take 80)).1.op=0:=by
    rw [<-h2]
    intro h3
    generalize lcT F=m at *
    cases hn<;>simp only [Nd.op] at h3<;>omega
   rw [decide_eq_false this] at h'
   cases h'
  ·unfold lcT;rw [if_neg he]
 ·show (lcT F).depth<=2101
  unfold lcT
  split
  ·rename_i he
   have h1:=(parseR_small he).2
   have h2:=(parseR (F.take 80)).1.depth_le_size
   have h3:(F.take 80).length<=80:=by rw [List.length_take];omega
   omega
  ·decide
theorem zTC_neat:zTC.neat:=⟨zTC_made,fun _=>rfl,rfl,by decide⟩
end Go.A
namespace Go.A
open Go.Proofs
/-! 6: tabular/tabularlaw20.TileBack -/
def c6_26:ACode := .seq (.ops [ oq 39 (.bin .lss (.t 38) (.v (.int .i64 32)))]) (.seq (.cond (.t 39) .skip (.exit 2)) (.seq (.block 3 (.seq (.ops [ oq 40 (.mv (.t 38)),oq 9 (.mv (.t 40))]) (.seq (.ops [ oq 41 (.mv (.t 3)),oq 42 (.mv (.t 9)),oq 43 (.nc (.t 41)),oq 44 (.iaa 32 13 (.t 43) (.t 42)),oq 45 (.ld (some 13) (.t 44)),oq 46 (.mv (.t 6)),oq 47 (.mv (.t 9)),oq 48 (.nc (.t 46)),oq 49 (.iaa 32 13 (.t 48) (.t 47)),oq 50 (.ld (some 13) (.t 49)),oe 51 (.call 22 [(.t 45),(.t 50)]),oq 52 (.un .not (.t 51))]) (.cond (.t 52) (.seq (.ops [ oq 2 (.mv (.v (.bool false)))]) .ret) .skip)))) (.ops [ oq 53 (.bin .add (.t 38) (.v (.int .i64 1))),oq 38 (.mv (.t 53))])))
def c6_35:ACode := .seq (.seq (.ops [ oq 15 (.mv (.t 5)),oq 16 (.bin .lss (.t 15) (.v (.int .i64 4)))]) (.cond (.t 16) .skip (.exit 0))) (.seq (.block 1 (.seq (.ops [ oq 20 (.mv (.t 3)),oq 21 (.mv (.t 5)),oe 22 (.call 20 [(.t 20),(.t 21)]),oe 23 (.call 25 [(.t 22)]),oq 19 (.mv (.t 23)),oq 24 (.ext 0 (.t 19)),oq 25 (.ext 1 (.t 19)),oq 26 (.ext 2 (.t 19)),oq 6 (.mv (.t 24)),oq 7 (.mv (.t 25)),oq 8 (.mv (.t 26))]) (.seq (.seq (.ops [ oq 27 (.mv (.t 8)),oq 28 (.bin .neq (.t 27) (.v (.int .i64 0))),oq 29 (.mv (.t 28)),⟨some 30,some (29,false),.q (.mv (.t 6)),[]⟩,⟨some 31,some (29,false),.q (.eq .p false (.t 30) (.v .nilp)),[]⟩,oq 32 (.pick (.t 29) (.v (.bool true)) (.t 31)),oq 33 (.mv (.t 32)),⟨some 34,some (33,false),.q (.mv (.t 7)),[]⟩,⟨some 35,some (33,false),.q (.mv (.t 5)),[]⟩,⟨some 36,some (33,false),.q (.bin .neq (.t 34) (.t 35)),[]⟩,oq 37 (.pick (.t 33) (.v (.bool true)) (.t 36))]) (.cond (.t 37) (.seq (.ops [ oq 2 (.mv (.v (.bool false)))]) .ret) .skip)) (.seq (.ops [ oq 38 (.mv (.v (.int .i64 0)))]) (.block 2 (.loop c6_26)))))) (.ops [ oq 17 (.mv (.t 5)),oq 18 (.bin .add (.t 17) (.v (.int .i64 1))),oq 5 (.mv (.t 18))]))
def c6_43:ACode := .seq (.ops [ oq 2 (.mv (.v (.bool false)))]) (.seq (.ops [ oq 11 (.mv (.t 0)),oe 12 (.call 13 [(.t 11)]),oq 10 (.mv (.t 12)),oq 13 (.ext 0 (.t 10)),oq 14 (.ext 1 (.t 10)),oq 3 (.mv (.t 13)),oq 4 (.mv (.t 14))]) (.seq (.seq (.ops [ oq 5 (.mv (.v (.int .i64 1)))]) (.block 0 (.loop c6_35))) (.seq (.ops [ oe 54 (.call 10 []),oq 2 (.mv (.t 54))]) .ret)))
@[go_sem] def c6_26_wp:=wp_of c6_26.eq_1
@[go_sem] def c6_35_wp:=wp_of c6_35.eq_1
@[go_sem] def c6_43_wp:=wp_of c6_43.eq_1
def c6:AFn:=⟨55,[.t 2],c6_43⟩
theorem c6_ok:compF Tryz.prog Tryz.f6=some c6:=by kernel_rfl
theorem a6 {args:List AV} {σ:ASt} {R:AV->ASt->Prop} (hl:args.length<=55) (h:c6_43.wp Tryz.prog (RetQ [.t 2] R) (init args) σ):ACalls Tryz.prog 6 args σ R:=acalls_of Tryz.func6 c6_ok hl h
end Go.A
namespace Go.A
open Go.Proofs Go.Lib Go.Vint
theorem tileB_le {T:List TC} (hw:∀ c∈T,c.wfine) {k:Nat} (h1:1<=k) (h3:k<=3):(tileB T (k:Int)).length<=4000000:=by
 unfold tileB
 have hu:=uintB_le (u:=(k:Int)) (by omega)
 split
 ·have h2:=risingB_len (fullN_rises T 32 (Nat.le_refl _)) (by unfold natsI;rw [List.length_map];have:=fullN_le T 32;omega)
  have h4:(natsI (fullN T 32)).length<=32:=by unfold natsI;rw [List.length_map];exact fullN_le T 32
  have h5:=spB_le hw (fullN T 32)
  have h6:=fullN_le T 32
  have hu3:(uintB 3).length<=10:=by rename_i h;rw [h] at hu;exact hu
  rw [List.length_append,List.length_append]
  omega
 ·have:=wrT_le hw (k:Int) 32
  rw [List.length_append]
  omega
set_option maxHeartbeats 2000000 in
theorem TileBack_any {σ:ASt} (hT:Tab σ) (hM:MaxL σ) (hU:U8 σ) (hV:LV σ) (l:List Md):ACalls Tryz.prog 6 [.sl .shr (l.map Md.av)] σ fun v σ'=>v = .bool true/\σ'=σ:=by
 have hG:=lgrow_ok hU hV l
 have hTl:(grT l).length=32:=grN_len l 40
 have hTn:∀ c∈grT l,c.neat:=grN_all zTC_neat (fun m=>lcC_neat _ _ _ _) l 40
 generalize grT l=T at *
 generalize l.map Md.av=LA at *
 refine a6 (by simp) ?_
 simp (disch:=first|assumption|omega|(simp only [List.length_append,List.length_cons,List.length_nil];omega)) only [go_sem]
 refine hG.mono ?_
 rintro v σ1 ⟨p,hp,rfl,rfl⟩
 have hTA:=TileAt.of (σ:=σ.set p (some (.obj (tileCs T)))) hTl (ASt.set_same _ _ _)
 have T2:=Tab.set (r:=some (.obj (tileCs T))) hT hp
 have M2:=MaxL.set (r:=some (.obj (tileCs T))) hM hp
 have U2:=U8.set (r:=some (.obj (tileCs T))) hU hp
 have dd:=Drop.set (r:=some (.obj (tileCs T))) hp
 generalize T.map TC.rav=RT at *
 generalize σ.set p (some (.obj (tileCs T)))=σ1 at *
 have hA:=tlawake_ok T2 M2 U2
 have hW:=fun (k:Nat) (h1:1<=k) (h3:k<=3)=>twrite_ok hTA (fun c hc=>(hTn c hc).made.wf) (k:Int) (by omega)
 have hln:=fun (k:Nat) (h1:1<=k) (h3:k<=3)=>tileB_le (fun c hc=>(hTn c hc).made.wf) h1 h3
 have hB:=fun (k:Nat) (h1:1<=k) (h3:k<=3)=>tileR_back hTl hTn h1 h3
 obtain ⟨J,hJ⟩:∃ J:Nat->AFr->ASt->Prop,J=fun k a s2=>(1<=k/\k<=4)/\(a 3 = .ptr p 0/\a 5 = .int .i64 k)/\s2=σ1:=⟨_,rfl⟩
 simp (disch:=first|assumption|omega|(simp only [List.length_append,List.length_cons,List.length_nil];omega)) only [go_sem]
 refine wp_loop_by J (fun k=>4-k) 1 (Dr.now ?_) ?_
 ·rw [hJ]
  refine ⟨by decide,?_,rfl⟩
  simp (disch:=first|assumption|omega|(simp only [List.length_append,List.length_cons,List.length_nil];omega)) only [go_sem]
 intro k a1 s2 hjj
 rw [hJ] at hjj
 obtain ⟨⟨hk1,hk4⟩,hf,rfl⟩:=hjj
 by_cases hk:k<4
 ·have hk':(k:Int)<4:=by omega
  have h1:=hW k hk1 (by omega)
  have h2:=hln k hk1 (by omega)
  obtain ⟨T',h3,h4,h5⟩:=hB k hk1 (by omega)
  generalize tileB T (k:Int)=s at *
  have hR:=tread_ok U2 s (by omega)
  rw [h3] at hR
  clear hW hln hB
  simp (disch:=first|assumption|omega|(simp only [List.length_append,List.length_cons,List.length_nil];omega)) only [go_sem,hf,hk']
  refine h1.mono ?_
  rintro v s3 ⟨rfl,rfl⟩
  simp (disch:=first|assumption|omega|(simp only [List.length_append,List.length_cons,List.length_nil];omega)) only [go_sem,hf]
  refine hR.mono ?_
  rintro v s4 (⟨he,q,hq,rfl,rfl⟩|⟨he,_⟩)
  rotate_left
  ·exact absurd rfl he
  dsimp only
  have hpq:p≠q:=by rintro rfl;obtain ⟨cs,h⟩:=hTA.ex;rw [hq] at h;cases h
  have hTP:=hTA.to (σ':=s3.set q (some (.obj (tileCs T')))) (ASt.set_ne hpq)
  have hTQ:=TileAt.of (σ:=s3.set q (some (.obj (tileCs T')))) h4 (ASt.set_same _ _ _)
  have dq:=Drop.set (r:=some (.obj (tileCs T'))) hq
  generalize s3.set q (some (.obj (tileCs T')))=s5 at *
  simp (disch:=first|assumption|omega|(simp only [List.length_append,List.length_cons,List.length_nil];omega)) only [go_sem,hf,eq_self]
  refine wp_loop_on (fun (i:Nat) a s2=>i<=32/\(a 3 = .ptr p 0/\a 5 = .int .i64 k/\a 6 = .ptr q 0/\a 38 = .int .i64 i)/\s2=s5) (fun i=>32-i) 0 ⟨Nat.zero_le _,?_,rfl⟩ ?_
  ·simp (disch:=first|assumption|omega|(simp only [List.length_append,List.length_cons,List.length_nil];omega)) only [go_sem,hf]
  rintro i a2 s6 ⟨hi,hf,rfl⟩
  by_cases hlt:i<32
  ·have hlt':(i:Int)<32:=by omega
   obtain ⟨c,hc⟩:∃ c,T[i]? = some c:=⟨_,List.getElem?_eq_getElem (by omega)⟩
   obtain ⟨d,hd⟩:∃ d,T'[i]? = some d:=⟨_,List.getElem?_eq_getElem (by omega)⟩
   have hcs:=(hTn c (List.mem_of_getElem? hc)).made.size
   have hcd:TC.same c d=true:=by rw [h5 i c d hc hd];exact back_same c (hTn c (List.mem_of_getElem? hc))
   have hdt:d.t=c.t:=by
    have h:=hcd
    unfold TC.same at h
    rw [Bool.and_eq_true] at h
    exact (Nd.same_eq _ _ h.1).symm
   have hS:=tilesame_ok c d (by omega) (by rw [hdt];omega)
   rw [hcd] at hS
   have hl1:=hTP.cell i c hc
   have hl2:=hTQ.cell i d hd
   have hn0:((i:Nat):Int).toNat=i:=rfl
   generalize c.av=cv at *
   generalize d.av=dv at *
   simp (disch:=first|assumption|omega|(simp only [List.length_append,List.length_cons,List.length_nil];omega)) only [go_sem,hf,hlt',hl1,hl2,hn0]
   refine hS.use ?_
   simp (disch:=first|assumption|omega|(simp only [List.length_append,List.length_cons,List.length_nil];omega)) only [go_sem,hf]
   exact ⟨i+1,by omega,by omega,rfl⟩
  ·have hlt':¬ (i:Int)<32:=by omega
   simp (disch:=first|assumption|omega|(simp only [List.length_append,List.length_cons,List.length_nil];omega)) only [go_sem,hf,hlt']
   refine ⟨k+1,by dsimp only;omega,Dr.drop dq ?_⟩
   rw [hJ]
   refine ⟨by omega,?_,rfl⟩
   simp (disch:=first|assumption|omega|(simp only [List.length_append,List.length_cons,List.length_nil];omega)) only [go_sem,hf]
 ·have hk':¬ (k:Int)<4:=by omega
  simp (disch:=first|assumption|omega|(simp only [List.length_append,List.length_cons,List.length_nil];omega)) only [go_sem,hf,hk']
  refine hA.mono ?_
  rintro v s3 ⟨rfl,rfl⟩
  simp (disch:=first|assumption|omega|(simp only [List.length_append,List.length_cons,List.length_nil];omega)) only [go_sem]
  exact retC_by dd (.refl _) ⟨rfl,rfl⟩
end Go.A
namespace Go.Proofs.YtfnhdjigeedieaaGreatDoor
open Go Go.ChangeShapes Go.WideShapes Go.ChangeAt Go.RowKit Go.A Go.Lib Go.Shelf
theorem row_own:ownKnob Tryz.prog.godebug=none:=by kernel_rfl
theorem row_laid:laidOutB Tryz.prog=true:=by kernel_rfl
theorem first_eq:Rows.laid_unicode_utf8_first=firstData:=by kernel_rfl
theorem acc_eq:(Rows.laid_unicode_utf8_acceptRanges:DataW Unit)=acceptData:=by kernel_rfl
theorem u8_extra:U8Extra Tryz.prog Tryz.lays260_ren:=⟨by kernel_rfl,by kernel_rfl,by kernel_rfl,by kernel_rfl,by kernel_rfl,by kernel_rfl,by kernel_rfl⟩
theorem var_size {P:Program} {w:World} {n:String} {d:DataW Unit} (h:VarReads P w n d) {g:Nat} (hg:P.globalNamed n=some g) {t e:TypeId} {k:Nat} (hty:(P.globals[g]?).map (·.type)=some t) (ht:P.underlying t=some (.array k e)) :
  ∃ cs T fr,w.heap[g]? = some (.cells cs T fr)/\cs.size=P.cellsOf t:=by
 obtain ⟨g',t',cs,fuel,p,hg',hty',hvar,hd⟩:=h
 obtain rfl:=Option.some.inj (hg.symm.trans hg')
 obtain rfl:=Option.some.inj (hty.symm.trans hty')
 have hlen:cs.toList.length=P.cellsOf t:=by
  cases fuel with
  | zero=>simp [DataW.trod] at hd
  | succ fuel=>
    simp only [DataW.trod,ht] at hd
    split at hd
    ·assumption
    ·cases hd
 unfold World.var? at hvar
 rw [hg,Option.bind_some] at hvar
 split at hvar
 ·rename_i cs' T fr hheap
  injection hvar with hvar
  subst hvar
  exact ⟨_,_,_,hheap,by simpa using hlen⟩
 ·cases hvar
theorem ints_reps {σ:ASt} {w:World} {k:IntKind}:∀ zs:List Int,Reps σ w (zs.map (AV.int k)) (zs.map (Value.int k))
 | [] => .nil
 | z::zs => .cons (.int k z) (ints_reps zs)
theorem fix_ok {σ:ASt} {W:World} {b:Nat} {zs:List Int} (hs:σ b=some (.fix (zs.map (AV.int .u8)))) {cs:Array Value} {T:TypeId} {fr:Nat×Nat} (hh:W.heap[b]? = some (.cells cs T fr)) (hsz:cs.size=zs.length)
  (hc:∀ j z,zs[j]? = some z->W.cell? ⟨b,j,none⟩=some (.int .u8 z)):RoleOk σ W b (.fix (zs.map (AV.int .u8))):=by
 have hlt:b<W.heap.size:=(Array.getElem?_eq_some_iff.1 hh).1
 refine ⟨At.mk' (ints_reps _) (fun j _=>⟨hlt,.inr (.inl ⟨_,hs⟩)⟩) (fun j v hj=>?_),cs,T,fr,hh,by simpa using hsz⟩
 rw [List.getElem?_map] at hj
 obtain ⟨z,hz,rfl⟩:=Option.map_eq_some_iff.1 hj
 rw [Nat.zero_add]
 exact hc j z hz
def stOf:List (Nat×List AV)->ASt
 | [],_=>none
 | p::ps,b=>if b=p.1 then some (.fix p.2) else stOf ps b
theorem stOf_fix:∀ {ps:List (Nat×List AV)} {b:Nat} {r:Role},stOf ps b=some r->∃ l,r = .fix l
 | [],_,_,h=>by cases h
 | p::ps,b,r,h=>by
   simp only [stOf] at h
   split at h
   ·injection h with h;exact ⟨_,h.symm⟩
   ·exact stOf_fix h
theorem stOf_mem:∀ {ps:List (Nat×List AV)} {b:Nat} {r:Role},stOf ps b=some r->∃ l,(b,l)∈ps/\r = .fix l
 | [],_,_,h=>by cases h
 | p::ps,b,r,h=>by
   simp only [stOf] at h
   split at h
   ·rename_i hb
    injection h with h
    subst hb
    exact ⟨p.2,List.mem_cons_self,h.symm⟩
   ·obtain ⟨l,hl,he⟩:=stOf_mem h
    exact ⟨l,List.mem_cons_of_mem _ hl,he⟩
theorem still_fix {σ:ASt} (hfx:∀ b r,σ b=some r->∃ l,r = .fix l) {w:World} {b o:Nat} (h:b<w.heap.size):Still σ w b o:=by
 refine ⟨h,?_⟩
 cases hb:σ b with
 | none=>exact .inl rfl
 | some r=>obtain ⟨l,rfl⟩:=hfx b r hb;exact .inr (.inl ⟨_,rfl⟩)
end Go.Proofs.YtfnhdjigeedieaaGreatDoor
namespace Go.A
section
variable {σ:ASt} {w:World}
theorem Still.fixed (hfx:∀ b r,σ b=some r->∃ l,r = .fix l) {b o:Nat} (h:Still noRole w b o):Still σ w b o:=by
 refine ⟨h.1,?_⟩
 cases hb:σ b with
 | none=>exact .inl rfl
 | some r=>obtain ⟨l,rfl⟩:=hfx b r hb;exact .inr (.inl ⟨_,rfl⟩)
theorem Stands.fixed (hfx:∀ b r,σ b=some r->∃ l,r = .fix l) (b:Nat):Stands σ b:=by
 refine ⟨fun cs h=>?_,fun l p h=>?_,fun T cs h=>?_⟩<;>(obtain ⟨l,hl⟩:=hfx b _ h;cases hl)
theorem SK.ok_fixed (hfx:∀ b r,σ b=some r->∃ l,r = .fix l) {k:SK} {b o n c sz:Nat} (h:k.ok noRole w b o n c sz):k.ok σ w b o n c sz:=by
 cases k with
 | shr=>trivial
 | full=>exact h
 | tok t s T=>exact ⟨h.1,h.2.1,h.2.2.1,h.2.2.2.1,Stands.fixed hfx b⟩
mutual
theorem Rep.fixed (hfx:∀ b r,σ b=some r->∃ l,r = .fix l):∀ {a:AV} {v:Value},Rep noRole w a v->Rep σ w a v
 | _,_,.any v => .any v
 | _,_,.bool b => .bool b
 | _,_,.int k n => .int k n
 | _,_,.str l => .str l
 | _,_,.ptr b o => .ptr b o
 | _,_,.imm h1 => .imm (h1.fixed hfx)
 | _,_,.nilp => .nilp
 | _,_,.slE A c => .slE A c
 | _,_,.slN => .slN
 | _,_,.sl h1 h2 h3 h4 h5 => .sl (h1.fixed hfx) h2 h3 (SK.ok_fixed hfx h4) h5
 | _,_,.msl b o n c => .msl b o n c
 | _,_,.agg h1 => .agg (h1.fixed hfx)
 | _,_,.tuple h1 => .tuple (h1.fixed hfx)
 | _,_,.iface h1 => .iface (h1.fixed hfx)
 | _,_,.nili => .nili
 | _,_,.func h1 h2 => .func (h1.fixed hfx) (h2.fixed hfx)
 | _,_,.nilf => .nilf
theorem Reps.fixed (hfx:∀ b r,σ b=some r->∃ l,r = .fix l):∀ {avs:List AV} {vs:List Value},Reps noRole w avs vs->Reps σ w avs vs
 | _,_,.nil => .nil
 | _,_,.cons h1 h2 => .cons (h1.fixed hfx) (h2.fixed hfx)
theorem At.fixed (hfx:∀ b r,σ b=some r->∃ l,r = .fix l):∀ {b o:Nat} {avs:List AV},At noRole w b o avs->At σ w b o avs
 | _,_,_,.nil b o => .nil b o
 | _,_,_,.cons h1 h2 h3 h4 => .cons (h1.fixed hfx) h2 (h3.fixed hfx) (h4.fixed hfx)
theorem Row.fixed (hfx:∀ b r,σ b=some r->∃ l,r = .fix l):∀ {b o sz:Nat} {avs:List AV},Row noRole w b o sz avs->Row σ w b o sz avs
 | _,_,_,_,.nil b o sz => .nil b o sz
 | _,_,_,_,.cons h1 h2 h3 => .cons h1 (h2.fixed hfx) (h3.fixed hfx)
end
end
end Go.A
namespace Go.Proofs.YtfnhdjigeedieaaGreatDoor
open Go Go.ChangeShapes Go.WideShapes Go.ChangeAt Go.RowKit Go.A Go.Lib Go.Shelf
theorem u8_roles {σ : ASt} {W : World} (h3 : VarReads Tryz.prog W "unicode/utf8.first" firstData) (h4 : VarReads Tryz.prog W "unicode/utf8.acceptRanges" acceptData) :
  (σ 1=some (.fix (firstTab.map (AV.int .u8)))->RoleOk σ W 1 (.fix (firstTab.map (AV.int .u8))))/\(σ 2=some (.fix (accTab.map (AV.int .u8)))->RoleOk σ W 2 (.fix (accTab.map (AV.int .u8)))):=by
 have hT:=utf8Tabs_of_reads (ρ:=Tryz.lays260_ren) Tryz.lays260 u8_extra h3 h4
 obtain ⟨hT1,hT2⟩:=hT
 have hT1:∀ c,c<256->W.cell? ⟨1,c,none⟩=some (.int .u8 (firstT c)):=hT1
 have hT2:∀ i,i<16->W.cell? ⟨2,2*i,none⟩=some (.int .u8 (accLo i))/\W.cell? ⟨2,2*i+1,none⟩=some (.int .u8 (accHi i)):=hT2
 constructor
 ·intro hs
  obtain ⟨cs,T,fr,hh,hsz⟩:=var_size h3 (g:=1) (by kernel_rfl) u8_extra.y3 (Tryz.lays260.t119)
  refine fix_ok hs hh (hsz.trans (by kernel_rfl)) fun j z hj=>?_
  have hl:=(List.getElem?_eq_some_iff.1 hj).1
  simp only [firstTab,List.length_map,List.length_range] at hl
  simp only [firstTab,List.getElem?_map,List.getElem?_range hl,Option.map_some,Option.some.injEq] at hj
  subst hj
  exact hT1 j hl
 ·intro hs
  obtain ⟨cs,T,fr,hh,hsz⟩:=var_size h4 (g:=2) (by kernel_rfl) u8_extra.y4 (Tryz.lays260.t139)
  refine fix_ok hs hh (hsz.trans (by kernel_rfl)) fun j z hj=>?_
  have hl:=(List.getElem?_eq_some_iff.1 hj).1
  have key:∀ j,j<32->accTab[j]? = some (if j % 2=0 then (accLo (j / 2):Int) else accHi (j / 2)):=by decide
  have hl:j<32:=hl
  rw [key j hl] at hj
  injection hj with hj
  subst hj
  obtain ⟨g1,g2⟩:=hT2 (j / 2) (by omega)
  split
  ·rw [show 2*(j / 2)=j by omega] at g1;exact g1
  ·rw [show 2*(j / 2)+1=j by omega] at g2;exact g2
theorem pow_role {σ : ASt} {W : World} (hfx : ∀ b r, σ b = some r → ∃ l, r = .fix l) (h3 : VarReads Tryz.prog W "internal/strconv.uint64pow10" (Lib.tabData .u64 Lib.pow10Tab)) :
  RoleOk σ W 5 (.fix (Lib.pow10Tab.map (AV.int .u64))):=by
 obtain ⟨g',t',cs,fuel,p,hg',ht',hvar,hd⟩:=h3
 obtain rfl := Option.some.inj ((show Tryz.prog.globalNamed "internal/strconv.uint64pow10" = some 5 by kernel_rfl).symm.trans hg')
 obtain rfl:=Option.some.inj ((show (Tryz.prog.globals[5]?).map (·.type)=some 273 by kernel_rfl).symm.trans ht')
 have hcs:=cells_of_tab (n:=20) (e:=94) (k := .u64) (by kernel_rfl) (by kernel_rfl) (by kernel_rfl) (by kernel_rfl) hd
 unfold World.var? at hvar
 rw [show Tryz.prog.globalNamed "internal/strconv.uint64pow10" = some 5 by kernel_rfl, Option.bind_some] at hvar
 split at hvar
 ·rename_i cs' T fr hheap
  injection hvar with hvar
  have hlt:5<W.heap.size:=(Array.getElem?_eq_some_iff.1 hheap).1
  have he:cs'=(Lib.pow10Tab.map fun z=>Value.int .u64 z).toArray:=by rw [hvar];exact Array.ext' (by simpa using hcs)
  refine ⟨At.mk' (ints_reps _) (fun j _=>still_fix hfx hlt) (fun j v hj=>?_),cs',T,fr,hheap,by rw [he];simp⟩
  simp only [World.cell?,hheap,Nat.zero_add,he]
  simpa using hj
 ·cases hvar
end Go.Proofs.YtfnhdjigeedieaaGreatDoor
namespace Go.Proofs.YtfnhdjigeedieaaGreatDoor
open Go Go.ChangeShapes Go.WideShapes Go.ChangeAt Go.RowKit Go.A Go.Lib Go.Shelf
def vPs:List (Nat×List AV) := [(1,firstTab.map (AV.int .u8)),(2,accTab.map (AV.int .u8)),(5,Lib.pow10Tab.map (AV.int .u64))]
def vSt:ASt:=stOf vPs
end Go.Proofs.YtfnhdjigeedieaaGreatDoor
namespace Go
variable {H:Type} {enc:TypeId×Value->H}
theorem A.returnsInHanded_and_shaped {a:Assume} {C:Checked} {os:Os} {f:FuncId} {fn:Func} {s:ChangeSpec} {conds:List PathCond} {apart fresh handsOn again:Bool} {X:World->Array Value->Prop}
  (hX:∀ (w w':World) (args:Array Value),w.heap=w'.heap->X w args->X w' args)
  (own:ownKnob C.prog.godebug=none) (started:os.Started) (noInit:C.prog.inits.idxOf? f=none) (hfn:C.prog.funcs[f]? = some fn)
  (witness:∃ (w:World) (tape:Tape) (i:Input),w.os=os/\(w.forCall tape i).Shaped C.prog/\i.vars = []/\Input.okWide C.prog (w.forCall tape i) .any w.heap.size f i ∧
   ((s.pre enc C.prog fn conds apart (w.forCall tape i).memory i.args/\X (w.forCall tape i).memory i.args)/\sizedMet enc C.prog fn (OpenSpec.ofChange s) apart (w.forCall tape i).memory i.args)/\a.holds C.prog (lone (Frame.enter C.prog f i.args .normal) [] (w.forCall tape i)))
  (contract:∀ (W:World) (base:Nat) (args:Array Value) (ds gs:List (DataW H)) (before:List MemPlace),
   (∀ (j:Nat) t v,fn.params[j]? = some t->args[j]? = some v->Value.okWide C.prog W .any base t v) →
   DataW.Whole enc C.prog fn.params.toList s.vars apart W args.toList ds gs before →
   W.ShapedOpen C.prog->X W args →
   Calls C.prog f args W fun e W'=>∃ v,e = .returned v/\s.post enc C.prog fn apart fresh handsOn again W args v W') :
  ReturnsInHanded a C os f .any (fun w args=>(s.pre enc C.prog fn conds apart w args/\X w args)/\sizedMet enc C.prog fn (OpenSpec.ofChange s) apart w args) (s.post enc C.prog fn apart fresh handsOn again):=by
 refine returnsInHanded_of_calls own started noInit witness ?_
 intro w tape i _ hsh _ hok hpre hholds
 obtain ⟨_,_,_,fn',hfn',_,_,_,_,hval⟩:=hok
 have e:fn'=fn:=Option.some.inj (hfn'.symm.trans hfn)
 subst e
 obtain ⟨⟨⟨ds,gs,before,hw,hc⟩,hx⟩,hz⟩:=hpre
 have hw':=DataW.Whole.of_heap (w':=w.forCall tape i) (by rfl) hw
 refine (contract (w.forCall tape i) w.heap.size i.args ds gs before hval hw' hsh (hX _ _ _ (by rfl) hx)).mono fun e W' ⟨v,he,hp⟩=>?_
 subst he
 exact ChangeSpec.post_blind hp
end Go
namespace Go.Proofs.YtfnhdjigeedieaaGreatDoor
open Go Go.ChangeShapes Go.WideShapes Go.ChangeAt Go.RowKit Go.A Go.Lib Go.Shelf
def wSt (m:Int):ASt:=fun b=>if b=4 then some (.fix ([m].map (AV.int .i64))) else vSt b
theorem wSt_fix {m:Int} {b:Nat} {r:Role} (h:wSt m b=some r):∃ l,r = .fix l:=by
 unfold wSt at h
 split at h
 ·injection h with h;exact ⟨_,h.symm⟩
 ·exact stOf_fix h
end Go.Proofs.YtfnhdjigeedieaaGreatDoor
namespace Go.Proofs.YtfnhdjigeedieaaGreatDoor
open Go Go.ChangeShapes Go.WideShapes Go.ChangeAt Go.RowKit Go.A Go.Lib Go.Shelf
theorem strs_trod {H:Type} {enc:TypeId×Value->H} {P:Program} {w:World} {base:Nat} {spare:Nat->Bool} {held:Bool} {fuel:Nat} {t e:TypeId} {cs:List Value} {l:List (List UInt8)} {m:List MemPlace}
  (ht:P.underlying t=some (.slice e)) (he:P.underlying e=some .string) (hc:P.cellsOf e=1) (hl:0<l.length)
  (hd:DataW.trod enc P w base spare held fuel t cs=some (.slice (l.map fun s => .lit (.string s)) [],m)) :
  ∃ R o cap,cs = [.slice (some ⟨R,o,none⟩) l.length cap]/\l.length<=cap/\∀ j s,l[j]? = some s->w.cell? ⟨R,o+j,none⟩=some (.string ⟨⟨s⟩⟩):=by
 rcases DataW.trod_slice ht hd with ⟨_,hx⟩|⟨a,len,cap,el,rs,k,rfl,hcs,hx,_,hlc,_,hel,helem,hsp,_⟩
 ·cases hx
 have e0:=congrArg Prod.fst hx
 simp only [DataW.slice.injEq] at e0
 obtain ⟨eE,eR⟩:=e0
 have hlen:len=l.length:=by
  have:=congrArg List.length eE
  simp at this
  omega
 have hcell:∀ i z,l[i]? = some z->w.cell? (a.add i)=some (.string ⟨⟨z⟩⟩):=by
  intro i z hiz
  have hi:i<l.length:=(List.getElem?_eq_some_iff.1 hiz).1
  have h1:=helem i (by omega)
  rw [hc] at h1
  obtain ⟨b, hb⟩ : ∃ b, el[i]? = some b := ⟨el[i]'(by omega), List.getElem?_eq_getElem (by omega)⟩
  rw [hb] at h1
  obtain ⟨ce,hce,hte⟩:=Option.bind_eq_some_iff.1 h1
  obtain ⟨z',hz,hbz,_⟩:=DataW.trod_string he hte
  have hb1:b.1 = .lit (.string z):=by
   have:=congrArg (·[i]?) eE
   simp only [List.getElem?_map,hiz,hb,Option.map_some,Option.some.injEq] at this
   exact this.symm
  rw [hbz] at hb1
  simp only [DataW.lit.injEq,Lit.string.injEq] at hb1
  obtain ⟨_,_,hcc⟩:=World.cells?_some hce
  have:=hcc 0 (by omega)
  rw [hz] at this
  simp only [Nat.mul_one] at this
  have e1:(a.add i).add 0=a.add i:=by simp [Addr.add]
  rw [e1] at this
  rw [this,← hb1]
  rfl
 obtain ⟨z0,hz0⟩:∃ z,l[0]? = some z:=⟨l[0],List.getElem?_eq_getElem hl⟩
 obtain ⟨R,o,sR⟩:=a
 obtain rfl:sR=none:=by
  have h00:=hcell 0 z0 hz0
  have:(Addr.add ⟨R,o,sR⟩ 0)=⟨R,o,sR⟩:=by simp [Addr.add]
  rw [this] at h00
  exact Go.Proofs.cell_spot h00
 exact ⟨R,o,cap,by rw [hcs,hlen],by omega,fun j s hj=>by have:=hcell j s hj;rwa [Addr.add_lit] at this⟩
theorem block_lt {w:World} {R o:Nat} {s:Option Nat} {v:Value} (h:w.cell? ⟨R,o,none⟩=some v):R<w.heap.size:=by
 refine Nat.lt_of_not_le fun hge=>?_
 simp [World.cell?,Array.getElem?_eq_none hge] at h
theorem strs_row {σ:ASt} {w:World} {b:Nat} (hst:∀ o,Still σ w b o):∀ (zs:List (List UInt8)) (o:Nat),(∀ j z,zs[j]? = some z->w.cell? ⟨b,o+j,none⟩=some (.string ⟨⟨z⟩⟩))->Row σ w b o 1 (zs.map AV.str)
 | [],o,_ => .nil _ _ _
 | z::zs,o,h => .cons rfl (.cons (hst o) (h 0 z rfl) (.str z) (.nil _ _)) (strs_row hst zs (o+1) fun j z' hj=>by
   have:=h (j+1) z' (by simpa using hj)
   rwa [show o+(j+1)=o+1+j by omega] at this)
theorem strss_row {σ:ASt} {w:World} {b:Nat} (hst:∀ o,Still σ w b o):∀ (zs:List (List (List UInt8))) (o:Nat),
  (∀ j z,zs[j]? = some z->∃ v,w.cell? ⟨b,o+j,none⟩=some v/\Rep σ w (.sl .shr (z.map AV.str)) v)->Row σ w b o 1 (zs.map fun l=>AV.sl .shr (l.map AV.str))
 | [],o,_ => .nil _ _ _
 | z::zs,o,h=>by
   obtain ⟨v,hv,hr⟩:=h 0 z rfl
   exact .cons rfl (.cons (hst o) hv hr (.nil _ _)) (strss_row hst zs (o+1) fun j z' hj=>by
    have:=h (j+1) z' (by simpa using hj)
    rwa [show o+(j+1)=o+1+j by omega] at this)
theorem levels_role {σ : ASt} {W : World} (hfx : ∀ b r, σ b = some r → ∃ l, r = .fix l) (h : VarReads Tryz.prog W "tabular/parse.levels" (.slice (levelsL.map fun l => .slice (l.map fun s => .lit (.string s)) []) [])) :
  RoleOk σ W 0 (.fix [lvAV]):=by
 obtain ⟨g',t',cs,fuel,p,hg,hty,hvar,hd⟩:=h
 obtain rfl := Option.some.inj ((show Tryz.prog.globalNamed "tabular/parse.levels" = some 0 by kernel_rfl).symm.trans hg)
 obtain rfl:=Option.some.inj ((show (Tryz.prog.globals[0]?).map (·.type)=some 186 by kernel_rfl).symm.trans hty)
 have ht:Tryz.prog.underlying 186=some (.slice 72):=by kernel_rfl
 have ht2:Tryz.prog.underlying 72=some (.slice 9):=by kernel_rfl
 have he:Tryz.prog.underlying 9=some .string:=by kernel_rfl
 have hc:Tryz.prog.cellsOf 72=1:=by kernel_rfl
 have hc2:Tryz.prog.cellsOf 9=1:=by kernel_rfl
 have hpos:∀ (j:Nat) (z:List (List UInt8)),levelsL[j]? = some z->0<z.length:=by
  intro j z hj
  match j,hj with
  | 0,hj|1,hj|2,hj|3,hj|4,hj=>injection hj with hj;subst hj;decide
 rcases DataW.trod_slice ht hd with ⟨_,hx⟩|⟨a,len,cap,el,rs,k,rfl,hcs,hx,_,hlc,_,hel,helem,hsp,_⟩
 ·cases hx
 have e0:=congrArg Prod.fst hx
 simp only [DataW.slice.injEq] at e0
 obtain ⟨eE,eR⟩:=e0
 have hlen:len=levelsL.length:=by
  have:=congrArg List.length eE
  simp at this
  omega
 have hcell:∀ i z,levelsL[i]? = some z->∃ v,W.cell? (a.add i)=some v/\Rep σ W (.sl .shr (z.map AV.str)) v:=by
  intro i z hiz
  have hi:i<levelsL.length:=(List.getElem?_eq_some_iff.1 hiz).1
  have h1:=helem i (by omega)
  rw [hc] at h1
  obtain ⟨b, hb⟩ : ∃ b, el[i]? = some b := ⟨el[i]'(by omega), List.getElem?_eq_getElem (by omega)⟩
  rw [hb] at h1
  obtain ⟨ce,hce,hte⟩:=Option.bind_eq_some_iff.1 h1
  have hb1:b.1 = .slice (z.map fun s => .lit (.string s)) []:=by
   have:=congrArg (·[i]?) eE
   simp only [List.getElem?_map,hiz,hb,Option.map_some,Option.some.injEq] at this
   exact this.symm
  obtain ⟨b1,b2⟩:=b
  dsimp only at hb1
  subst hb1
  obtain ⟨R,o,cap',rfl,hle,hcells⟩:=strs_trod ht2 he hc2 (hpos i z hiz) hte
  obtain ⟨_,_,hcc⟩:=World.cells?_some hce
  have:=hcc 0 (by omega)
  simp only [Nat.mul_one] at this
  have e1:(a.add i).add 0=a.add i:=by simp [Addr.add]
  rw [e1] at this
  obtain ⟨z0, hz0⟩ : ∃ z0, z[0]? = some z0 := ⟨z[0]'(hpos i z hiz), List.getElem?_eq_getElem (hpos i z hiz)⟩
  have hR:=block_lt (s:=none) (hcells 0 z0 hz0)
  exact ⟨_,this,.sl (sz:=1) (strs_row (fun o=>still_fix hfx hR) z o hcells) (by simp) hle trivial hR⟩
 obtain ⟨R,o,sR⟩:=a
 obtain ⟨v0,h00,_⟩:=hcell 0 [[61],[60,62],[60],[60,61],[62],[62,61]] rfl
 obtain rfl:sR=none:=by
  have:(Addr.add ⟨R,o,sR⟩ 0)=⟨R,o,sR⟩:=by simp [Addr.add]
  rw [this] at h00
  exact Go.Proofs.cell_spot h00
 have hR:R<W.heap.size:=by
  have:(Addr.add ⟨R,o,none⟩ 0)=⟨R,o,none⟩:=by simp [Addr.add]
  rw [this] at h00
  exact block_lt (s:=none) h00
 have hrow:=strss_row (fun o=>still_fix hfx hR) levelsL o fun j z hj=>by
  obtain ⟨v,hv,hr⟩:=hcell j z hj
  rw [Addr.add_lit] at hv
  exact ⟨v,hv,hr⟩
 unfold World.var? at hvar
 rw [hg,Option.bind_some] at hvar
 split at hvar
 ·rename_i cs' T fr hheap
  injection hvar with hvar
  subst hvar
  have hcs2:cs' = #[.slice (some ⟨R,o,none⟩) levelsL.length cap]:=by
   rw [<-hlen]
   exact Array.ext' (by simpa using hcs)
  subst hcs2
  have hlt:0<W.heap.size:=(Array.getElem?_eq_some_iff.1 hheap).1
  have hce:W.cell? ⟨0,0,none⟩=some (.slice (some ⟨R,o,none⟩) levelsL.length cap):=by simp [World.cell?,hheap]
  have hrep:Rep σ W lvAV (.slice (some ⟨R,o,none⟩) levelsL.length cap) := .sl (sz:=1) hrow (by simp) (by omega) trivial hR
  exact ⟨.cons (still_fix hfx hlt) hce hrep (.nil _ _),_,T,fr,hheap,rfl⟩
 ·cases hvar
def laidX : List (String × DataW Unit) := [("math/bits.deBruijn32tab", Rows.laid_math_bits_deBruijn32tab), ("math/bits.deBruijn64tab", Rows.laid_math_bits_deBruijn64tab), ("internal/strconv.uint64pow10", Rows.laid_internal_strconv_uint64pow10), ("unicode/utf8.acceptRanges", Rows.laid_unicode_utf8_acceptRanges), ("tabular/parse.levels", Rows.laid_tabular_parse_levels), ("unicode/utf8.first", Rows.laid_unicode_utf8_first)]
def xSt (m:Int):ASt:=fun b=>if b=0 then some (.fix [lvAV]) else wSt m b
theorem xSt_u8 (m:Int):U8 (xSt m):=⟨by simp [xSt,wSt,vSt,vPs,stOf],by simp [xSt,wSt,vSt,vPs,stOf]⟩
theorem xSt_tab (m:Int):Tab (xSt m):=by simp [Tab,xSt,wSt,vSt,vPs,stOf]
theorem xSt_max (m:Int):MaxL (xSt m):=⟨m,by simp [xSt,wSt]⟩
theorem xSt_lv (m:Int):LV (xSt m):=by simp [LV,xSt]
theorem xSt_fix {m:Int} {b:Nat} {r:Role} (h:xSt m b=some r):∃ l,r = .fix l:=by
 unfold xSt at h
 split at h
 ·injection h with h;exact ⟨_,h.symm⟩
 ·exact wSt_fix h
theorem x_sim {W:World} (hsh:W.ShapedOpen Tryz.prog) (h:laidMetH Tryz.prog laidX W):∃ m,Sim (xSt m) W:=by
 rw [MakeChecks.laidMetH_plain _ _ _ (by kernel_rfl)] at h
 have hp : VarReads Tryz.prog W "internal/strconv.uint64pow10" (Lib.tabData .u64 Lib.pow10Tab) := Lib.laidMet.reads h (.tail _ (.tail _ (.head _)))
 have h4 : VarReads Tryz.prog W "unicode/utf8.acceptRanges" acceptData := acc_eq ▸ Lib.laidMet.reads h (.tail _ (.tail _ (.tail _ (.head _))))
 have h5 : VarReads Tryz.prog W "tabular/parse.levels" (.slice (levelsL.map fun l => .slice (l.map fun s => .lit (.string s)) []) []) := Lib.laidMet.reads h (.tail _ (.tail _ (.tail _ (.tail _ (.head _)))))
 have h3 : VarReads Tryz.prog W "unicode/utf8.first" firstData := first_eq ▸ Lib.laidMet.reads h (.tail _ (.tail _ (.tail _ (.tail _ (.tail _ (.head _))))))
 obtain ⟨m,hm⟩:=Go.Proofs.cell_of_shapedOpen_int (g:=4) (zero := #[.int .i64 0]) (t:=3) hsh (of_decide_eq_true (by kernel_rfl)) (by kernel_rfl) rfl (by kernel_rfl) (by kernel_rfl) Tryz.underlying3
 have hm:W.cell? ⟨4,0,none⟩=some (.int .i64 m):=hm
 obtain ⟨cs,hh,hsz,_⟩:=hsh.1 4 #[.int .i64 0] 3 (of_decide_eq_true (by kernel_rfl)) (by kernel_rfl)
 obtain ⟨r1,r2⟩:=u8_roles (σ:=xSt m) h3 h4
 refine ⟨m,fun b r hb=>?_⟩
 have hb0:=hb
 unfold xSt at hb
 split at hb
 ·rename_i hbb
  subst hbb
  injection hb with hb
  subst hb
  exact levels_role (fun _ _=>xSt_fix) h5
 unfold wSt at hb
 split at hb
 ·rename_i hbb
  subst hbb
  injection hb with hb
  subst hb
  have hlt:4<W.heap.size:=(Array.getElem?_eq_some_iff.1 hh).1
  refine ⟨At.mk' (ints_reps _) (fun j _=>⟨hlt,.inr (.inl ⟨_,hb0⟩)⟩) (fun j v hj=>?_),cs,_,_,hh,hsz⟩
  match j,hj with
  | 0,hj=>injection hj with hj;subst hj;exact hm
 ·obtain ⟨l,hl,rfl⟩:=stOf_mem hb
  simp only [vPs,List.mem_cons,List.not_mem_nil,or_false,Prod.mk.injEq] at hl
  rcases hl with ⟨rfl,rfl⟩|⟨rfl,rfl⟩|⟨rfl,rfl⟩
  ·exact r1 (xSt_u8 m).1
  ·exact r2 (xSt_u8 m).2
  ·exact pow_role (fun _ _=>xSt_fix) hp
theorem calls_x {m:Int} {f:FuncId} {args:List AV} {vs:List Value} {w:World} (h:ACalls Tryz.prog f args (xSt m) fun r σ'=>r = .bool true/\σ'=xSt m) (hs:Sim (xSt m) w) (hr:Reps (xSt m) w args vs) :
  Calls Tryz.prog f ⟨vs⟩ w fun e w'=>e = .returned (.bool true)/\Ext w w':=
 (h w vs hs hr).mono fun e w' ⟨u,r,σ',he,⟨hrt,hst⟩,hle,_,hrep⟩=>by
  subst hrt hst
  cases hrep
  refine ⟨he,Ext.of_below ⟨hle.os,hle.tape,hle.output,hle.size,fun k hk=>?_⟩⟩
  cases hn:xSt m k with
  | none=>exact (hle.keep k hk hn).2
  | some r=>
    obtain ⟨l,rfl⟩:=xSt_fix hn
    exact (hle.fix k _ hk hn).2
end Go.Proofs.YtfnhdjigeedieaaGreatDoor
end
