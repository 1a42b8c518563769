/- Part 7 of what TileWrites leans on: Ed CodeEe Ee CodeOa Oa CodeEh Eh Ej CodeZk Zk CodeEm Em. -/
import Derived.Test.YtfnhdjigeedieaaGreatDoorProg
import Derived.KernelRfl
import Derived.Test.YtfnhdjigeedieaaGreatDoorZTileWritesf
set_option linter.defProp false
set_option linter.unusedSimpArgs false
set_option linter.unusedVariables false
set_option maxRecDepth 100000
section
attribute [local go_sem] reduceCtorEq Nat.reduceEqDiff Nat.reduceAdd Nat.reduceSub Nat.reduceMul Nat.reduceLeDiff Int.reduceLT Int.reduceLE Int.reduceEq Int.reduceNeg Int.reduceAdd Int.reduceSub Int.reduceMul true_imp_iff forall_const Nat.mul_one Int.reduceToNat Nat.reducePow Int.reducePow Bool.true_and Bool.false_and Bool.and_false
attribute [local go_sem ↓] reduceIte
namespace Go.A
open Go.Proofs Go.Lib
theorem BD.tab {σ0 σ:ASt} {b:Nat} {l:List UInt8} (h:BD σ0 b l σ) (hb:σ0 b=none) (hT:Tab σ0):Tab σ:=h.at (by intro e;unfold Tab at hT;rw [e,hb] at hT;cases hT) hT
theorem BD.maxL {σ0 σ:ASt} {b:Nat} {l:List UInt8} (h:BD σ0 b l σ) (hb:σ0 b=none) (hM:MaxL σ0):MaxL σ:=by
 obtain ⟨m,hm⟩:=hM
 exact ⟨m,h.at (by intro e;rw [e,hb] at hm;cases hm) hm⟩
theorem MaxL.set {σ:ASt} {b:Nat} {r:Option Role} (h:MaxL σ) (hb:σ b=none):MaxL (σ.set b r):=by
 obtain ⟨m,hm⟩:=h
 exact ⟨m,by rw [ASt.set_ne];exact hm;intro e;rw [e,hb] at hm;cases hm⟩
def SpellOk (n:Nd):Prop:=∀ (σ0 σ:ASt) (b:Nat) (l:List UInt8),BD σ0 b l σ->σ0 b=none->Tab σ0->MaxL σ0->l.length+n.spell.length<=900000000 →
  ACalls Tryz.prog 75 [.ptr b 0,n.av] σ fun v σ'=>v = .tuple []/\BD σ0 b (l++n.spell) σ'
theorem inside_ok {n:Nd} (hs:SpellOk n) (ho:1<=n.op/\n.op<=23) (least:Int) {σ0 σ:ASt} {b:Nat} {l:List UInt8} (h:BD σ0 b l σ) (hb:σ0 b=none) (hT:Tab σ0) (hM:MaxL σ0) (hl:l.length+(insT least n.op n.spell).length<=900000000) :
  ACalls Tryz.prog 128 [.ptr b 0,n.av,.int .i64 least] σ fun v σ'=>v = .tuple []/\BD σ0 b (l++insT least n.op n.spell) σ':=by
 have hL:=level_ok n.op (by omega) (by omega)
 have hS:∀ {σ0 σ:ASt} {b:Nat} {l:List UInt8},BD σ0 b l σ->σ0 b=none->Tab σ0->MaxL σ0->l.length+n.spell.length<=900000000 →
  ACalls Tryz.prog 75 [.ptr b 0,n.av] σ fun v σ'=>v = .tuple []/\BD σ0 b (l++n.spell) σ':=fun {_ _ _ _}=>hs _ _ _ _
 clear hs
 obtain ⟨op,m,s,a,d,kids⟩:=n
 rw [Nd.av_cs] at hS ⊢
 generalize (Nd.mk op m s a d kids).spell=t at *
 simp only [Nd.op] at hL hl ho ⊢
 generalize kids.map Nd.av=L at *
 refine a128 (by simp) ?_
 simp (disch:=first|assumption|omega) only [go_sem]
 refine boxC_by rfl fun c hc=>?_
 obtain ⟨hB,hcb,hc0⟩:=h.add hc (r := .obj (Nd.cs op m s a d L))
 have hb1:(σ0.set c (some (.obj (Nd.cs op m s a d L)))) b=none:=by rw [ASt.set_ne (Ne.symm hcb)];exact hb
 have hT1:=hT.set hc0 (r:=some (.obj (Nd.cs op m s a d L)))
 have hM1:=hM.set hc0 (r:=some (.obj (Nd.cs op m s a d L)))
 have hcell:∀ {l':List UInt8} {σ1:ASt},BD (σ0.set c (some (.obj (Nd.cs op m s a d L)))) b l' σ1->σ1 c=some (.obj (Nd.cs op m s a d L)):=fun h=>h.at hcb (ASt.set_same _ _ _)
 have hoff:∀ {l':List UInt8} {σ1:ASt},BD (σ0.set c (some (.obj (Nd.cs op m s a d L)))) b l' σ1->∃ σ',Drop σ1 σ'/\BD σ0 b l' σ':=fun h=>h.off hcb hc0
 have hc1:=hcell hB
 rw [cells_agg]
 generalize σ0.set c (some (.obj (Nd.cs op m s a d L)))=τ at hB hb1 hT1 hM1 hcell hoff
 generalize σ.set c (some (.obj (Nd.cs op m s a d L)))=σ1 at hB hc1 ⊢
 unfold insT at hl ⊢
 by_cases hlv:least<=levelP op
 ·rw [if_pos hlv] at hl ⊢
  generalize levelP op=lv at *
  simp (disch:=first|assumption|omega) only [go_sem,hc1]
  refine hL.use ?_
  simp (disch:=first|assumption|omega) only [go_sem,hc1,hlv]
  refine (hS hB hb1 hT1 hM1 hl).mono ?_
  rintro v σ2 ⟨rfl,hB2⟩
  simp (disch:=first|assumption|omega) only [go_sem]
  obtain ⟨σ3,hd,hB3⟩:=hoff hB2
  exact retC_by hd (.refl _) ⟨rfl,hB3⟩
 ·rw [if_neg hlv] at hl ⊢
  generalize levelP op=lv at *
  simp only [List.length_append,List.length_cons,List.length_nil] at hl
  simp (disch:=first|assumption|omega) only [go_sem,hc1]
  refine hL.use ?_
  simp (disch:=first|assumption|omega) only [go_sem,hlv]
  refine (writeByte_ok hB 40 (by omega)).mono ?_
  rintro v σ2 ⟨rfl,hB2⟩
  have hc2:=hcell hB2
  simp (disch:=first|assumption|omega) only [go_sem,hc2]
  refine (hS hB2 hb1 hT1 hM1 (by simp only [List.length_append,List.length_cons,List.length_nil];omega)).mono ?_
  rintro v σ3 ⟨rfl,hB3⟩
  simp (disch:=first|assumption|omega) only [go_sem]
  refine (writeByte_ok hB3 41 (by simp only [List.length_append,List.length_cons,List.length_nil];omega)).mono ?_
  rintro v σ4 ⟨rfl,hB4⟩
  simp (disch:=first|assumption|omega) only [go_sem]
  obtain ⟨σ5,hd,hB5⟩:=hoff hB4
  refine retC_by hd (.refl _) ⟨rfl,?_⟩
  have e:l++40::(t ++ [41])=l ++ [40]++t ++ [41]:=by simp
  rw [e];exact hB5
theorem textD_ne (n:Int):textD n ≠ []:=by
 unfold textD
 have:=dd_len_pos (n.natAbs / 10000)
 intro h
 rw [List.append_eq_nil_iff,List.append_eq_nil_iff] at h
 exact this h.2.1
theorem failT_ne {n:Int} (h1:1<=n.tdiv 10000) (h2:n.tdiv 10000<=7):failT 4 n ≠ []:=by
 unfold failT
 generalize n.tdiv 10000=i at *
 rw [if_neg (by omega)]
 have hc:i=1\/i=2\/i=3\/i=4\/i=5\/i=6\/i=7:=by omega
 rcases hc with rfl|rfl|rfl|rfl|rfl|rfl|rfl<;>decide
theorem truthP_ne (b:Bool):truthP b ≠ []:=by cases b<;>decide
theorem joinC_snoc:∀ (L:List (Int×List UInt8)) (p:Int×List UInt8),L ≠ []->joinC (L ++ [p])=joinC L++44::p.2
 | [],p,h=>absurd rfl h
 | q::r,p,_=>by simp [joinC]
theorem joinC_take_le:∀ (L:List (Int×List UInt8)) (i:Nat),(joinC (L.take i)).length<=(joinC L).length
 | [],i=>by simp
 | q::r,0=>by simp [joinC]
 | q::r,i+1=>by
   rw [List.take_succ_cons]
   simp only [joinC,List.length_append]
   have:∀ (r:List (Int×List UInt8)) (i:Nat),((r.take i).flatMap fun q=>44::q.2).length<=(r.flatMap fun q=>44::q.2).length:=by
    intro r
    induction r with
    | nil=>intro i;simp
    | cons x r ih=>
      intro i
      cases i with
      | zero=>simp
      | succ i=>rw [List.take_succ_cons,List.flatMap_cons,List.flatMap_cons,List.length_append,List.length_append];have:=ih i;omega
   have:=this r i
   omega
theorem textP_ne {r:Ref} (h:r.good=true):textP r ≠ []:=by
 intro e
 have:=(text_len h).1
 rw [e] at this
 simp at this
theorem sign_len (k:Nat):(signL.getD k []).length<=2:=by
 unfold signL
 rcases k with _|_|_|_|_|_|_|_|_|_|_|_|k<;>simp
set_option maxHeartbeats 2000000 in
theorem spell_ok:∀ (k:Nat) (n:Nd),n.size<=k->n.ok->SpellOk n
 | 0,n,hk,_=>by have:=n.size_pos;omega
 | k+1,n,hk,hn=>by
   have ih:=spell_ok k
   intro σ0 σ b l h hb hT hM hl
   obtain ⟨op,m,s,a,d,kids⟩:=n
   rw [Nd.size] at hk
   rw [Nd.ok] at hn
   obtain ⟨⟨ho,g1,g2,g4,gc,g5,g6,g7,gb,gk⟩,hks⟩:=hn
   have hkid:∀ x∈kids,SpellOk x/\1<=x.op/\x.op<=23:=fun x hx=>by
    have h1:=Nd.size_kid hx
    have h2:=Nd.oks_mem.1 hks x hx
    refine ⟨ih x (by omega) h2,?_⟩
    obtain ⟨o',_,_,_,_,_⟩:=x
    rw [Nd.ok] at h2
    exact h2.1.1
   obtain ⟨w,hw⟩:∃ w,(Nd.mk op m s a d kids).spell=w:=⟨_,rfl⟩
   rw [hw] at hl ⊢
   rw [Nd.spell,Nd.spells_map] at hw
   unfold spellK at hw
   rw [Nd.av_cs]
   refine a75 (by simp) ?_
   simp (disch:=first|assumption|omega) only [go_sem]
   refine boxC_by rfl fun c hc=>?_
   obtain ⟨hB,hcb,hc0⟩:=h.add hc (r := .obj (Nd.cs op m s a d (kids.map Nd.av)))
   have hb1:(σ0.set c (some (.obj (Nd.cs op m s a d (kids.map Nd.av))))) b=none:=by rw [ASt.set_ne (Ne.symm hcb)];exact hb
   have hT1:=hT.set hc0 (r:=some (.obj (Nd.cs op m s a d (kids.map Nd.av))))
   have hM1:=hM.set hc0 (r:=some (.obj (Nd.cs op m s a d (kids.map Nd.av))))
   have hcell:∀ {l':List UInt8} {σ1:ASt},BD (σ0.set c (some (.obj (Nd.cs op m s a d (kids.map Nd.av))))) b l' σ1->σ1 c=some (.obj (Nd.cs op m s a d (kids.map Nd.av))):=fun h=>h.at hcb (ASt.set_same _ _ _)
   have hoff:∀ {l':List UInt8} {σ1:ASt},BD (σ0.set c (some (.obj (Nd.cs op m s a d (kids.map Nd.av))))) b l' σ1->∃ σ',Drop σ1 σ'/\BD σ0 b l' σ':=fun h=>h.off hcb hc0
   have hc1:=hcell hB
   rw [cells_agg]
   generalize σ0.set c (some (.obj (Nd.cs op m s a d (kids.map Nd.av))))=τ at hB hb1 hT1 hM1 hcell hoff
   generalize σ.set c (some (.obj (Nd.cs op m s a d (kids.map Nd.av))))=σ1 at hB hc1 ⊢
   have hT2:=BD.tab hB hb1 hT1
   have hM2:=BD.maxL hB hb1 hM1
   by_cases h1:op=1
   ·subst h1
    rw [if_pos rfl] at hw
    subst hw
    simp (disch:=first|assumption|omega) only [go_sem,hc1]
    refine (dtext_ok hT2 (g1 rfl)).mono ?_
    rintro v σ' ⟨rfl,rfl⟩
    simp (disch:=first|assumption|omega) only [go_sem]
    refine (writes1_ok hB _ (textD_ne m) (by omega)).mono ?_
    rintro v σ2 ⟨rfl,hB2⟩
    simp (disch:=first|assumption|omega) only [go_sem]
    obtain ⟨σ3,hd,hB3⟩:=hoff hB2
    exact retC_by hd (.refl _) ⟨rfl,hB3⟩
   rw [if_neg h1] at hw
   by_cases h2:op=2
   ·subst h2
    rw [if_pos rfl] at hw
    have hQ2:=tquote_ok hM2 s (g2 rfl)
    have hQ:quotT s=34::dbl s ++ [34]:=rfl
    rw [hQ] at hw
    rw [hw] at hQ2
    have hwn:w ≠ []:=by rw [<-hw];simp
    simp (disch:=first|assumption|omega) only [go_sem,hc1]
    refine hQ2.mono ?_
    rintro v σ' ⟨rfl,rfl⟩
    simp (disch:=first|assumption|omega) only [go_sem]
    refine (writes1_ok hB _ hwn (by omega)).mono ?_
    rintro v σ2 ⟨rfl,hB2⟩
    simp (disch:=first|assumption|omega) only [go_sem]
    obtain ⟨σ3,hd,hB3⟩:=hoff hB2
    exact retC_by hd (.refl _) ⟨rfl,hB3⟩
   rw [if_neg h2] at hw
   by_cases h3:op=3
   ·subst h3
    rw [if_pos rfl] at hw
    have hQ:=truth_ok (!decide (m=0))
    have hwn:w ≠ []:=by rw [<-hw];exact truthP_ne _
    rw [hw] at hQ
    simp (disch:=first|assumption|omega) only [go_sem,hc1]
    refine hQ.use ?_
    simp (disch:=first|assumption|omega) only [go_sem]
    refine (writes1_ok hB _ hwn (by omega)).mono ?_
    rintro v σ2 ⟨rfl,hB2⟩
    simp (disch:=first|assumption|omega) only [go_sem]
    obtain ⟨σ3,hd,hB3⟩:=hoff hB2
    exact retC_by hd (.refl _) ⟨rfl,hB3⟩
   rw [if_neg h3] at hw
   by_cases h4:op=4
   ·subst h4
    rw [if_pos rfl] at hw
    obtain ⟨f1,f2⟩:=g4 rfl
    have hwn:w ≠ []:=by rw [<-hw];exact failT_ne f1 f2
    have hmb:m.natAbs<=999999999999999999:=by have:(m.tdiv 10000).natAbs=m.natAbs / 10000:=Int.natAbs_tdiv m 10000;omega
    have hQ:=failure_ok 4 m s a d kids hmb
    rw [Nd.av_cs,hw] at hQ
    simp (disch:=first|assumption|omega) only [go_sem,hc1]
    refine hQ.use ?_
    simp (disch:=first|assumption|omega) only [go_sem]
    refine (writes1_ok hB _ hwn (by omega)).mono ?_
    rintro v σ2 ⟨rfl,hB2⟩
    simp (disch:=first|assumption|omega) only [go_sem]
    obtain ⟨σ3,hd,hB3⟩:=hoff hB2
    exact retC_by hd (.refl _) ⟨rfl,hB3⟩
   rw [if_neg h4] at hw
   by_cases h5:op=5
   ·subst h5
    rw [if_pos rfl] at hw
    have hQ:=text_ok hT2 (g5 (.inl rfl))
    have hwn:w ≠ []:=by rw [<-hw];exact textP_ne (g5 (.inl rfl))
    rw [hw] at hQ
    unfold refAV at hQ
    simp (disch:=first|assumption|omega) only [go_sem,hc1]
    refine hQ.mono ?_
    rintro v σ' ⟨rfl,rfl⟩
    simp (disch:=first|assumption|omega) only [go_sem]
    refine (writes1_ok hB _ hwn (by omega)).mono ?_
    rintro v σ2 ⟨rfl,hB2⟩
    simp (disch:=first|assumption|omega) only [go_sem]
    obtain ⟨σ3,hd,hB3⟩:=hoff hB2
    exact retC_by hd (.refl _) ⟨rfl,hB3⟩
   rw [if_neg h5] at hw
   by_cases h6:op=6
   ·subst h6
    rw [if_pos rfl] at hw
    have hQ:=atext_ok hT2 (g5 (.inr rfl)) (g6 rfl)
    have hwn:w ≠ []:=by rw [<-hw];simp
    rw [hw] at hQ
    unfold areaAV at hQ
    simp (disch:=first|assumption|omega) only [go_sem,hc1]
    refine hQ.mono ?_
    rintro v σ' ⟨rfl,rfl⟩
    simp (disch:=first|assumption|omega) only [go_sem]
    refine (writes1_ok hB _ hwn (by omega)).mono ?_
    rintro v σ2 ⟨rfl,hB2⟩
    simp (disch:=first|assumption|omega) only [go_sem]
    obtain ⟨σ3,hd,hB3⟩:=hoff hB2
    exact retC_by hd (.refl _) ⟨rfl,hB3⟩
   rw [if_neg h6] at hw
   by_cases h7:op=7\/op=8
   ·rw [if_pos h7] at hw
    obtain ⟨x,ks,rfl⟩:∃ x ks,kids=x::ks:=by
     cases kids with
     | nil=>have:=g7 (by omega);simp at this
     | cons x ks=>exact ⟨x,ks,rfl⟩
    obtain ⟨i1,i2⟩:=hkid x (by simp)
    have hI:=fun l' σ' (hB:BD τ b l' σ') hl'=>inside_ok i1 i2 6 hB hb1 hT1 hM1 hl'
    simp only [List.map_cons,List.getD_cons_zero] at hw
    generalize insT 6 x.op x.spell=t at *
    obtain ⟨xo,xm,xs,xa,xb,xk⟩:=x
    simp only [List.map_cons] at hcell hc1 ⊢
    rw [Nd.av_cs] at hI
    simp only [Nd.av_cs] at hcell hc1 ⊢
    generalize ks.map Nd.av=K at *
    rcases h7 with rfl|rfl
    ·simp only [if_true] at hw
     subst hw
     simp only [List.length_cons] at hl
     simp (disch:=first|assumption|omega) only [go_sem,hc1]
     refine (writeByte_ok hB 45 (by omega)).mono ?_
     rintro v σ2 ⟨rfl,hB2⟩
     have hc2:=hcell hB2
     simp (disch:=first|assumption|omega) only [go_sem,hc2]
     refine (hI _ _ hB2 (by simp only [List.length_append,List.length_cons,List.length_nil];omega)).mono ?_
     rintro v σ3 ⟨rfl,hB3⟩
     simp (disch:=first|assumption|omega) only [go_sem]
     obtain ⟨σ4,hd,hB4⟩:=hoff hB3
     refine retC_by hd (.refl _) ⟨rfl,?_⟩
     have e:l++45::t=l ++ [45]++t:=by simp
     rw [e];exact hB4
    ·rw [if_neg (by decide)] at hw
     subst hw
     simp only [List.length_cons] at hl
     simp (disch:=first|assumption|omega) only [go_sem,hc1]
     refine (writeByte_ok hB 43 (by omega)).mono ?_
     rintro v σ2 ⟨rfl,hB2⟩
     have hc2:=hcell hB2
     simp (disch:=first|assumption|omega) only [go_sem,hc2]
     refine (hI _ _ hB2 (by simp only [List.length_append,List.length_cons,List.length_nil];omega)).mono ?_
     rintro v σ3 ⟨rfl,hB3⟩
     simp (disch:=first|assumption|omega) only [go_sem]
     obtain ⟨σ4,hd,hB4⟩:=hoff hB3
     refine retC_by hd (.refl _) ⟨rfl,?_⟩
     have e:l++43::t=l ++ [43]++t:=by simp
     rw [e];exact hB4
   rw [if_neg h7] at hw
   have h7a:op≠7:=by omega
   have h7b:op≠8:=by omega
   by_cases h9:op=9
   ·subst h9
    rw [if_pos rfl] at hw
    obtain ⟨x,ks,rfl⟩:∃ x ks,kids=x::ks:=by
     cases kids with
     | nil=>have:=g7 (by omega);simp at this
     | cons x ks=>exact ⟨x,ks,rfl⟩
    obtain ⟨i1,i2⟩:=hkid x (by simp)
    have hI:=fun l' σ' (hB:BD τ b l' σ') hl'=>inside_ok i1 i2 7 hB hb1 hT1 hM1 hl'
    simp only [List.map_cons,List.getD_cons_zero] at hw
    generalize insT 7 x.op x.spell=t at *
    obtain ⟨xo,xm,xs,xa,xb,xk⟩:=x
    rw [Nd.av_cs] at hI
    simp only [List.map_cons,Nd.av_cs] at hcell hc1 ⊢
    generalize ks.map Nd.av=K at *
    subst hw
    simp only [List.length_append,List.length_cons,List.length_nil] at hl
    simp (disch:=first|assumption|omega) only [go_sem,hc1]
    refine (hI _ _ hB (by omega)).mono ?_
    rintro v σ2 ⟨rfl,hB2⟩
    simp (disch:=first|assumption|omega) only [go_sem]
    refine (writeByte_ok hB2 37 (by simp only [List.length_append];omega)).mono ?_
    rintro v σ3 ⟨rfl,hB3⟩
    simp (disch:=first|assumption|omega) only [go_sem]
    obtain ⟨σ4,hd,hB4⟩:=hoff hB3
    refine retC_by hd (.refl _) ⟨rfl,?_⟩
    rw [<-List.append_assoc];exact hB4
   rw [if_neg h9] at hw
   by_cases h22:op=22
   ·subst h22
    rw [if_pos rfl] at hw
    have hsn:=gc rfl
    have hjt:=joinC_take_le (kids.map fun x=>(x.op,x.spell))
    have hspl:∀ (i:Nat) (x:Nd),kids[i]? = some x->(kids.map fun x=>(x.op,x.spell)).take (i+1)=(kids.map fun x=>(x.op,x.spell)).take i ++ [(x.op,x.spell)]:=by
     intro i x hx
     have hlt:i<kids.length:=(List.getElem?_eq_some_iff.1 hx).1
     rw [List.take_add_one,List.getElem?_map,hx]
     rfl
    have hspn:∀ i,0<i->i<kids.length->(kids.map fun x=>(x.op,x.spell)).take i ≠ []:=by
     intro i h0 h1 e
     have:=congrArg List.length e
     rw [List.length_take,List.length_map,List.length_nil] at this
     omega
    have hspa:(kids.map fun x=>(x.op,x.spell)).take kids.length=kids.map fun x=>(x.op,x.spell):=List.take_of_length_le (by simp)
    have hspz:joinC ((kids.map fun x=>(x.op,x.spell)).take 0) = []:=rfl
    generalize (kids.map fun x=>(x.op,x.spell))=sp at *
    subst hw
    simp only [List.length_append,List.length_cons,List.length_nil] at hl
    simp (disch:=first|assumption|omega) only [go_sem,hc1]
    refine (writes1_ok hB _ hsn (by omega)).mono ?_
    rintro v σ2 ⟨rfl,hB2⟩
    simp (disch:=first|assumption|omega) only [go_sem]
    refine (writeByte_ok hB2 40 (by simp only [List.length_append];omega)).mono ?_
    rintro v σ3 ⟨rfl,hB3⟩
    have hc3:=hcell hB3
    obtain ⟨G,hG⟩:∃ G,G=ACode.wp Tryz.prog c75_47:=⟨_,rfl⟩
    simp (disch:=first|assumption|omega) only [go_sem,hc3,←hG]
    refine wp_loop_by (fun (i:Nat) a1 s2=>i<=kids.length/\(a1 0 = .ptr b 0/\a1 114 = .sl .shr (kids.map Nd.av)/\a1 115 = .int .i64 kids.length/\a1 116 = .int .i64 i)/\BD τ b (l++s ++ [40]++joinC (sp.take i)) s2) (fun i=>kids.length-i) 0 (Dr.now ⟨Nat.zero_le _,?_,?_⟩) ?_
    ·simp (disch:=first|assumption|omega) only [go_sem]
    ·rw [hspz,List.append_nil];exact hB3
    rintro i a1 s2 ⟨hi,hf,hBi⟩
    have hji:=hjt i
    by_cases hlt:i<kids.length
    ·have hlt':(i:Int)<kids.length:=by omega
     have hx : kids[i]? = some (kids[i]'hlt) := List.getElem?_eq_getElem hlt
     obtain ⟨x, hxe⟩ : ∃ x, kids[i]'hlt = x := ⟨_, rfl⟩
     rw [hxe] at hx
     have hmx:=Nd.get hx
     have hspx:=hspl i x hx
     have hjs:=hjt (i+1)
     obtain ⟨i1,i2⟩:=hkid x (List.mem_of_getElem? hx)
     obtain ⟨xo,xm,xs,xa,xb,xk⟩:=x
     rw [Nd.av_cs] at hmx
     have i1':∀ (σ0 σ:ASt) (b:Nat) (l:List UInt8),BD σ0 b l σ->σ0 b=none->Tab σ0->MaxL σ0->l.length+(Nd.mk xo xm xs xa xb xk).spell.length<=900000000 →
       ACalls Tryz.prog 75 [.ptr b 0,.agg (Nd.cs xo xm xs xa xb (xk.map Nd.av))] σ fun v σ'=>v = .tuple []/\BD σ0 b (l++(Nd.mk xo xm xs xa xb xk).spell) σ':=by rw [<-Nd.av_cs];exact i1
     generalize hxw:(Nd.mk xo xm xs xa xb xk).spell=xw at *
     generalize xk.map Nd.av=K at *
     generalize kids.map Nd.av=L at *
     simp (disch:=first|assumption|omega) only [go_sem,hf,hlt',hmx]
     refine allocC_by fun e he=>?_
     obtain ⟨hBe,heb,he0⟩:=hBi.add he (r := .obj (Nd.cs xo xm xs xa xb K))
     have hbe:(τ.set e (some (.obj (Nd.cs xo xm xs xa xb K)))) b=none:=by rw [ASt.set_ne (Ne.symm heb)];exact hb1
     have hTe:=hT1.set he0 (r:=some (.obj (Nd.cs xo xm xs xa xb K)))
     have hMe:=hM1.set he0 (r:=some (.obj (Nd.cs xo xm xs xa xb K)))
     have hcelle:∀ {l':List UInt8} {σ1:ASt},BD (τ.set e (some (.obj (Nd.cs xo xm xs xa xb K)))) b l' σ1->σ1 e=some (.obj (Nd.cs xo xm xs xa xb K)):=fun h=>h.at heb (ASt.set_same _ _ _)
     have hoffe:∀ {l':List UInt8} {σ1:ASt},BD (τ.set e (some (.obj (Nd.cs xo xm xs xa xb K)))) b l' σ1->∃ σ',Drop σ1 σ'/\BD τ b l' σ':=fun h=>h.off heb he0
     have hce:=hcelle hBe
     by_cases h0:i=0
     ·subst h0
      have hz:((0:Nat):Int)=0:=rfl
      have hj1:joinC (sp.take (0+1))=xw:=by rw [hspx];simp [joinC]
      rw [hj1] at hjs
      rw [hspz,List.append_nil] at hBe
      simp (disch:=first|assumption|omega) only [go_sem,hf,hz,ASt.set_set,hce]
      refine (i1' _ _ _ _ hBe hbe hTe hMe (by simp only [List.length_append,List.length_cons,List.length_nil];omega)).mono ?_
      rintro v σ4 ⟨rfl,hB4⟩
      simp (disch:=first|assumption|omega) only [go_sem,hf]
      obtain ⟨σ5,hd,hB5⟩:=hoffe hB4
      refine ⟨0+1,by dsimp only;omega,Dr.drop hd ⟨by omega,?_,?_⟩⟩
      ·simp (disch:=first|assumption|omega) only [go_sem,hf]
      ·rw [hj1];exact hB5
     ·have h0':(0:Int)<i:=by omega
      have hj1:joinC (sp.take (i+1))=joinC (sp.take i)++44::xw:=by rw [hspx,joinC_snoc _ _ (hspn i (by omega) hlt)]
      rw [hj1] at hjs
      simp only [List.length_append,List.length_cons] at hjs
      simp (disch:=first|assumption|omega) only [go_sem,hf,h0',ASt.set_set]
      refine (writeByte_ok hBe 44 (by simp only [List.length_append,List.length_cons,List.length_nil];omega)).mono ?_
      rintro v σ4 ⟨rfl,hB4⟩
      have hc4:=hcelle hB4
      simp (disch:=first|assumption|omega) only [go_sem,hf,hc4]
      refine (i1' _ _ _ _ hB4 hbe hTe hMe (by simp only [List.length_append,List.length_cons,List.length_nil];omega)).mono ?_
      rintro v σ5 ⟨rfl,hB5⟩
      simp (disch:=first|assumption|omega) only [go_sem,hf]
      obtain ⟨σ6,hd,hB6⟩:=hoffe hB5
      refine ⟨i+1,by dsimp only;omega,Dr.drop hd ⟨by omega,?_,?_⟩⟩
      ·simp (disch:=first|assumption|omega) only [go_sem,hf]
      ·have e2:l++s ++ [40]++joinC (sp.take (i+1))=l++s ++ [40]++joinC (sp.take i) ++ [44]++xw:=by rw [hj1];simp
       rw [e2];exact hB6
    ·have hlt':¬ (i:Int)<kids.length:=by omega
     have hie:i=kids.length:=by omega
     rw [hie,hspa] at hBi
     simp (disch:=first|assumption|omega) only [go_sem,hf,hlt']
     rw [hG]
     simp (disch:=first|assumption|omega) only [go_sem,hf]
     refine (writeByte_ok hBi 41 (by simp only [List.length_append,List.length_cons,List.length_nil];omega)).mono ?_
     rintro v σ4 ⟨rfl,hB4⟩
     simp (disch:=first|assumption|omega) only [go_sem]
     obtain ⟨σ5,hd,hB5⟩:=hoff hB4
     refine retC_by hd (.refl _) ⟨rfl,?_⟩
     have e2:l++(s++40::(joinC sp ++ [41]))=l++s ++ [40]++joinC sp ++ [41]:=by simp
     first
      | (rw [e2];exact hB5)
      | (have e3:l++(s++40::joinC sp ++ [41])=l++s ++ [40]++joinC sp ++ [41]:=by simp
         rw [e3];exact hB5)
   rw [if_neg h22] at hw
   by_cases h23:op=23
   ·subst h23
    rw [if_pos rfl] at hw
    subst hw
    simp (disch:=first|assumption|omega) only [go_sem,hc1]
    obtain ⟨σ3,hd,hB3⟩:=hoff hB
    exact retC_by hd (.refl _) ⟨rfl,hB3⟩
   rw [if_neg h23] at hw
   obtain ⟨x,y,ks,rfl⟩:∃ x y ks,kids=x::y::ks:=by
    have:=gb (by omega)
    match kids,this with
    | x::y::ks,_=>exact ⟨x,y,ks,rfl⟩
   obtain ⟨i1,i2⟩:=hkid x (by simp)
   obtain ⟨j1,j2⟩:=hkid y (by simp)
   have hI:=fun l' σ' (hB:BD τ b l' σ') hl'=>inside_ok i1 i2 (levelP op) hB hb1 hT1 hM1 hl'
   have hJ:=fun l' σ' (hB:BD τ b l' σ') hl'=>inside_ok j1 j2 (levelP op+1) hB hb1 hT1 hM1 hl'
   have hLv:=level_ok op (by omega) (by omega)
   have hlb:0<=levelP op/\levelP op<=8:=by unfold levelP;repeat' split
                                           all_goals omega
   simp only [List.map_cons,List.getD_cons_zero,List.getD_cons_succ] at hw
   generalize insT (levelP op) x.op x.spell=t at *
   generalize insT (levelP op+1) y.op y.spell=u at *
   generalize levelP op=lv at *
   obtain ⟨xo,xm,xs,xa,xb,xk⟩:=x
   obtain ⟨yo,ym,ys,ya,yb,yk⟩:=y
   rw [Nd.av_cs] at hI hJ
   simp only [List.map_cons,Nd.av_cs] at hcell hc1 ⊢
   generalize ks.map Nd.av=K at *
   obtain ⟨j,hj⟩:∃ j:Nat,op=j+10:=⟨(op-10).toNat,by omega⟩
   have hj2:(op-10).toNat=j:=by omega
   have hj3:op-10=(j:Int):=by omega
   rw [hj2] at hw
   have hjl:j<12:=by omega
   obtain ⟨sg, hsg⟩ : ∃ sg, signL[j]? = some sg := ⟨signL[j]'(by simp [signL]; omega), List.getElem?_eq_getElem _⟩
   have hsg2:signL.getD j []=sg:=by rw [List.getD_eq_getElem?_getD,hsg];rfl
   have hsl:=sign_len j
   have hsn:sg ≠ []:=by
    have:∀ j<12,signL.getD j [] ≠ []:=by decide
    rw [<-hsg2];exact this j hjl
   rw [hsg2] at hw hsl
   have hmg:(signL.map AV.str)[j]? = some (.str sg):=by rw [List.getElem?_map,hsg];rfl
   have hSg:=esigns_ok
   generalize signL.map AV.str=SL at *
   subst hw
   simp only [List.length_append] at hl
   simp (disch:=first|assumption|omega) only [go_sem,hc1,h1,h2,h3,h4,h5,h6,h7a,h7b,h9,h22,h23]
   refine hLv.use ?_
   simp (disch:=first|assumption|omega) only [go_sem,hc1]
   refine (hI _ _ hB (by omega)).mono ?_
   rintro v σ2 ⟨rfl,hB2⟩
   have hc2:=hcell hB2
   simp (disch:=first|assumption|omega) only [go_sem,hc2]
   refine hSg.use ?_
   simp (disch:=first|assumption|omega) only [go_sem,hc2,hj3,hmg]
   refine (writes1_ok hB2 _ hsn (by simp only [List.length_append];omega)).mono ?_
   rintro v σ3 ⟨rfl,hB3⟩
   have hc3:=hcell hB3
   simp (disch:=first|assumption|omega) only [go_sem,hc3]
   refine (hJ _ _ hB3 (by simp only [List.length_append];omega)).mono ?_
   rintro v σ4 ⟨rfl,hB4⟩
   simp (disch:=first|assumption|omega) only [go_sem]
   obtain ⟨σ5,hd,hB5⟩:=hoff hB4
   refine retC_by hd (.refl _) ⟨rfl,?_⟩
   have e:l++(t++(sg++u))=l++t++sg++u:=by simp
   first
    | (rw [e];exact hB5)
    | (rw [<-List.append_assoc,← List.append_assoc];exact hB5)
end Go.A
namespace Go.A
open Go.Proofs
/-! 34: tabular/expr.Print -/
def c34_7:ACode := .seq (.ops [ oe 1 (.box (.t 0)),oq 2 (.mv (.v (.str [])))]) (.seq (.ops [ oe 3 (.allocT 149)]) (.seq (.ops [ oq 4 (.ld (some 12) (.t 1)),oe 5 (.call 75 [(.t 3),(.t 4)])]) (.seq (.ops [ oe 6 (.call 76 [(.t 3)]),oq 2 (.mv (.t 6))]) .ret)))
@[go_sem] def c34_7_wp:=wp_of c34_7.eq_1
def c34:AFn:=⟨7,[.t 2],c34_7⟩
theorem c34_ok:compF Tryz.prog Tryz.f34=some c34:=by kernel_rfl
theorem a34 {args:List AV} {σ:ASt} {R:AV->ASt->Prop} (hl:args.length<=7) (h:c34_7.wp Tryz.prog (RetQ [.t 2] R) (init args) σ):ACalls Tryz.prog 34 args σ R:=acalls_of Tryz.func34 c34_ok hl h
/-! 86: tabular/tabularref12.Signs -/
def c86_3:ACode := .seq (.ops [ oq 0 (.mv (.v (.sl .full [])))]) (.seq (.ops [ oq 1 (.bsl 1 [(.v (.str [43])),(.v (.str [45])),(.v (.str [42])),(.v (.str [47])),(.v (.str [94])),(.v (.str [38])),(.v (.str [61])),(.v (.str [60,62])),(.v (.str [60])),(.v (.str [60,61])),(.v (.str [62])),(.v (.str [62,61]))]),oq 0 (.mv (.t 1))]) .ret)
@[go_sem] def c86_3_wp:=wp_of c86_3.eq_1
def c86:AFn:=⟨2,[.t 0],c86_3⟩
theorem c86_ok:compF Tryz.prog Tryz.f86=some c86:=by kernel_rfl
theorem a86 {args:List AV} {σ:ASt} {R:AV->ASt->Prop} (hl:args.length<=2) (h:c86_3.wp Tryz.prog (RetQ [.t 0] R) (init args) σ):ACalls Tryz.prog 86 args σ R:=acalls_of Tryz.func86 c86_ok hl h
end Go.A
namespace Go.A
open Go.Proofs Go.Lib
theorem print_ok {σ:ASt} (hT:Tab σ) (hM:MaxL σ) (n:Nd) (hn:n.ok) (hl:n.spell.length<=900000000):ACalls Tryz.prog 34 [n.av] σ fun v σ'=>v = .str n.spell/\σ'=σ:=by
 have hS:=spell_ok n.size n (Nat.le_refl _) hn
 obtain ⟨op,m,s,a,d,kids⟩:=n
 unfold SpellOk at hS
 rw [Nd.av_cs] at hS ⊢
 generalize (Nd.mk op m s a d kids).spell=w at *
 generalize kids.map Nd.av=L at *
 refine a34 (by simp) ?_
 simp (disch:=first|assumption|omega) only [go_sem]
 refine boxC_by rfl fun c hc=>?_
 simp (disch:=first|assumption|omega) only [go_sem]
 refine allocTC_by fun b hb=>?_
 have hbb:=hb
 obtain ⟨n1,n2,n3⟩:=set_none hb
 have hB:BD (σ.set c (some (.obj (Nd.cs op m s a d L)))) b [] ((σ.set c (some (.obj (Nd.cs op m s a d L)))).set b (some (.typ 149 [.pointer none,.slice none 0 0]))) := .inl ⟨rfl,rfl⟩
 have hT1:=hT.set hc (r:=some (.obj (Nd.cs op m s a d L)))
 have hM1:=hM.set hc (r:=some (.obj (Nd.cs op m s a d L)))
 simp (disch:=first|assumption|omega) only [go_sem]
 refine (hS _ _ _ _ hB hbb hT1 hM1 (by simp only [List.length_nil];omega)).mono ?_
 rintro v σ1 ⟨rfl,hB1⟩
 rw [List.nil_append] at hB1
 simp (disch:=first|assumption|omega) only [go_sem]
 refine (bstring_ok hB1 (by omega)).mono ?_
 rintro v σ2 ⟨rfl,rfl⟩
 simp (disch:=first|assumption|omega) only [go_sem]
 exact retC_by ((hB1.over hbb).drop.trans (Drop.set hc)) (.refl _) ⟨rfl,rfl⟩
theorem SDrop.cong {σ σ':ASt} {b:Nat} {c d:List AV} (h:SDrop σ σ') (he:Go.A.deeps c=d):SDrop (σ.set b (some (.obj c))) (σ'.set b (some (.obj d))):=fun x=>by
 by_cases hx:x=b
 ·subst hx
  exact .inr (.inr ⟨c,by rw [ASt.set_same],by rw [ASt.set_same,he]⟩)
 ·rw [ASt.set_ne hx,ASt.set_ne hx]
  exact h x
theorem set_mid {σ:ASt} {b c:Nat} {X Y Z:Option Role} (h:b≠c):((σ.set b X).set c Y).set b Z=(σ.set b Z).set c Y:=by
 funext x
 simp only [ASt.set]
 by_cases h1:x=b
 ·subst h1;simp [h]
 ·simp [h1]
theorem r12signs_ok:Pure Tryz.prog 86 [] (.sl .shr (signL.map AV.str)):=by
 intro σ
 refine a86 (by simp) ?_
 simp (disch:=first|assumption|omega) only [go_sem]
 exact retC_by (by repeat' (first|exact Drop.refl _|with_reducible refine Drop.off ?_ (by assumption))) (.sl _ _) ⟨rfl,rfl⟩
end Go.A
namespace Go.A
open Go.Proofs
/-! 9: (tabular/tile.Cell).Text -/
def c9_17:ACode := .seq (.ops [ oe 1 (.box (.t 0)),oq 2 (.mv (.v (.str [])))]) (.seq (.seq (.ops [ oq 4 (.ld (some 13) (.t 1)),oe 5 (.call 11 [(.t 4)])]) (.cond (.t 5) (.seq (.ops [ oq 6 (.fa 0 (.t 1)),oq 7 (.ld (some 12) (.t 6)),oe 8 (.call 34 [(.t 7)]),oq 9 (.bin .add (.v (.str [61])) (.t 8)),oq 2 (.mv (.t 9))]) .ret) .skip)) (.seq (.ops [ oq 10 (.ld (some 13) (.t 1)),oe 11 (.call 31 [(.t 10)]),oe 12 (.call 35 [(.t 11)]),oq 3 (.mv (.t 12))]) (.seq (.seq (.ops [ oq 13 (.mv (.t 3)),oq 14 (.lenS (.t 13)),oq 15 (.bin .gtr (.t 14) (.v (.int .i64 0))),oq 16 (.mv (.t 15)),⟨some 17,some (16,true),.q (.mv (.t 3)),[]⟩,⟨some 18,some (16,true),.q (.idx (.t 17) (.v (.int .i64 0))),[]⟩,⟨some 19,some (16,true),.q (.bin .eql (.t 18) (.v (.int .u8 61))),[]⟩,oq 20 (.pick (.t 16) (.t 19) (.v (.bool false)))]) (.cond (.t 20) (.seq (.ops [ oq 21 (.mv (.t 3)),oq 22 (.bin .add (.v (.str [39])) (.t 21)),oq 2 (.mv (.t 22))]) .ret) .skip)) (.seq (.ops [ oq 23 (.mv (.t 3)),oq 2 (.mv (.t 23))]) .ret))))
@[go_sem] def c9_17_wp:=wp_of c9_17.eq_1
def c9:AFn:=⟨24,[.t 2],c9_17⟩
theorem c9_ok:compF Tryz.prog Tryz.f9=some c9:=by kernel_rfl
theorem a9 {args:List AV} {σ:ASt} {R:AV->ASt->Prop} (hl:args.length<=24) (h:c9_17.wp Tryz.prog (RetQ [.t 2] R) (init args) σ):ACalls Tryz.prog 9 args σ R:=acalls_of Tryz.func9 c9_ok hl h
/-! 11: (tabular/tile.Cell).IsFormula -/
def c11_3:ACode := .seq (.ops [ oe 1 (.box (.t 0)),oq 2 (.mv (.v (.bool false)))]) (.seq (.ops [ oq 3 (.fa 0 (.t 1)),oq 4 (.fa 0 (.t 3)),oq 5 (.ld none (.t 4)),oq 6 (.bin .neq (.t 5) (.v (.int .i64 0))),oq 2 (.mv (.t 6))]) .ret)
@[go_sem] def c11_3_wp:=wp_of c11_3.eq_1
def c11:AFn:=⟨7,[.t 2],c11_3⟩
theorem c11_ok:compF Tryz.prog Tryz.f11=some c11:=by kernel_rfl
theorem a11 {args:List AV} {σ:ASt} {R:AV->ASt->Prop} (hl:args.length<=7) (h:c11_3.wp Tryz.prog (RetQ [.t 2] R) (init args) σ):ACalls Tryz.prog 11 args σ R:=acalls_of Tryz.func11 c11_ok hl h
/-! 12: (tabular/tile.Cell).Empty -/
def c12_3:ACode := .seq (.ops [ oe 1 (.box (.t 0)),oq 2 (.mv (.v (.bool false)))]) (.seq (.ops [ oq 3 (.fa 0 (.t 1)),oq 4 (.fa 0 (.t 3)),oq 5 (.ld none (.t 4)),oq 6 (.bin .eql (.t 5) (.v (.int .i64 0))),oq 7 (.mv (.t 6)),⟨some 8,some (7,true),.q (.fa 12 (.t 1)),[]⟩,⟨some 9,some (7,true),.q (.ld none (.t 8)),[]⟩,⟨some 10,some (7,true),.q (.eq .c false (.t 9) (.v .nili)),[]⟩,⟨some 11,some (7,true),.q (.mv (.t 10)),[]⟩,⟨some 12,some (11,false),.q (.fa 12 (.t 1)),[]⟩,⟨some 13,some (11,false),.q (.ld none (.t 12)),[]⟩,⟨some 14,some (11,false),.e (.call 36 [(.t 13)]),[]⟩,⟨some 15,some (7,true),.q (.pick (.t 11) (.v (.bool true)) (.t 14)),[]⟩,oq 16 (.pick (.t 7) (.t 15) (.v (.bool false))),oq 2 (.mv (.t 16))]) .ret)
@[go_sem] def c12_3_wp:=wp_of c12_3.eq_1
def c12:AFn:=⟨17,[.t 2],c12_3⟩
theorem c12_ok:compF Tryz.prog Tryz.f12=some c12:=by kernel_rfl
theorem a12 {args:List AV} {σ:ASt} {R:AV->ASt->Prop} (hl:args.length<=17) (h:c12_3.wp Tryz.prog (RetQ [.t 2] R) (init args) σ):ACalls Tryz.prog 12 args σ R:=acalls_of Tryz.func12 c12_ok hl h
/-! 31: (tabular/tile.Cell).Value -/
def c31_9:ACode := .seq (.ops [ oe 1 (.box (.t 0)),oq 2 (.mv (.v .nili))]) (.seq (.seq (.ops [ oq 3 (.fa 12 (.t 1)),oq 4 (.ld none (.t 3)),oq 5 (.eq .c false (.t 4) (.v .nili))]) (.cond (.t 5) (.seq (.ops [ oq 6 (.build [] []),oq 7 (.mki 138 (.t 6)),oq 2 (.mv (.t 7))]) .ret) .skip)) (.seq (.ops [ oq 8 (.fa 12 (.t 1)),oq 9 (.ld none (.t 8)),oq 2 (.mv (.t 9))]) .ret))
@[go_sem] def c31_9_wp:=wp_of c31_9.eq_1
def c31:AFn:=⟨10,[.t 2],c31_9⟩
theorem c31_ok:compF Tryz.prog Tryz.f31=some c31:=by kernel_rfl
theorem a31 {args:List AV} {σ:ASt} {R:AV->ASt->Prop} (hl:args.length<=10) (h:c31_9.wp Tryz.prog (RetQ [.t 2] R) (init args) σ):ACalls Tryz.prog 31 args σ R:=acalls_of Tryz.func31 c31_ok hl h
end Go.A
namespace Go.A
open Go.Proofs Go.Lib Go.Vint
structure TC where
 t:Nd
 v:Option PV
def voAV:Option PV->AV
 | none => .nili
 | some v=>v.av
def cellCs (op n:Int) (s:List UInt8) (a b:Ref) (L:List AV) (v:AV):List AV := [.int .i64 op,.int .i64 n,.str s,.int .i64 a.row,.int .i64 a.col,.bool a.absRow,.bool a.absCol,.int .i64 b.row,.int .i64 b.col,.bool b.absRow,.bool b.absCol,.sl .shr L,v]
def TC.av:TC->AV
 | ⟨.mk op n s a b ks,v⟩ => .agg (cellCs op n s a b (ks.map Nd.av) (voAV v))
def TC.val (c:TC):PV:=c.v.getD .blank
def TC.isF (c:TC):Bool := !decide (c.t.op=0)
def TC.empty (c:TC):Bool:=decide (c.t.op=0) && decide (c.val = .blank)
def TC.text (c:TC):List UInt8:=if c.isF=true then 61::c.t.spell else if (typedP c.val).head? = some 61 then 39::typedP c.val else typedP c.val
section
variable {op n:Int} {s:List UInt8} {a b:Ref} {L:List AV} {v:AV}
@[go_sem] theorem cc_0:(cellCs op n s a b L v)[0]? = some (.int .i64 op):=id rfl
@[go_sem] theorem cc_12:(cellCs op n s a b L v)[12]? = some v:=id rfl
@[go_sem] theorem cc_len:(cellCs op n s a b L v).length=13:=id rfl
end
theorem tcIsFormula_ok (c:TC):Pure Tryz.prog 11 [c.av] (.bool c.isF):=by
 intro σ
 obtain ⟨⟨op,n,s,a,b,ks⟩,v⟩:=c
 have e:TC.isF ⟨.mk op n s a b ks,v⟩ = !decide (op=0):=rfl
 rw [e,TC.av]
 generalize ks.map Nd.av=L at *
 generalize voAV v=x at *
 refine a11 (by simp) ?_
 simp (disch:=first|assumption|omega) only [go_sem]
 refine boxC_by rfl fun c hc=>?_
 simp (disch:=first|assumption|omega) only [go_sem]
 exact retC_by (Drop.set hc) (.refl _) ⟨rfl,rfl⟩
def PV.isB:PV->Bool
 | .blank=>true
 | _=>false
theorem isblank_any (v:PV):Pure Tryz.prog 36 [v.av] (.bool v.isB):=by
 intro σ
 refine a36 (by simp) ?_
 cases v
 all_goals
  simp only [PV.av,PV.isB]
  simp (disch:=first|assumption|omega) only [go_sem]
  refine allocC_by fun b hb=>?_
  simp (disch:=first|assumption|omega) only [go_sem]
  exact retC_by (by repeat' (first|exact Drop.refl _|with_reducible refine Drop.off ?_ (by assumption))) (.refl _) ⟨rfl,rfl⟩
theorem isB_eq (v:PV):v.isB=decide (v = .blank):=by cases v<;>simp [PV.isB]
theorem av_iface (v:PV):∃ t x,v.av = .iface t x:=by cases v<;>exact ⟨_,_,rfl⟩
theorem tcEmpty_ok (c:TC):Pure Tryz.prog 12 [c.av] (.bool c.empty):=by
 intro σ
 obtain ⟨⟨op,n,s,a,b,ks⟩,v⟩:=c
 have e:TC.empty ⟨.mk op n s a b ks,v⟩=(decide (op=0) && decide (v.getD .blank = .blank)):=rfl
 rw [e,TC.av]
 generalize ks.map Nd.av=L at *
 by_cases h0:op=0
 ·cases v with
  | none=>
    have hr:(decide (op=0) && decide ((none:Option PV).getD .blank = .blank))=true:=by simp [h0]
    rw [hr]
    have hv:voAV none = .nili:=rfl
    rw [hv]
    refine a12 (by simp) ?_
    simp (disch:=first|assumption|omega) only [go_sem]
    refine boxC_by rfl fun c hc=>?_
    simp (disch:=first|assumption|omega) only [go_sem,h0]
    refine retC_by (Drop.set hc) (.refl _) ?_
    exact ⟨rfl,rfl⟩
  | some v=>
    have hB:=isblank_any v
    have hr:(decide (op=0) && decide ((some v).getD .blank = .blank))=v.isB:=by rw [isB_eq];simp [h0]
    rw [hr]
    have hv:voAV (some v)=v.av:=rfl
    rw [hv]
    obtain ⟨t,x,hx⟩:=av_iface v
    rw [hx] at hB ⊢
    refine a12 (by simp) ?_
    simp (disch:=first|assumption|omega) only [go_sem]
    refine boxC_by rfl fun c hc=>?_
    simp (disch:=first|assumption|omega) only [go_sem,h0]
    refine hB.use ?_
    simp (disch:=first|assumption|omega) only [go_sem]
    refine retC_by (Drop.set hc) (.refl _) ?_
    exact ⟨rfl,rfl⟩
 ·have hr:(decide (op=0) && decide (v.getD .blank = .blank))=false:=by simp [h0]
  rw [hr]
  generalize voAV v=x at *
  refine a12 (by simp) ?_
  simp (disch:=first|assumption|omega) only [go_sem]
  refine boxC_by rfl fun c hc=>?_
  simp (disch:=first|assumption|omega) only [go_sem,h0]
  refine retC_by (Drop.set hc) (.refl _) ?_
  exact ⟨rfl,rfl⟩
theorem tcValue_ok (c:TC):Pure Tryz.prog 31 [c.av] c.val.av:=by
 intro σ
 obtain ⟨⟨op,n,s,a,b,ks⟩,v⟩:=c
 rw [TC.av]
 generalize ks.map Nd.av=L at *
 cases v with
 | none=>
   have hv:voAV none = .nili:=rfl
   have hr:(TC.val ⟨.mk op n s a b ks,none⟩).av = .iface 138 (.agg []):=rfl
   rw [hv,hr]
   refine a31 (by simp) ?_
   simp (disch:=first|assumption|omega) only [go_sem]
   refine boxC_by rfl fun c hc=>?_
   simp (disch:=first|assumption|omega) only [go_sem]
   refine retC_by (Drop.set hc) (.refl _) ?_
   exact ⟨rfl,rfl⟩
 | some v=>
   have hv:voAV (some v)=v.av:=rfl
   have hr:(TC.val ⟨.mk op n s a b ks,some v⟩).av=v.av:=rfl
   rw [hv,hr]
   obtain ⟨t,x,hx⟩:=av_iface v
   rw [hx]
   refine a31 (by simp) ?_
   simp (disch:=first|assumption|omega) only [go_sem]
   refine boxC_by rfl fun c hc=>?_
   simp (disch:=first|assumption|omega) only [go_sem]
   refine retC_by (Drop.set hc) (.refl _) ?_
   exact ⟨rfl,rfl⟩
structure TC.fine (c:TC):Prop where
 ok:c.isF=true->c.t.ok
 sp:c.isF=true->c.t.spell.length<=800000000
 good:c.val.good
 small:c.val.small
 typ:(typedP c.val).length<=100000
theorem tcText_ok {σ:ASt} (hT:Tab σ) (hM:MaxL σ) (c:TC) (hc:c.fine):ACalls Tryz.prog 9 [c.av] σ fun v σ'=>v = .str c.text/\σ'=σ:=by
 have hF:=tcIsFormula_ok c
 have hV:=tcValue_ok c
 have hP:=fun (h:c.isF=true) (τ:ASt) (hT:Tab τ) (hM:MaxL τ)=>print_ok hT hM c.t (hc.ok h) (by have:=hc.sp h;omega)
 have hTy:=fun (τ:ASt) (hT:Tab τ)=>typed_ok hT c.val hc.good hc.small
 have hsp:=hc.sp
 have htl:=hc.typ
 have hx:c.text=if c.isF=true then 61::c.t.spell else if (typedP c.val).head? = some 61 then 39::typedP c.val else typedP c.val:=rfl
 rw [hx]
 clear hc hx
 generalize typedP c.val=ty at *
 generalize c.val.av=va at *
 obtain ⟨⟨op,n,s,a,b,ks⟩,v⟩:=c
 generalize hq:TC.isF ⟨.mk op n s a b ks,v⟩=q at *
 dsimp only at hP hsp
 generalize (Nd.mk op n s a b ks).spell=SP at *
 rw [TC.av] at *
 rw [Nd.av_cs] at hP
 generalize ks.map Nd.av=L at *
 generalize voAV v=x at *
 cases q with
 | true=>
   rw [if_pos rfl]
   have hsp:=hsp rfl
   have hP:=hP rfl
   have hb:binS .add [61] SP=some (.str (61::SP)):=binS_add (by simp;omega)
   refine a9 (by simp) ?_
   simp (disch:=first|assumption|omega) only [go_sem]
   refine boxC_by rfl fun c hc=>?_
   have T1:=fun r=>Tab.set (r:=r) hT hc
   have M1:=fun r=>MaxL.set (r:=r) hM hc
   simp (disch:=first|assumption|omega) only [go_sem]
   refine hF.use ?_
   simp (disch:=first|assumption|omega) only [go_sem]
   refine (hP _ (T1 _) (M1 _)).mono ?_
   rintro v σ' ⟨rfl,rfl⟩
   simp (disch:=first|assumption|omega) only [go_sem,hb]
   exact retC_by (Drop.set hc) (.refl _) ⟨rfl,rfl⟩
 | false=>
   rw [if_neg (by simp)]
   have hb:binS .add [39] ty=some (.str (39::ty)):=binS_add (by simp;omega)
   cases ty with
   | nil=>
     rw [if_neg (by simp)]
     refine a9 (by simp) ?_
     simp (disch:=first|assumption|omega) only [go_sem]
     refine boxC_by rfl fun c hc=>?_
     have T1:=fun r=>Tab.set (r:=r) hT hc
     simp (disch:=first|assumption|omega) only [go_sem]
     refine hF.use ?_
     simp (disch:=first|assumption|omega) only [go_sem]
     refine hV.use ?_
     simp (disch:=first|assumption|omega) only [go_sem]
     refine (hTy _ (T1 _)).mono ?_
     rintro v σ' ⟨rfl,rfl⟩
     simp (disch:=first|assumption|omega) only [go_sem]
     exact retC_by (Drop.set hc) (.refl _) ⟨rfl,rfl⟩
   | cons d ty=>
     have hl:(0:Int)<((d::ty).length:Int):=by simp only [List.length_cons];omega
     have hx:(d::ty)[0]? = some d:=rfl
     have e0:((0:Int)).toNat=0:=rfl
     by_cases h61:d=61
     ·subst h61
      have hp:((61:UInt8)::ty).head? = some 61:=rfl
      rw [if_pos hp]
      have c61:((61:UInt8).toNat:Int)=61:=rfl
      refine a9 (by simp) ?_
      simp (disch:=first|assumption|omega) only [go_sem]
      refine boxC_by rfl fun c hc=>?_
      have T1:=fun r=>Tab.set (r:=r) hT hc
      simp (disch:=first|assumption|omega) only [go_sem]
      refine hF.use ?_
      simp (disch:=first|assumption|omega) only [go_sem]
      refine hV.use ?_
      simp (disch:=first|assumption|omega) only [go_sem]
      refine (hTy _ (T1 _)).mono ?_
      rintro v σ' ⟨rfl,rfl⟩
      simp (disch:=first|assumption|omega) only [go_sem,hx,c61,hb]
      exact retC_by (Drop.set hc) (.refl _) ⟨rfl,rfl⟩
     ·have hn:¬ (d::ty).head? = some 61:=by simpa using h61
      rw [if_neg hn]
      have c61:¬ ((d.toNat:Int)=61):=by
       intro h
       apply h61
       apply UInt8.toNat_inj.1
       have:d.toNat=61:=by omega
       rw [this]
       rfl
      refine a9 (by simp) ?_
      simp (disch:=first|assumption|omega) only [go_sem]
      refine boxC_by rfl fun c hc=>?_
      have T1:=fun r=>Tab.set (r:=r) hT hc
      simp (disch:=first|assumption|omega) only [go_sem]
      refine hF.use ?_
      simp (disch:=first|assumption|omega) only [go_sem]
      refine hV.use ?_
      simp (disch:=first|assumption|omega) only [go_sem]
      refine (hTy _ (T1 _)).mono ?_
      rintro v σ' ⟨rfl,rfl⟩
      simp (disch:=first|assumption|omega) only [go_sem,hx,c61]
      exact retC_by (Drop.set hc) (.refl _) ⟨rfl,rfl⟩
end Go.A
namespace Go.A
open Go.Proofs
/-! 49: tabular/expr.Same -/
def c49_3:ACode := .seq (.ops [ oe 2 (.box (.t 0)),oe 3 (.box (.t 1)),oq 4 (.mv (.v (.bool false)))]) (.seq (.ops [ oq 5 (.fa 0 (.t 2)),oq 6 (.ld none (.t 5)),oq 7 (.fa 0 (.t 3)),oq 8 (.ld none (.t 7)),oq 9 (.bin .eql (.t 6) (.t 8)),oq 10 (.mv (.t 9)),⟨some 11,some (10,true),.q (.fa 1 (.t 2)),[]⟩,⟨some 12,some (10,true),.q (.ld none (.t 11)),[]⟩,⟨some 13,some (10,true),.q (.fa 1 (.t 3)),[]⟩,⟨some 14,some (10,true),.q (.ld none (.t 13)),[]⟩,⟨some 15,some (10,true),.q (.bin .eql (.t 12) (.t 14)),[]⟩,oq 16 (.pick (.t 10) (.t 15) (.v (.bool false))),oq 17 (.mv (.t 16)),⟨some 18,some (17,true),.q (.fa 2 (.t 2)),[]⟩,⟨some 19,some (17,true),.q (.ld none (.t 18)),[]⟩,⟨some 20,some (17,true),.q (.fa 2 (.t 3)),[]⟩,⟨some 21,some (17,true),.q (.ld none (.t 20)),[]⟩,⟨some 22,some (17,true),.q (.bin .eql (.t 19) (.t 21)),[]⟩,oq 23 (.pick (.t 17) (.t 22) (.v (.bool false))),oq 24 (.mv (.t 23)),⟨some 25,some (24,true),.q (.fa 3 (.t 2)),[]⟩,⟨some 26,some (24,true),.q (.ld (some 4) (.t 25)),[]⟩,⟨some 27,some (24,true),.q (.fa 3 (.t 3)),[]⟩,⟨some 28,some (24,true),.q (.ld (some 4) (.t 27)),[]⟩,⟨some 29,some (24,true),.q (.eqs false [(0,0),(1,0),(2,1),(3,1)] (.t 26) (.t 28)),[]⟩,oq 30 (.pick (.t 24) (.t 29) (.v (.bool false))),oq 31 (.mv (.t 30)),⟨some 32,some (31,true),.q (.fa 7 (.t 2)),[]⟩,⟨some 33,some (31,true),.q (.ld (some 4) (.t 32)),[]⟩,⟨some 34,some (31,true),.q (.fa 7 (.t 3)),[]⟩,⟨some 35,some (31,true),.q (.ld (some 4) (.t 34)),[]⟩,⟨some 36,some (31,true),.q (.eqs false [(0,0),(1,0),(2,1),(3,1)] (.t 33) (.t 35)),[]⟩,oq 37 (.pick (.t 31) (.t 36) (.v (.bool false))),oq 38 (.mv (.t 37)),⟨some 39,some (38,true),.q (.fa 11 (.t 2)),[]⟩,⟨some 40,some (38,true),.q (.ld none (.t 39)),[]⟩,⟨some 41,some (38,true),.q (.fa 11 (.t 3)),[]⟩,⟨some 42,some (38,true),.q (.ld none (.t 41)),[]⟩,⟨some 43,some (38,true),.e (.call 92 [(.t 40),(.t 42),(.v (.func (.func 49) [] []))]),[]⟩,oq 44 (.pick (.t 38) (.t 43) (.v (.bool false))),oq 4 (.mv (.t 44))]) .ret)
@[go_sem] def c49_3_wp:=wp_of c49_3.eq_1
def c49:AFn:=⟨45,[.t 4],c49_3⟩
theorem c49_ok:compF Tryz.prog Tryz.f49=some c49:=by kernel_rfl
theorem a49 {args:List AV} {σ:ASt} {R:AV->ASt->Prop} (hl:args.length<=45) (h:c49_3.wp Tryz.prog (RetQ [.t 4] R) (init args) σ):ACalls Tryz.prog 49 args σ R:=acalls_of Tryz.func49 c49_ok hl h
/-! 92: slices.EqualFunc[[]tabular/expr.Node,[]tabular/expr.Node,tabular/expr.Node,tabular/expr.Node] -/
def c92_22:ACode := .seq (.ops [ oq 18 (.bin .lss (.t 17) (.t 16))]) (.seq (.cond (.t 18) .skip (.exit 0)) (.seq (.block 1 (.seq (.ops [ oq 19 (.mv (.t 17)),oq 20 (.ia 12 (.t 15) (.t 17)),oq 21 (.ld (some 12) (.t 20)),oe 8 (.alloc [(.int .i64 0),(.int .i64 0),(.str []),(.int .i64 0),(.int .i64 0),(.bool false),(.bool false),(.int .i64 0),(.int .i64 0),(.bool false),(.bool false),(.sl .full [])]),oq 7 (.mv (.t 19)),oz (.store 12 (.t 8) (.t 21))]) (.seq (.ops [ oq 22 (.mv (.t 1)),oq 23 (.mv (.t 7)),oq 24 (.ia 12 (.t 22) (.t 23)),oq 25 (.ld (some 12) (.t 24)),oe 9 (.alloc [(.int .i64 0),(.int .i64 0),(.str []),(.int .i64 0),(.int .i64 0),(.bool false),(.bool false),(.int .i64 0),(.int .i64 0),(.bool false),(.bool false),(.sl .full [])]),oz (.store 12 (.t 9) (.t 25))]) (.seq (.ops [ oq 26 (.mv (.t 2)),oq 27 (.ld (some 12) (.t 8)),oq 28 (.ld (some 12) (.t 9)),oe 29 (.callv (.t 26) [(.t 27),(.t 28)]),oq 30 (.un .not (.t 29))]) (.cond (.t 30) (.seq (.ops [ oq 6 (.mv (.v (.bool false)))]) .ret) .skip))))) (.ops [ oq 31 (.bin .add (.t 17) (.v (.int .i64 1))),oq 17 (.mv (.t 31))])))
def c92_30:ACode := .seq (.ops [ oq 6 (.mv (.v (.bool false)))]) (.seq (.seq (.ops [ oq 10 (.mv (.t 0)),oq 11 (.len (.t 10)),oq 12 (.mv (.t 1)),oq 13 (.len (.t 12)),oq 14 (.bin .neq (.t 11) (.t 13))]) (.cond (.t 14) (.seq (.ops [ oq 6 (.mv (.v (.bool false)))]) .ret) .skip)) (.seq (.seq (.ops [ oq 15 (.mv (.t 0)),oq 16 (.len (.t 15)),oq 17 (.mv (.v (.int .i64 0)))]) (.block 0 (.loop c92_22))) (.seq (.ops [ oq 6 (.mv (.v (.bool true)))]) .ret)))
@[go_sem] def c92_22_wp:=wp_of c92_22.eq_1
@[go_sem] def c92_30_wp:=wp_of c92_30.eq_1
def c92:AFn:=⟨32,[.t 6],c92_30⟩
theorem c92_ok:compF Tryz.prog Tryz.f92=some c92:=by kernel_rfl
theorem a92 {args:List AV} {σ:ASt} {R:AV->ASt->Prop} (hl:args.length<=32) (h:c92_30.wp Tryz.prog (RetQ [.t 6] R) (init args) σ):ACalls Tryz.prog 92 args σ R:=acalls_of Tryz.func92 c92_ok hl h
end Go.A
namespace Go.A
def OwnSl (σ0 σ:ASt) (v:AV) (xs:List AV) (s:Nat):Prop:=
 (xs = []/\v = .sl .full []/\σ=σ0)\/∃ b c rest,v = .msl b 0 xs.length c/\xs.length<=c/\rest.length=(c-xs.length)*s/\σ0 b=none/\σ=σ0.set b (some (.obj (xs.flatMap AV.cells++rest)))
theorem OwnSl.drop {σ0 σ:ASt} {v:AV} {xs:List AV} {s:Nat} (h:OwnSl σ0 σ v xs s):Drop σ σ0:=by
 rcases h with ⟨_,_,rfl⟩|⟨b,c,rest,_,_,_,hb,rfl⟩
 ·exact Drop.refl _
 ·exact Drop.set hb
def zrow (s:Nat) (z:List AV) (n c:Nat):List AV:=(List.range ((c-n)*s)).map fun i=>z.getD (i % s) .any
theorem zrow_len (s:Nat) (z:List AV) (n c:Nat):(zrow s z n c).length=(c-n)*s:=by simp [zrow]
theorem ownRow_z {s n c:Nat} {z cs:List AV}:ownRow s z cs n c=cs++zrow s z n c:=rfl
theorem OwnSl.app {e:TypeId} {σ0 σ:ASt} {v:AV} {xs ys z:List AV} {s bytes:Nat} {k2:SK} {K:AV->ASt->Prop} (h:OwnSl σ0 σ v xs s) (hx:∀ x∈xs,x.cells.length=s) (h2:wellSz s ys=true) (h3:leaves (ys.flatMap AV.cells)=true)
  (h4:(xs.length+ys.length)*bytes<=140737488355328) (h5:xs.length+ys.length<=4611686018427387904) (h6:0<ys.length)
  (hK:∀ v' σ',(∃ σ2,Drop σ' σ2/\OwnSl σ0 σ2 v' (xs++ys) s)->K v' σ'):appC e s bytes z v (.sl k2 ys) σ K:=by
 have hyl:(ys.flatMap AV.cells).length=ys.length*s:=lens_flat (wellSz_lens h2)
 have hxl:(xs.flatMap AV.cells).length=xs.length*s:=lens_flat hx
 rcases h with ⟨rfl,rfl,rfl⟩|⟨b,c,rest,rfl,hc,hr,hb,rfl⟩
 ·refine appO_by rfl h2 h3 h4 h5 h6 fun b c hb hc=>hK _ _ ⟨_,Drop.refl _,.inr ⟨b,c,zrow s z (([]:List AV).length+ys.length) c,?_,?_,?_,hb,?_⟩⟩
  ·simp
  ·simpa using hc
  ·rw [zrow_len];simp
  ·rw [ownRow_z];simp only [List.nil_append,List.flatMap_nil]
 ·rw [appC_msl,ASt.set_same]
  refine appM_by h2 h3 h4 h5 (by rw [List.length_append,hxl,hr];omega) (fun hroom=>⟨?_,?_⟩) (fun hgrow b' c' hb' hc'=>?_)
  ·rw [List.length_append,hxl,hr,Nat.zero_add,← Nat.add_mul]
   exact Nat.mul_le_mul_right _ (by omega)
  ·rw [ASt.set_set]
   refine hK _ _ ⟨_,Drop.refl _,.inr ⟨b,c,rest.drop (ys.length*s),by simp,by simpa using hroom,?_,hb,?_⟩⟩
   ·rw [List.length_drop,hr,← Nat.sub_mul,List.length_append]
    congr 1
    omega
   ·congr 3
    unfold splice
    rw [Nat.zero_add,List.flatMap_append]
    have e1:(xs.flatMap AV.cells++rest).take (xs.length*s)=xs.flatMap AV.cells:=by rw [<-hxl];simp
    have e2:(xs.flatMap AV.cells++rest).drop (xs.length*s+ys.length*s)=rest.drop (ys.length*s):=by rw [<-hxl,← List.drop_drop];simp
    rw [e1,e2]
  ·obtain ⟨m1,m2,hb0⟩:=set_none hb'
   have e1:((xs.flatMap AV.cells++rest).drop 0).take (xs.length*s)=xs.flatMap AV.cells:=by rw [<-hxl];simp
   rw [e1]
   refine hK _ _ ⟨σ0.set b' (some (.obj (ownRow s z (xs.flatMap AV.cells++ys.flatMap AV.cells) (xs.length+ys.length) c'))),?_,.inr ⟨b',c',zrow s z (xs.length+ys.length) c',by simp,by simpa using hc',by rw [zrow_len,List.length_append],hb0,?_⟩⟩
   ·rw [set_swap m2]
    exact Drop.set (by rw [ASt.set_ne m2];exact hb)
   ·rw [ownRow_z,List.flatMap_append]
theorem OwnSl.at {σ0 σ:ASt} {x:Nat} {r:Role} {v:AV} {xs:List AV} {s:Nat} (h:OwnSl σ0 σ v xs s) (hx:σ0 x=some r):σ x=some r:=by
 rcases h with ⟨_,_,rfl⟩|⟨b,c,rest,_,_,_,hb,rfl⟩
 ·exact hx
 ·rw [ASt.set_ne]
  ·exact hx
  ·rintro rfl;rw [hb] at hx;cases hx
theorem OwnSl.fresh {σ0 σ:ASt} {x:Nat} {v:AV} {xs:List AV} {s:Nat} (h:OwnSl σ0 σ v xs s) (hx:σ x=none):σ0 x=none:=by
 cases hr:σ0 x with
 | none=>rfl
 | some r=>rw [h.at hr] at hx;cases hx
theorem OwnSl.add {σ0 σ:ASt} {d:Nat} {r:Option Role} {v:AV} {xs:List AV} {s:Nat} (h:OwnSl σ0 σ v xs s) (hd:σ d=none):OwnSl (σ0.set d r) (σ.set d r) v xs s:=by
 rcases h with ⟨h1,h2,rfl⟩|⟨b,c,rest,h1,h2,h3,h4,rfl⟩
 ·exact .inl ⟨h1,h2,rfl⟩
 ·obtain ⟨h5,h6,h7⟩:=set_none hd
  exact .inr ⟨b,c,rest,h1,h2,h3,by rw [ASt.set_ne h6];exact h4,set_swap h6⟩
theorem OwnSl.less {σ0 σ:ASt} {e:Nat} {E:Role} {v:AV} {xs:List AV} {s:Nat} (h:OwnSl (σ0.set e (some E)) σ v xs s) (he:σ0 e=none):∃ σ',Drop σ σ'/\OwnSl σ0 σ' v xs s:=by
 rcases h with ⟨h1,h2,rfl⟩|⟨b,c,rest,h1,h2,h3,h4,rfl⟩
 ·exact ⟨σ0,Drop.set he,.inl ⟨h1,h2,rfl⟩⟩
 ·obtain ⟨h5,h6,h7⟩:=set_none h4
  refine ⟨σ0.set b (some (.obj (xs.flatMap AV.cells++rest))),?_,.inr ⟨b,c,rest,h1,h2,h3,h7,rfl⟩⟩
  rw [set_swap h6]
  exact Drop.set (by rw [ASt.set_ne h6];exact he)
theorem OwnSl.fz {σ0 σ σ':ASt} {v:AV} {xs:List AV} {s:Nat} (h:OwnSl σ0 σ v xs s) (hx:∀ x∈xs,x.cells.length=s) (hn:∀ b,σ0 b=none->σ' b=none):Fz σ σ' v (.sl .shr xs):=by
 rcases h with ⟨rfl,rfl,rfl⟩|⟨b,c,rest,rfl,h2,h3,h4,rfl⟩
 ·exact .sl _ _
 ·have hxl:(xs.flatMap AV.cells).length=xs.length*s:=lens_flat hx
  refine .msl 0 _ c s xs (ASt.set_same _ _ _) (hn _ h4) rfl h2 hx ?_
  rw [List.drop_zero,← hxl,List.take_left]
end Go.A
namespace Go.A
open Go.Proofs Go.Lib
mutual
def Nd.same:Nd->Nd->Bool
 | .mk o n s a b ks,.mk o' n' s' a' b' ks'=>decide (o=o') && decide (n=n') && decide (s=s') && decide (a=a') && decide (b=b') && Nd.sames ks ks'
def Nd.sames:List Nd->List Nd->Bool
 | [],[]=>true
 | [],_::_=>false
 | _::_,[]=>false
 | x::xs,y::ys=>Nd.same x y && Nd.sames xs ys
end
mutual
theorem Nd.same_eq:∀ (x y:Nd),Nd.same x y=true->x=y
 | .mk o n s a b ks,.mk o' n' s' a' b' ks',h=>by
   rw [Nd.same] at h
   simp only [Bool.and_eq_true,decide_eq_true_eq] at h
   obtain ⟨⟨⟨⟨⟨rfl,rfl⟩,rfl⟩,rfl⟩,rfl⟩,h⟩:=h
   rw [Nd.sames_eq ks ks' h]
theorem Nd.sames_eq:∀ (xs ys:List Nd),Nd.sames xs ys=true->xs=ys
 | [],[],_=>rfl
 | [],_::_,h=>by cases h
 | _::_,[],h=>by cases h
 | x::xs,y::ys,h=>by
   rw [Nd.sames,Bool.and_eq_true] at h
   rw [Nd.same_eq x y h.1,Nd.sames_eq xs ys h.2]
end
mutual
theorem Nd.same_refl:∀ x:Nd,Nd.same x x=true
 | .mk o n s a b ks=>by rw [Nd.same,Nd.sames_refl ks];simp
theorem Nd.sames_refl:∀ xs:List Nd,Nd.sames xs xs=true
 | []=>rfl
 | x::xs=>by rw [Nd.sames,Nd.same_refl x,Nd.sames_refl xs];rfl
end
theorem Nd.sames_len:∀ {xs ys:List Nd},Nd.sames xs ys=true->xs.length=ys.length:=fun h=>by rw [Nd.sames_eq _ _ h]
theorem Nd.sames_get {xs ys:List Nd} {i:Nat} {x y:Nd} (hx:xs[i]? = some x) (hy:ys[i]? = some y) (h:Nd.sames xs ys=true):Nd.same x y=true:=by
 rw [Nd.sames_eq _ _ h,hy] at hx
 injection hx with hx
 rw [hx];exact Nd.same_refl _
theorem Nd.sames_all:∀ {xs ys:List Nd},xs.length=ys.length->(∀ (i:Nat) x y,xs[i]? = some x->ys[i]? = some y->Nd.same x y=true)->Nd.sames xs ys=true
 | [],[],_,_=>rfl
 | [],_::_,h,_=>by simp at h
 | _::_,[],h,_=>by simp at h
 | x::xs,y::ys,h,hs=>by
   rw [Nd.sames,hs 0 x y rfl rfl,Nd.sames_all (by simpa using h) fun i u v hu hv=>hs (i+1) u v (by simpa using hu) (by simpa using hv)]
   rfl
theorem equal_ok (xs ys:List Nd) (hl:xs.length<=1000000000/\ys.length<=1000000000) (ih:∀ x∈xs,∀ y∈ys,Pure Tryz.prog 49 [x.av,y.av] (.bool (Nd.same x y))) :
  Pure Tryz.prog 92 [.sl .shr (xs.map Nd.av),.sl .shr (ys.map Nd.av),.func (.func 49) [] []] (.bool (Nd.sames xs ys)):=by
 intro σ
 refine a92 (by simp) ?_
 by_cases hne:xs.length=ys.length
 ·have hne':¬ ((xs.length:Int)≠ys.length):=by omega
  have hne2:(xs.length:Int)=ys.length:=by omega
  simp (disch:=first|assumption|omega) only [go_sem,hne2]
  refine wp_loop_by (fun (i:Nat) a1 s2=>(i<=xs.length/\∀ k x y,k<i->xs[k]? = some x->ys[k]? = some y->Nd.same x y=true)/\(a1 1 = .sl .shr (ys.map Nd.av)/\a1 2 = .func (.func 49) [] []/\a1 15 = .sl .shr (xs.map Nd.av)/\a1 16 = .int .i64 xs.length/\a1 17 = .int .i64 i)/\s2=σ) (fun i=>xs.length-i) 0 (Dr.now ⟨⟨Nat.zero_le _,fun k x y h=>by omega⟩,?_,rfl⟩) ?_
  ·simp (disch:=first|assumption|omega) only [go_sem,hne2]
  rintro i a1 s2 ⟨⟨hi,hall⟩,hf,rfl⟩
  by_cases hlt:i<xs.length
  ·have hlt':(i:Int)<xs.length:=by omega
   have hx : xs[i]? = some (xs[i]'hlt) := List.getElem?_eq_getElem hlt
   have hy : ys[i]? = some (ys[i]'(by omega)) := List.getElem?_eq_getElem (by omega)
   have hih := ih _ (List.getElem_mem hlt) _ (List.getElem_mem (h := by omega) : ys[i]'(by omega) ∈ ys)
   obtain ⟨x, hxe⟩ : ∃ x, xs[i]'hlt = x := ⟨_, rfl⟩
   obtain ⟨y, hye⟩ : ∃ y, ys[i]'(by omega) = y := ⟨_, rfl⟩
   rw [hxe] at hx hih
   rw [hye] at hy hih
   have hmx:=Nd.get hx
   have hmy:=Nd.get hy
   obtain ⟨r,hr⟩:∃ r,Nd.same x y=r:=⟨_,rfl⟩
   rw [hr] at hih
   obtain ⟨xo,xm,xs',xa,xb,xk⟩:=x
   obtain ⟨yo,ym,ys',ya,yb,yk⟩:=y
   rw [Nd.av_cs] at hmx
   rw [Nd.av_cs] at hmy
   rw [Nd.av_cs,Nd.av_cs] at hih
   generalize xk.map Nd.av=XK at *
   generalize yk.map Nd.av=YK at *
   generalize hXL:xs.map Nd.av=XL at *
   generalize hYL:ys.map Nd.av=YL at *
   have hok:okFn Tryz.prog 49=true:=by kernel_rfl
   simp (disch:=first|assumption|omega) only [go_sem,hf,hlt',hmx]
   refine allocC_by fun d hd=>?_
   have hd0:=hd
   simp (disch:=first|assumption|omega) only [go_sem,hf,hmy,ASt.set_set]
   refine allocC_by fun e he=>?_
   have he0:=he
   repeat (with_reducible replace he:=set_none he;obtain ⟨_,_,he⟩:=he)
   simp (disch:=first|assumption|omega) only [go_sem,hf,ASt.set_set]
   refine ⟨hok,hih.use ?_⟩
   cases r with
   | true=>
     simp (disch:=first|assumption|omega) only [go_sem,hf]
     refine ⟨i+1,by dsimp only;omega,Dr.drop ((Drop.set hd).off (by assumption)) ⟨⟨by omega,fun k u v hk hu hv=>?_⟩,?_,rfl⟩⟩
     ·by_cases hki:k=i
      ·subst hki
       rw [hx] at hu;rw [hy] at hv
       injection hu with hu;injection hv with hv
       subst hu hv;exact hr
      ·exact hall k u v (by omega) hu hv
     ·simp (disch:=first|assumption|omega) only [go_sem,hf]
   | false=>
     have hfin:Nd.sames xs ys=false:=by
      cases h:Nd.sames xs ys with
      | false=>rfl
      | true=>rw [Nd.sames_get hx hy h] at hr;cases hr
     simp (disch:=first|assumption|omega) only [go_sem]
     exact retC_by ((Drop.set hd).off (by assumption)) (.refl _) ⟨by rw [hfin];rfl,rfl⟩
  ·have hlt':¬ (i:Int)<xs.length:=by omega
   have hfin:Nd.sames xs ys=true:=Nd.sames_all hne fun k u v hu hv=>hall k u v (by have:=(List.getElem?_eq_some_iff.1 hu).1;omega) hu hv
   simp (disch:=first|assumption|omega) only [go_sem,hf,hlt']
   exact retC_by (Drop.refl _) (.refl _) ⟨by rw [hfin];rfl,rfl⟩
 ·have hne2:¬ (xs.length:Int)=ys.length:=by omega
  have hfin:Nd.sames xs ys=false:=by
   cases h:Nd.sames xs ys with
   | false=>rfl
   | true=>exact absurd (Nd.sames_len h) hne
  simp (disch:=first|assumption|omega) only [go_sem,hne2]
  exact retC_by (Drop.refl _) (.refl _) ⟨by rw [hfin];rfl,rfl⟩
theorem ref_ne {a b:Ref} (h:a≠b):(decide (a.row=b.row) && (decide (a.col=b.col) && (decide (a.absRow=b.absRow) && decide (a.absCol=b.absCol))))=false:=by
 obtain ⟨a1,a2,a3,a4⟩:=a
 obtain ⟨b1,b2,b3,b4⟩:=b
 cases hd:(decide (a1=b1) && (decide (a2=b2) && (decide (a3=b3) && decide (a4=b4)))) with
 | false=>rfl
 | true=>
   simp only [Bool.and_eq_true,decide_eq_true_eq] at hd
   obtain ⟨rfl,rfl,rfl,rfl⟩:=hd
   exact absurd rfl h
theorem esame_le:∀ (k:Nat) (x y:Nd),x.size<=k->x.size<=1000000000->y.size<=1000000000->Pure Tryz.prog 49 [x.av,y.av] (.bool (Nd.same x y))
 | 0,x,y,hk,_,_=>by have:=x.size_pos;omega
 | k+1,x,y,hk,hx,hy=>by
   intro σ
   obtain ⟨o,n,s,a,b,ks⟩:=x
   obtain ⟨o',n',s',a',b',ks'⟩:=y
   rw [Nd.size] at hk hx hy
   have l1:=sizes_len ks
   have l2:=sizes_len ks'
   have hE:=equal_ok ks ks' ⟨by omega,by omega⟩ fun u hu v hv=>by
    have h1:=Nd.size_kid hu
    have h2:=Nd.size_kid hv
    exact esame_le k u v (by omega) (by omega) (by omega)
   rw [Nd.av_cs,Nd.av_cs,Nd.same]
   generalize Nd.sames ks ks'=r at *
   generalize ks.map Nd.av=L at *
   generalize ks'.map Nd.av=L' at *
   refine a49 (by simp) ?_
   simp (disch:=first|assumption|omega) only [go_sem]
   refine boxC_by rfl fun c hc=>?_
   simp (disch:=first|assumption|omega) only [go_sem]
   refine boxC_by rfl fun d hd=>?_
   have hd0:=hd
   repeat (with_reducible replace hd:=set_none hd;obtain ⟨_,_,hd⟩:=hd)
   have hD:∀ r r':Option Role,Drop ((σ.set c r).set d r') σ:=fun r r'=>(Drop.set hc).off (by assumption)
   by_cases h1:o=o'
   ·by_cases h2:n=n'
    ·by_cases h3:s=s'
     ·by_cases h4:a=a'
      ·by_cases h5:b=b'
       ·subst h1 h2 h3 h4 h5
        simp (disch:=first|assumption|omega) only [go_sem,eq_self]
        refine hE.use ?_
        simp (disch:=first|assumption|omega) only [go_sem,eq_self]
        refine retC_by (hD _ _) (.refl _) ⟨?_,rfl⟩
        first|rfl|(show AV.bool _=AV.bool _;simp)
       ·have h5':=ref_ne h5
        subst h1 h2 h3 h4
        simp (disch:=first|assumption|omega) only [go_sem,eq_self,h5']
        refine retC_by (hD _ _) (.refl _) ⟨?_,rfl⟩
        first|rfl|(show AV.bool _=AV.bool _;simp [h5])
      ·have h4':=ref_ne h4
       subst h1 h2 h3
       simp (disch:=first|assumption|omega) only [go_sem,eq_self,h4']
       refine retC_by (hD _ _) (.refl _) ⟨?_,rfl⟩
       first|rfl|(show AV.bool _=AV.bool _;simp [h4])
     ·subst h1 h2
      simp (disch:=first|assumption|omega) only [go_sem,eq_self,h3]
      refine retC_by (hD _ _) (.refl _) ⟨?_,rfl⟩
      first|rfl|(show AV.bool _=AV.bool _;simp [h3])
    ·subst h1
     simp (disch:=first|assumption|omega) only [go_sem,eq_self,h2]
     refine retC_by (hD _ _) (.refl _) ⟨?_,rfl⟩
     first|rfl|(show AV.bool _=AV.bool _;simp [h2])
   ·simp (disch:=first|assumption|omega) only [go_sem,h1]
    refine retC_by (hD _ _) (.refl _) ⟨?_,rfl⟩
    first|rfl|(show AV.bool _=AV.bool _;simp [h1])
theorem esame_ok (x y:Nd) (hx:x.size<=1000000000) (hy:y.size<=1000000000):Pure Tryz.prog 49 [x.av,y.av] (.bool (Nd.same x y)):=esame_le x.size x y (Nat.le_refl _) hx hy
end Go.A
namespace Go.A
open Go.Proofs Go.Lib
structure Pt where
 op:Int
 n:Int
 s:List UInt8
 a:Ref
 b:Ref
 deriving Inhabited
def ndV (o m:Int) (s:List UInt8) (a b:Ref) (v:AV):List AV := [.int .i64 o,.int .i64 m,.str s,.int .i64 a.row,.int .i64 a.col,.bool a.absRow,.bool a.absCol,.int .i64 b.row,.int .i64 b.col,.bool b.absRow,.bool b.absCol,v]
section
variable {o m:Int} {s:List UInt8} {a b:Ref} {v w:AV}
@[go_sem] theorem nv_11:(ndV o m s a b v)[11]? = some v:=id rfl
@[go_sem] theorem nv_len:(ndV o m s a b v).length=12:=id rfl
@[go_sem] theorem nv_take:(ndV o m s a b v).take 12=ndV o m s a b v:=id rfl
@[go_sem] theorem nv_drop:(ndV o m s a b v).drop 12 = []:=id rfl
@[go_sem] theorem nv_put'':(ndV o m s a b v).take 11 ++ [w]=ndV o m s a b w:=id rfl
theorem nv_leaves (h:v.leaf=true):leaves (ndV o m s a b v)=true:=by
 cases v<;>first|rfl|cases h
end
def missN:Nd := .mk 23 0 [] .zero .zero []
end Go.A
namespace Go.A
open Go.Proofs Go.Lib
def zero12:List AV := [.int .i64 0,.int .i64 0,.str [],.int .i64 0,.int .i64 0,.bool false,.bool false,.int .i64 0,.int .i64 0,.bool false,.bool false,.sl .full []]
theorem OwnSl.leaf {σ0 σ:ASt} {v:AV} {xs:List AV} {s:Nat} (h:OwnSl σ0 σ v xs s):v.leaf=true/\v.cells = [v]:=by
 rcases h with ⟨rfl,rfl,rfl⟩|⟨b,c,rest,rfl,_⟩<;>exact ⟨rfl,rfl⟩
theorem OwnSl.put {σ0 σ:ASt} {d:Nat} {r:Role} {v:AV} {xs:List AV} {s:Nat} (h:OwnSl σ0 σ v xs s) (hd:σ0 d=some r) (r':Option Role):OwnSl (σ0.set d r') (σ.set d r') v xs s:=by
 rcases h with ⟨h1,h2,rfl⟩|⟨b,c,rest,h1,h2,h3,h4,rfl⟩
 ·exact .inl ⟨h1,h2,rfl⟩
 ·have hbd:b≠d:=by rintro rfl;rw [hd] at h4;cases h4
  exact .inr ⟨b,c,rest,h1,h2,h3,by rw [ASt.set_ne hbd];exact h4,set_swap hbd⟩
theorem leaf1 {v:AV}:leaves [v]=v.leaf:=by simp [leaves]
theorem Drop.had {σ σ':ASt} {b:Nat} {r:Role} (h:Drop σ σ') (hb:σ' b=some r):σ b=some r:=by
 rcases h b with h1|h1
 ·rw [<-h1];exact hb
 ·rw [h1] at hb;cases hb
theorem Drop.nil {σ σ':ASt} {b:Nat} (h:Drop σ σ') (hb:σ b=none):σ' b=none:=by
 rcases h b with h1|h1
 ·rw [h1];exact hb
 ·exact h1
end Go.A
namespace Go.A
open Go.Proofs
/-! 63: tabular/token.Lex -/
def c63_18:ACode := .seq (.seq (.ops [ oq 13 (.mv (.t 5)),oq 14 (.nc (.t 13)),oq 15 (.fa 1 (.t 14)),oq 16 (.ld none (.t 15)),oq 17 (.mv (.t 0)),oq 18 (.lenS (.t 17)),oq 19 (.bin .lss (.t 16) (.t 18))]) (.cond (.t 19) .skip (.exit 0))) (.block 1 (.seq (.ops [ oq 20 (.mv (.t 5)),oe 21 (.call 107 [(.t 20)]),oq 6 (.mv (.t 21))]) (.seq (.ops [ oq 22 (.mv (.t 6)),oq 23 (.bin .neq (.t 22) (.v (.int .i64 0)))]) (.cond (.t 23) (.seq (.ops [ oq 24 (.mv (.t 5)),oq 25 (.nc (.t 24)),oq 26 (.fa 1 (.t 25)),oq 27 (.ld none (.t 26)),oq 28 (.mv (.t 6)),oq 2 (.mv (.v (.sl .full []))),oq 3 (.mv (.t 27)),oq 4 (.mv (.t 28))]) .ret) .skip))))
def c63_24:ACode := .seq (.ops [ oq 29 (.mv (.t 5)),oe 30 (.call 108 [(.t 29),(.v (.int .i64 0)),(.v (.str [])),(.v (.int .i64 0))])]) (.seq (.ops [ oq 31 (.mv (.t 5)),oq 32 (.nc (.t 31)),oq 33 (.fa 3 (.t 32)),oq 34 (.ld none (.t 33)),oq 2 (.mv (.t 34)),oq 3 (.mv (.v (.int .i64 0))),oq 4 (.mv (.v (.int .i64 0)))]) .ret)
def c63_28:ACode := .seq (.ops [ oq 2 (.mv (.v (.sl .full []))),oq 3 (.mv (.v (.int .i64 0))),oq 4 (.mv (.v (.int .i64 0)))]) (.seq (.seq (.ops [ oq 7 (.mv (.t 0)),oq 8 (.lenS (.t 7)),oq 9 (.bin .gtr (.t 8) (.v (.int .i64 2000)))]) (.cond (.t 9) (.seq (.ops [ oq 2 (.mv (.v (.sl .full []))),oq 3 (.mv (.v (.int .i64 0))),oq 4 (.mv (.v (.int .i64 11)))]) .ret) .skip)) (.seq (.ops [ oq 10 (.mv (.t 0)),oq 11 (.build [(.str []),(.int .i64 0),(.int .i64 0),(.sl .full [])] [(0,1,(.t 10))]),oe 12 (.box (.t 11)),oq 5 (.mv (.t 12))]) (.seq (.block 0 (.loop c63_18)) c63_24)))
@[go_sem] def c63_18_wp:=wp_of c63_18.eq_1
@[go_sem] def c63_24_wp:=wp_of c63_24.eq_1
@[go_sem] def c63_28_wp:=wp_of c63_28.eq_1
def c63:AFn:=⟨35,[.t 2,.t 3,.t 4],c63_28⟩
theorem c63_ok:compF Tryz.prog Tryz.f63=some c63:=by kernel_rfl
theorem a63 {args:List AV} {σ:ASt} {R:AV->ASt->Prop} (hl:args.length<=35) (h:c63_28.wp Tryz.prog (RetQ [.t 2,.t 3,.t 4] R) (init args) σ):ACalls Tryz.prog 63 args σ R:=acalls_of Tryz.func63 c63_ok hl h
/-! 107: (*tabular/token.lexer).next -/
def c107_39:ACode := .seq (.ops [ oq 2 (.mv (.v (.int .i64 0)))]) (.seq (.ops [ oq 6 (.mv (.t 0)),oe 7 (.call 152 [(.t 6)]),oq 5 (.mv (.t 7)),oq 8 (.ext 0 (.t 5)),oq 9 (.ext 1 (.t 5)),oq 3 (.mv (.t 8)),oq 4 (.mv (.t 9))]) (.seq (.block 0 (.seq (.ops [ oq 15 (.mv (.t 4)),oq 16 (.bin .lss (.t 15) (.v (.int .i64 0))),oq 14 (.mv (.t 16))]) (.cond (.t 14) (.seq (.ops [ oq 2 (.mv (.v (.int .i64 10)))]) .ret) (.seq (.seq (.ops [ oq 18 (.mv (.t 3)),oq 19 (.bin .eql (.t 18) (.v (.int .i32 32))),oq 17 (.mv (.t 19))]) (.cond (.t 17) .skip (.seq (.ops [ oq 20 (.mv (.t 3)),oq 21 (.bin .eql (.t 20) (.v (.int .i32 9))),oq 17 (.mv (.t 21))]) (.cond (.t 17) .skip (.ops [ oq 22 (.mv (.t 3)),oq 23 (.bin .eql (.t 22) (.v (.int .i32 10))),oq 17 (.mv (.t 23))]))))) (.cond (.t 17) (.ops [ oq 24 (.mv (.t 0)),oq 25 (.mv (.t 0)),oq 26 (.nc (.t 25)),oq 27 (.fa 1 (.t 26)),oq 28 (.ld none (.t 27)),oq 29 (.mv (.t 4)),oq 30 (.bin .add (.t 28) (.t 29)),oe 31 (.call 153 [(.t 24),(.t 30)])]) (.seq (.ops [ oq 33 (.mv (.t 3)),oq 34 (.bin .lss (.t 33) (.v (.int .i32 128))),oq 35 (.mv (.t 34)),⟨some 36,some (35,true),.q (.mv (.t 3)),[]⟩,⟨some 37,some (35,true),.q (.conv .u8 (.t 36)),[]⟩,⟨some 38,some (35,true),.e (.call 154 [(.t 37)]),[]⟩,oq 39 (.pick (.t 35) (.t 38) (.v (.bool false))),oq 32 (.mv (.t 39))]) (.cond (.t 32) (.seq (.ops [ oq 40 (.mv (.t 0)),oe 41 (.call 155 [(.t 40)]),oq 2 (.mv (.t 41))]) .ret) (.seq (.ops [ oq 43 (.mv (.t 3)),oq 44 (.bin .eql (.t 43) (.v (.int .i32 34))),oq 42 (.mv (.t 44))]) (.cond (.t 42) (.seq (.ops [ oq 45 (.mv (.t 0)),oe 46 (.call 156 [(.t 45)]),oq 2 (.mv (.t 46))]) .ret) (.seq (.ops [ oq 48 (.mv (.t 3)),oq 49 (.bin .eql (.t 48) (.v (.int .i32 35))),oq 47 (.mv (.t 49))]) (.cond (.t 47) (.seq (.ops [ oq 50 (.mv (.t 0)),oe 51 (.call 157 [(.t 50)]),oq 2 (.mv (.t 51))]) .ret) (.seq (.ops [ oq 10 (.mv (.t 0)),oq 11 (.mv (.t 3)),oq 12 (.mv (.t 4)),oe 13 (.call 158 [(.t 10),(.t 11),(.t 12)]),oq 2 (.mv (.t 13))]) .ret)))))))))))) (.seq (.ops [ oq 2 (.mv (.v (.int .i64 0)))]) .ret)))
@[go_sem] def c107_39_wp:=wp_of c107_39.eq_1
def c107:AFn:=⟨52,[.t 2],c107_39⟩
theorem c107_ok:compF Tryz.prog Tryz.f107=some c107:=by kernel_rfl
theorem a107 {args:List AV} {σ:ASt} {R:AV->ASt->Prop} (hl:args.length<=52) (h:c107_39.wp Tryz.prog (RetQ [.t 2] R) (init args) σ):ACalls Tryz.prog 107 args σ R:=acalls_of Tryz.func107 c107_ok hl h
/-! 108: (*tabular/token.lexer).put -/
def c108_4:ACode := .seq (.ops [ oq 8 (.mv (.t 0)),oq 9 (.mv (.t 0)),oq 10 (.nc (.t 9)),oq 11 (.fa 3 (.t 10)),oq 12 (.ld none (.t 11)),oq 13 (.mv (.t 1)),oq 14 (.mv (.t 2)),oq 15 (.mv (.t 0)),oq 16 (.nc (.t 15)),oq 17 (.fa 1 (.t 16)),oq 18 (.ld none (.t 17)),oq 19 (.mv (.t 0)),oq 20 (.nc (.t 19)),oq 21 (.fa 2 (.t 20)),oq 22 (.ld none (.t 21)),oq 23 (.build [(.int .i64 0),(.str []),(.int .i64 0),(.int .i64 0)] [(0,1,(.t 13)),(1,1,(.t 14)),(2,1,(.t 18)),(3,1,(.t 22))]),oq 24 (.bsl 4 [(.t 23)]),oe 25 (.app 131 4 40 [(.int .i64 0),(.str []),(.int .i64 0),(.int .i64 0)] (.t 12) (.t 24)),oq 26 (.nc (.t 8)),oq 27 (.fa 3 (.t 26)),oz (.store 1 (.t 27) (.t 25))]) (.seq (.ops [ oq 28 (.mv (.t 0)),oq 29 (.nc (.t 28)),oq 30 (.fa 2 (.t 29)),oq 31 (.ld none (.t 30)),oq 32 (.mv (.t 0)),oq 33 (.nc (.t 32)),oq 34 (.fa 0 (.t 33)),oq 35 (.ld none (.t 34)),oq 36 (.mv (.t 0)),oq 37 (.nc (.t 36)),oq 38 (.fa 1 (.t 37)),oq 39 (.ld none (.t 38)),oq 40 (.mv (.t 0)),oq 41 (.nc (.t 40)),oq 42 (.fa 1 (.t 41)),oq 43 (.ld none (.t 42)),oq 44 (.mv (.t 3)),oq 45 (.bin .add (.t 43) (.t 44)),oq 46 (.sls (true,0) (.t 35) (.t 39) (.t 45)),⟨some 47,none,.e (.call 159 [(.t 46)]),[⟨none,.ld none (.t 30),31⟩]⟩,oq 48 (.bin .add (.t 31) (.t 47)),oq 49 (.nc (.t 28)),oq 50 (.fa 2 (.t 49)),oz (.store 1 (.t 50) (.t 48))]) (.ops [ oq 51 (.mv (.t 0)),oq 52 (.nc (.t 51)),oq 53 (.fa 1 (.t 52)),oq 54 (.ld none (.t 53)),oq 55 (.mv (.t 3)),oq 56 (.bin .add (.t 54) (.t 55)),oq 57 (.nc (.t 51)),oq 58 (.fa 1 (.t 57)),oz (.store 1 (.t 58) (.t 56))]))
@[go_sem] def c108_4_wp:=wp_of c108_4.eq_1
def c108:AFn:=⟨59,[],c108_4⟩
theorem c108_ok:compF Tryz.prog Tryz.f108=some c108:=by kernel_rfl
theorem a108 {args:List AV} {σ:ASt} {R:AV->ASt->Prop} (hl:args.length<=59) (h:c108_4.wp Tryz.prog (RetQ [] R) (init args) σ):ACalls Tryz.prog 108 args σ R:=acalls_of Tryz.func108 c108_ok hl h
/-! 152: (*tabular/token.lexer).sign -/
def c152_17:ACode := .seq (.ops [ oq 2 (.mv (.v (.int .i32 0))),oq 3 (.mv (.v (.int .i64 0)))]) (.seq (.seq (.ops [ oq 6 (.mv (.t 0)),oq 7 (.nc (.t 6)),oq 8 (.fa 1 (.t 7)),oq 9 (.ld none (.t 8)),oq 10 (.mv (.t 0)),oq 11 (.nc (.t 10)),oq 12 (.fa 0 (.t 11)),oq 13 (.ld none (.t 12)),oq 14 (.lenS (.t 13)),oq 15 (.bin .geq (.t 9) (.t 14))]) (.cond (.t 15) (.seq (.ops [ oq 2 (.mv (.v (.int .i32 0))),oq 3 (.mv (.v (.int .i64 0)))]) .ret) .skip)) (.seq (.ops [ oq 17 (.mv (.t 0)),oq 18 (.nc (.t 17)),oq 19 (.fa 0 (.t 18)),oq 20 (.ld none (.t 19)),oq 21 (.mv (.t 0)),oq 22 (.nc (.t 21)),oq 23 (.fa 1 (.t 22)),oq 24 (.ld none (.t 23)),oq 25 (.slfrom (true,0) (.t 20) (.t 24)),oe 26 (.call 119 [(.t 25)]),oq 16 (.mv (.t 26)),oq 27 (.ext 0 (.t 16)),oq 28 (.ext 1 (.t 16)),oq 4 (.mv (.t 27)),oq 5 (.mv (.t 28))]) (.seq (.seq (.ops [ oq 29 (.mv (.t 4)),oq 30 (.bin .eql (.t 29) (.v (.int .i32 65533))),oq 31 (.mv (.t 30)),⟨some 32,some (31,true),.q (.mv (.t 5)),[]⟩,⟨some 33,some (31,true),.q (.bin .eql (.t 32) (.v (.int .i64 1))),[]⟩,oq 34 (.pick (.t 31) (.t 33) (.v (.bool false)))]) (.cond (.t 34) (.seq (.ops [ oq 2 (.mv (.v (.int .i32 0))),oq 3 (.mv (.v (.int .i64 (-1))))]) .ret) .skip)) (.seq (.ops [ oq 35 (.mv (.t 4)),oq 36 (.mv (.t 5)),oq 2 (.mv (.t 35)),oq 3 (.mv (.t 36))]) .ret))))
@[go_sem] def c152_17_wp:=wp_of c152_17.eq_1
def c152:AFn:=⟨37,[.t 2,.t 3],c152_17⟩
theorem c152_ok:compF Tryz.prog Tryz.f152=some c152:=by kernel_rfl
theorem a152 {args:List AV} {σ:ASt} {R:AV->ASt->Prop} (hl:args.length<=37) (h:c152_17.wp Tryz.prog (RetQ [.t 2,.t 3] R) (init args) σ):ACalls Tryz.prog 152 args σ R:=acalls_of Tryz.func152 c152_ok hl h
/-! 153: (*tabular/token.lexer).pass -/
def c153_2:ACode := .seq (.ops [ oq 4 (.mv (.t 0)),oq 5 (.nc (.t 4)),oq 6 (.fa 2 (.t 5)),oq 7 (.ld none (.t 6)),oq 8 (.mv (.t 0)),oq 9 (.nc (.t 8)),oq 10 (.fa 0 (.t 9)),oq 11 (.ld none (.t 10)),oq 12 (.mv (.t 0)),oq 13 (.nc (.t 12)),oq 14 (.fa 1 (.t 13)),oq 15 (.ld none (.t 14)),oq 16 (.mv (.t 1)),oq 17 (.sls (true,0) (.t 11) (.t 15) (.t 16)),⟨some 18,none,.e (.call 159 [(.t 17)]),[⟨none,.ld none (.t 6),7⟩]⟩,oq 19 (.bin .add (.t 7) (.t 18)),oq 20 (.nc (.t 4)),oq 21 (.fa 2 (.t 20)),oz (.store 1 (.t 21) (.t 19))]) (.ops [ oq 22 (.mv (.t 0)),oq 23 (.mv (.t 1)),oq 24 (.nc (.t 22)),oq 25 (.fa 1 (.t 24)),oz (.store 1 (.t 25) (.t 23))])
@[go_sem] def c153_2_wp:=wp_of c153_2.eq_1
def c153:AFn:=⟨26,[],c153_2⟩
theorem c153_ok:compF Tryz.prog Tryz.f153=some c153:=by kernel_rfl
theorem a153 {args:List AV} {σ:ASt} {R:AV->ASt->Prop} (hl:args.length<=26) (h:c153_2.wp Tryz.prog (RetQ [] R) (init args) σ):ACalls Tryz.prog 153 args σ R:=acalls_of Tryz.func153 c153_ok hl h
/-! 155: (*tabular/token.lexer).words -/
def c155_7:ACode := .seq (.seq (.ops [ oq 5 (.mv (.t 0)),oq 6 (.nc (.t 5)),oq 7 (.fa 1 (.t 6)),oq 8 (.ld none (.t 7)),oq 9 (.mv (.t 3)),oq 10 (.bin .add (.t 8) (.t 9)),oq 11 (.mv (.t 0)),oq 12 (.nc (.t 11)),oq 13 (.fa 0 (.t 12)),oq 14 (.ld none (.t 13)),oq 15 (.lenS (.t 14)),oq 16 (.bin .lss (.t 10) (.t 15)),oq 17 (.mv (.t 16)),⟨some 18,some (17,true),.q (.mv (.t 0)),[]⟩,⟨some 19,some (17,true),.q (.nc (.t 18)),[]⟩,⟨some 20,some (17,true),.q (.fa 0 (.t 19)),[]⟩,⟨some 21,some (17,true),.q (.ld none (.t 20)),[]⟩,⟨some 22,some (17,true),.q (.mv (.t 0)),[]⟩,⟨some 23,some (17,true),.q (.nc (.t 22)),[]⟩,⟨some 24,some (17,true),.q (.fa 1 (.t 23)),[]⟩,⟨some 25,some (17,true),.q (.ld none (.t 24)),[]⟩,⟨some 26,some (17,true),.q (.mv (.t 3)),[]⟩,⟨some 27,some (17,true),.q (.bin .add (.t 25) (.t 26)),[]⟩,⟨some 28,some (17,true),.q (.idx (.t 21) (.t 27)),[]⟩,⟨some 29,some (17,true),.e (.call 154 [(.t 28)]),[]⟩,oq 30 (.pick (.t 17) (.t 29) (.v (.bool false)))]) (.cond (.t 30) .skip (.exit 0))) (.block 1 (.ops [ oq 31 (.mv (.t 3)),oq 32 (.bin .add (.t 31) (.v (.int .i64 1))),oq 3 (.mv (.t 32))]))
def c155_29:ACode := .seq (.ops [ oq 33 (.mv (.t 0)),oq 34 (.nc (.t 33)),oq 35 (.fa 0 (.t 34)),oq 36 (.ld none (.t 35)),oq 37 (.mv (.t 0)),oq 38 (.nc (.t 37)),oq 39 (.fa 1 (.t 38)),oq 40 (.ld none (.t 39)),oq 41 (.mv (.t 0)),oq 42 (.nc (.t 41)),oq 43 (.fa 1 (.t 42)),oq 44 (.ld none (.t 43)),oq 45 (.mv (.t 3)),oq 46 (.bin .add (.t 44) (.t 45)),oq 47 (.sls (true,0) (.t 36) (.t 40) (.t 46)),oq 4 (.mv (.t 47))]) (.seq (.block 2 (.seq (.ops [ oq 49 (.mv (.t 4)),oe 50 (.call 191 [(.t 49)]),oq 48 (.mv (.t 50))]) (.cond (.t 48) (.ops [ oq 51 (.mv (.t 0)),oq 52 (.mv (.t 4)),oq 53 (.mv (.t 3)),oe 54 (.call 108 [(.t 51),(.v (.int .i64 1)),(.t 52),(.t 53)])]) (.seq (.ops [ oq 56 (.mv (.t 4)),oe 57 (.call 192 [(.t 56)]),oq 55 (.mv (.t 57))]) (.cond (.t 55) (.ops [ oq 58 (.mv (.t 0)),oq 59 (.mv (.t 4)),oe 60 (.call 193 [(.t 59)]),oq 61 (.mv (.t 3)),oe 62 (.call 108 [(.t 58),(.v (.int .i64 4)),(.t 60),(.t 61)])]) (.seq (.ops [ oq 64 (.mv (.t 4)),oe 65 (.call 194 [(.t 64)]),oq 63 (.mv (.t 65))]) (.cond (.t 63) (.ops [ oq 66 (.mv (.t 0)),oq 67 (.mv (.t 4)),oe 68 (.call 193 [(.t 67)]),oq 69 (.mv (.t 3)),oe 70 (.call 108 [(.t 66),(.v (.int .i64 3)),(.t 68),(.t 69)])]) (.seq (.ops [ oq 2 (.mv (.v (.int .i64 10)))]) .ret)))))))) (.seq (.ops [ oq 2 (.mv (.v (.int .i64 0)))]) .ret))
def c155_32:ACode := .seq (.ops [ oq 2 (.mv (.v (.int .i64 0)))]) (.seq (.ops [ oq 3 (.mv (.v (.int .i64 0)))]) (.seq (.block 0 (.loop c155_7)) c155_29))
@[go_sem] def c155_7_wp:=wp_of c155_7.eq_1
@[go_sem] def c155_29_wp:=wp_of c155_29.eq_1
@[go_sem] def c155_32_wp:=wp_of c155_32.eq_1
def c155:AFn:=⟨71,[.t 2],c155_32⟩
theorem c155_ok:compF Tryz.prog Tryz.f155=some c155:=by kernel_rfl
theorem a155 {args:List AV} {σ:ASt} {R:AV->ASt->Prop} (hl:args.length<=71) (h:c155_32.wp Tryz.prog (RetQ [.t 2] R) (init args) σ):ACalls Tryz.prog 155 args σ R:=acalls_of Tryz.func155 c155_ok hl h
/-! 156: (*tabular/token.lexer).quoted -/
def c156_43:ACode := .seq (.seq (.ops [ oq 54 (.mv (.t 7)),oq 55 (.bin .neq (.t 54) (.v (.int .i32 34)))]) (.cond (.t 55) (.seq (.ops [ oq 56 (.mv (.t 7)),oe 57 (.call 195 [(.t 3),(.t 56)])]) (.seq (.ops [ oq 58 (.mv (.t 6)),oq 59 (.bin .add (.t 58) (.v (.int .i64 1))),oq 60 (.mv (.t 7)),oe 61 (.call 196 [(.t 60)]),oq 62 (.bin .add (.t 59) (.t 61)),oq 5 (.mv (.t 62))]) (.exit 1))) .skip)) (.seq (.seq (.ops [ oq 63 (.mv (.t 8)),oq 64 (.bin .add (.t 63) (.v (.int .i64 1))),oq 65 (.mv (.t 0)),oq 66 (.nc (.t 65)),oq 67 (.fa 0 (.t 66)),oq 68 (.ld none (.t 67)),oq 69 (.lenS (.t 68)),oq 70 (.bin .lss (.t 64) (.t 69)),oq 71 (.mv (.t 70)),⟨some 72,some (71,true),.q (.mv (.t 0)),[]⟩,⟨some 73,some (71,true),.q (.nc (.t 72)),[]⟩,⟨some 74,some (71,true),.q (.fa 0 (.t 73)),[]⟩,⟨some 75,some (71,true),.q (.ld none (.t 74)),[]⟩,⟨some 76,some (71,true),.q (.mv (.t 8)),[]⟩,⟨some 77,some (71,true),.q (.bin .add (.t 76) (.v (.int .i64 1))),[]⟩,⟨some 78,some (71,true),.q (.idx (.t 75) (.t 77)),[]⟩,⟨some 79,some (71,true),.q (.bin .eql (.t 78) (.v (.int .u8 34))),[]⟩,oq 80 (.pick (.t 71) (.t 79) (.v (.bool false)))]) (.cond (.t 80) (.seq (.ops [ oe 81 (.call 127 [(.t 3),(.v (.int .u8 34))])]) (.seq (.ops [ oq 82 (.mv (.t 6)),oq 83 (.bin .add (.t 82) (.v (.int .i64 3))),oq 5 (.mv (.t 83))]) (.exit 1))) .skip)) (.seq (.ops [ oq 84 (.mv (.t 6)),oq 85 (.bin .add (.t 84) (.v (.int .i64 2))),oq 5 (.mv (.t 85))]) (.seq (.ops [ oq 4 (.mv (.v (.bool false)))]) (.exit 0))))
def c156_50:ACode := .seq (.ops [ oe 22 (.nxt (.t 21)),oq 23 (.ext 0 (.t 22))]) (.seq (.cond (.t 23) .skip (.exit 0)) (.block 1 (.seq (.ops [ oq 24 (.ext 1 (.t 22)),oq 25 (.ext 2 (.t 22)),oq 6 (.mv (.t 24)),oq 7 (.mv (.t 25))]) (.seq (.seq (.ops [ oq 26 (.mv (.t 6)),oq 27 (.bin .add (.t 26) (.v (.int .i64 1))),oq 28 (.mv (.t 5)),oq 29 (.bin .lss (.t 27) (.t 28))]) (.cond (.t 29) (.exit 1) .skip)) (.seq (.ops [ oq 30 (.mv (.t 0)),oq 31 (.nc (.t 30)),oq 32 (.fa 1 (.t 31)),oq 33 (.ld none (.t 32)),oq 34 (.bin .add (.t 33) (.v (.int .i64 1))),oq 35 (.mv (.t 6)),oq 36 (.bin .add (.t 34) (.t 35)),oq 8 (.mv (.t 36))]) (.seq (.seq (.ops [ oq 37 (.mv (.t 7)),oq 38 (.bin .eql (.t 37) (.v (.int .i32 65533)))]) (.cond (.t 38) (.seq (.ops [ oq 40 (.mv (.t 0)),oq 41 (.nc (.t 40)),oq 42 (.fa 0 (.t 41)),oq 43 (.ld none (.t 42)),oq 44 (.mv (.t 8)),oq 45 (.slfrom (true,0) (.t 43) (.t 44)),oe 46 (.call 119 [(.t 45)]),oq 39 (.mv (.t 46)),oq 47 (.ext 0 (.t 39)),oq 48 (.ext 1 (.t 39)),oq 9 (.mv (.t 47)),oq 10 (.mv (.t 48))]) (.seq (.ops [ oq 49 (.mv (.t 10)),oq 50 (.bin .eql (.t 49) (.v (.int .i64 1)))]) (.cond (.t 50) (.seq (.ops [ oq 51 (.mv (.t 0)),oq 52 (.mv (.t 8)),oe 53 (.call 153 [(.t 51),(.t 52)])]) (.seq (.ops [ oq 2 (.mv (.v (.int .i64 10)))]) .ret)) .skip))) .skip)) c156_43))))))
def c156_63:ACode := .seq (.seq (.ops [ oq 86 (.mv (.t 4))]) (.cond (.t 86) (.seq (.ops [ oq 2 (.mv (.v (.int .i64 10)))]) .ret) .skip)) (.seq (.ops [ oq 87 (.mv (.t 0)),oe 88 (.call 76 [(.t 3)]),oq 89 (.mv (.t 5)),oe 90 (.call 108 [(.t 87),(.v (.int .i64 2)),(.t 88),(.t 89)])]) (.seq (.ops [ oq 2 (.mv (.v (.int .i64 0)))]) .ret))
def c156_68:ACode := .seq (.ops [ oq 2 (.mv (.v (.int .i64 0)))]) (.seq (.ops [ oe 3 (.allocT 149)]) (.seq (.ops [ oq 4 (.mv (.v (.bool true)))]) (.seq (.ops [ oq 5 (.mv (.v (.int .i64 1)))]) (.seq (.seq (.ops [ oq 11 (.mv (.t 0)),oq 12 (.nc (.t 11)),oq 13 (.fa 0 (.t 12)),oq 14 (.ld none (.t 13)),oq 15 (.mv (.t 0)),oq 16 (.nc (.t 15)),oq 17 (.fa 1 (.t 16)),oq 18 (.ld none (.t 17)),oq 19 (.bin .add (.t 18) (.v (.int .i64 1))),oq 20 (.slfrom (true,0) (.t 14) (.t 19)),oe 21 (.rng (.t 20))]) (.block 0 (.loop c156_50))) c156_63))))
@[go_sem] def c156_43_wp:=wp_of c156_43.eq_1
@[go_sem] def c156_50_wp:=wp_of c156_50.eq_1
@[go_sem] def c156_63_wp:=wp_of c156_63.eq_1
@[go_sem] def c156_68_wp:=wp_of c156_68.eq_1
def c156:AFn:=⟨91,[.t 2],c156_68⟩
theorem c156_ok:compF Tryz.prog Tryz.f156=some c156:=by kernel_rfl
theorem a156 {args:List AV} {σ:ASt} {R:AV->ASt->Prop} (hl:args.length<=91) (h:c156_68.wp Tryz.prog (RetQ [.t 2] R) (init args) σ):ACalls Tryz.prog 156 args σ R:=acalls_of Tryz.func156 c156_ok hl h
/-! 157: (*tabular/token.lexer).failure -/
def c157_19:ACode := .seq (.ops [ oq 9 (.bin .lss (.t 8) (.t 7))]) (.seq (.cond (.t 9) .skip (.exit 0)) (.seq (.block 1 (.seq (.ops [ oq 10 (.ia 1 (.t 6) (.t 8)),oq 11 (.ld none (.t 10)),oq 4 (.mv (.t 11))]) (.seq (.ops [ oq 12 (.mv (.t 4)),oq 13 (.lenS (.t 12)),oq 5 (.mv (.t 13))]) (.seq (.ops [ oq 14 (.mv (.t 0)),oq 15 (.nc (.t 14)),oq 16 (.fa 1 (.t 15)),oq 17 (.ld none (.t 16)),oq 18 (.mv (.t 5)),oq 19 (.bin .add (.t 17) (.t 18)),oq 20 (.mv (.t 0)),oq 21 (.nc (.t 20)),oq 22 (.fa 0 (.t 21)),oq 23 (.ld none (.t 22)),oq 24 (.lenS (.t 23)),oq 25 (.bin .leq (.t 19) (.t 24)),oq 26 (.mv (.t 25)),⟨some 27,some (26,true),.q (.mv (.t 0)),[]⟩,⟨some 28,some (26,true),.q (.nc (.t 27)),[]⟩,⟨some 29,some (26,true),.q (.fa 0 (.t 28)),[]⟩,⟨some 30,some (26,true),.q (.ld none (.t 29)),[]⟩,⟨some 31,some (26,true),.q (.mv (.t 0)),[]⟩,⟨some 32,some (26,true),.q (.nc (.t 31)),[]⟩,⟨some 33,some (26,true),.q (.fa 1 (.t 32)),[]⟩,⟨some 34,some (26,true),.q (.ld none (.t 33)),[]⟩,⟨some 35,some (26,true),.q (.mv (.t 0)),[]⟩,⟨some 36,some (26,true),.q (.nc (.t 35)),[]⟩,⟨some 37,some (26,true),.q (.fa 1 (.t 36)),[]⟩,⟨some 38,some (26,true),.q (.ld none (.t 37)),[]⟩,⟨some 39,some (26,true),.q (.mv (.t 5)),[]⟩,⟨some 40,some (26,true),.q (.bin .add (.t 38) (.t 39)),[]⟩,⟨some 41,some (26,true),.q (.sls (true,0) (.t 30) (.t 34) (.t 40)),[]⟩,⟨some 43,some (26,true),.q (.mv (.t 4)),[]⟩,⟨some 42,some (26,true),.e (.call 193 [(.t 41)]),[]⟩,⟨some 44,some (26,true),.q (.bin .eql (.t 42) (.t 43)),[]⟩,oq 45 (.pick (.t 26) (.t 44) (.v (.bool false)))]) (.cond (.t 45) (.seq (.ops [ oq 46 (.mv (.t 0)),oq 47 (.mv (.t 4)),oq 48 (.mv (.t 5)),oe 49 (.call 108 [(.t 46),(.v (.int .i64 5)),(.t 47),(.t 48)])]) (.seq (.ops [ oq 2 (.mv (.v (.int .i64 0)))]) .ret)) .skip))))) (.ops [ oq 50 (.bin .add (.t 8) (.v (.int .i64 1))),oq 8 (.mv (.t 50))])))
def c157_26:ACode := .seq (.ops [ oq 2 (.mv (.v (.int .i64 0)))]) (.seq (.seq (.ops [ oe 6 (.call 70 []),oq 7 (.len (.t 6)),oq 8 (.mv (.v (.int .i64 0)))]) (.block 0 (.loop c157_19))) (.seq (.ops [ oq 2 (.mv (.v (.int .i64 10)))]) .ret))
@[go_sem] def c157_19_wp:=wp_of c157_19.eq_1
@[go_sem] def c157_26_wp:=wp_of c157_26.eq_1
def c157:AFn:=⟨51,[.t 2],c157_26⟩
theorem c157_ok:compF Tryz.prog Tryz.f157=some c157:=by kernel_rfl
theorem a157 {args:List AV} {σ:ASt} {R:AV->ASt->Prop} (hl:args.length<=51) (h:c157_26.wp Tryz.prog (RetQ [.t 2] R) (init args) σ):ACalls Tryz.prog 157 args σ R:=acalls_of Tryz.func157 c157_ok hl h
/-! 158: (*tabular/token.lexer).op -/
def c158_26:ACode := .seq (.ops [ oq 21 (.bin .lss (.t 20) (.t 19))]) (.seq (.cond (.t 21) .skip (.exit 0)) (.seq (.block 1 (.seq (.ops [ oq 22 (.ia 1 (.t 18) (.t 20)),oq 23 (.ld none (.t 22)),oq 9 (.mv (.t 23))]) (.seq (.ops [ oq 24 (.mv (.t 0)),oq 25 (.nc (.t 24)),oq 26 (.fa 0 (.t 25)),oq 27 (.ld none (.t 26)),oq 28 (.mv (.t 0)),oq 29 (.nc (.t 28)),oq 30 (.fa 1 (.t 29)),oq 31 (.ld none (.t 30)),oq 32 (.slfrom (true,0) (.t 27) (.t 31)),oq 33 (.mv (.t 9)),oe 34 (.call 198 [(.t 32),(.t 33)])]) (.cond (.t 34) (.seq (.ops [ oq 35 (.mv (.t 0)),oq 36 (.mv (.t 9)),oe 37 (.call 108 [(.t 35),(.v (.int .i64 6)),(.t 36),(.v (.int .i64 2))])]) (.seq (.ops [ oq 6 (.mv (.v (.int .i64 0)))]) .ret)) .skip)))) (.ops [ oq 38 (.bin .add (.t 20) (.v (.int .i64 1))),oq 20 (.mv (.t 38))])))
def c158_39:ACode := .seq (.seq (.ops [ oq 39 (.mv (.t 0)),oq 40 (.nc (.t 39)),oq 41 (.fa 0 (.t 40)),oq 42 (.ld none (.t 41)),oq 43 (.mv (.t 0)),oq 44 (.nc (.t 43)),oq 45 (.fa 1 (.t 44)),oq 46 (.ld none (.t 45)),oq 47 (.idx (.t 42) (.t 46)),oq 48 (.bsl 1 [(.t 47)]),oq 49 (.b2s (.t 48)),oe 50 (.call 199 [(.v (.str [43,45,42,47,94,38,61,60,62,37,40,41,58,44])),(.t 49)]),oq 51 (.un .not (.t 50))]) (.cond (.t 51) (.seq (.ops [ oq 6 (.mv (.v (.int .i64 10)))]) .ret) .skip)) (.seq (.ops [ oq 52 (.mv (.t 0)),oq 53 (.mv (.t 0)),oq 54 (.nc (.t 53)),oq 55 (.fa 0 (.t 54)),oq 56 (.ld none (.t 55)),oq 57 (.mv (.t 0)),oq 58 (.nc (.t 57)),oq 59 (.fa 1 (.t 58)),oq 60 (.ld none (.t 59)),oq 61 (.mv (.t 0)),oq 62 (.nc (.t 61)),oq 63 (.fa 1 (.t 62)),oq 64 (.ld none (.t 63)),oq 65 (.bin .add (.t 64) (.v (.int .i64 1))),oq 66 (.sls (true,0) (.t 56) (.t 60) (.t 65)),oe 67 (.call 108 [(.t 52),(.v (.int .i64 6)),(.t 66),(.v (.int .i64 1))])]) (.seq (.ops [ oq 6 (.mv (.v (.int .i64 0)))]) .ret))
def c158_42:ACode := .seq (.ops [ oq 6 (.mv (.v (.int .i64 0)))]) (.seq (.seq (.ops [ oq 10 (.mv (.t 1)),oe 11 (.call 197 [(.t 10)]),oq 7 (.mv (.t 11))]) (.seq (.ops [ oq 12 (.mv (.t 7)),oq 13 (.bin .neq (.t 12) (.v (.str [])))]) (.cond (.t 13) (.seq (.ops [ oq 14 (.mv (.t 0)),oq 15 (.mv (.t 7)),oq 16 (.mv (.t 2)),oe 17 (.call 108 [(.t 14),(.v (.int .i64 6)),(.t 15),(.t 16)])]) (.seq (.ops [ oq 6 (.mv (.v (.int .i64 0)))]) .ret)) .skip))) (.seq (.seq (.ops [ oq 18 (.bsl 1 [(.v (.str [60,61])),(.v (.str [62,61])),(.v (.str [60,62]))]),oq 19 (.len (.t 18)),oq 20 (.mv (.v (.int .i64 0)))]) (.block 0 (.loop c158_26))) c158_39))
@[go_sem] def c158_26_wp:=wp_of c158_26.eq_1
@[go_sem] def c158_39_wp:=wp_of c158_39.eq_1
@[go_sem] def c158_42_wp:=wp_of c158_42.eq_1
def c158:AFn:=⟨68,[.t 6],c158_42⟩
theorem c158_ok:compF Tryz.prog Tryz.f158=some c158:=by kernel_rfl
theorem a158 {args:List AV} {σ:ASt} {R:AV->ASt->Prop} (hl:args.length<=68) (h:c158_42.wp Tryz.prog (RetQ [.t 6] R) (init args) σ):ACalls Tryz.prog 158 args σ R:=acalls_of Tryz.func158 c158_ok hl h
end Go.A
namespace Go.A
open Go.Proofs Go.Lib
def lexCells (s:List UInt8) (p c:Nat) (ts:List Tok) (k:SK):List AV := [.str s,.int .i64 p,.int .i64 c,.sl k (ts.map tokAV)]
def LX (σ0:ASt) (b:Nat) (s:List UInt8) (p c:Nat) (ts:List Tok) (σ:ASt):Prop:=GO σ0 b (lexCells s p c ts) (ts.map tokAV).length 4 σ
theorem LX.cell {σ0 σ:ASt} {b:Nat} {s:List UInt8} {p c:Nat} {ts:List Tok} (h:LX σ0 b s p c ts σ):∃ k,Grown (σ0.set b (some (.obj [.str s,.int .i64 p,.int .i64 c,.sl k (ts.map tokAV)]))) σ k (ts.map tokAV).length 4/\σ b=some (.obj [.str s,.int .i64 p,.int .i64 c,.sl k (ts.map tokAV)]):=by
 obtain ⟨k,hg⟩:=h
 exact ⟨k,hg,GO.cell (cs:=lexCells s p c ts) hg⟩
structure Bnd (s:List UInt8) (p c:Nat) (ts:List Tok):Prop where
 hs:s.length<=100000
 hp:p<=s.length
 hc:c<=p
 ht:ts.length<=200000
theorem take_len {s:List UInt8} {p n:Nat} (h:p+n<=s.length):((s.drop p).take n).length=n:=by simp;omega
theorem cut_eq {s:List UInt8} {p n:Nat}:(s.take (p+n)).drop p=(s.drop p).take n:=by rw [List.drop_take];congr 1;omega
set_option maxHeartbeats 1000000 in
theorem put_ok {σ0 σ:ASt} {b:Nat} {s:List UInt8} {p c:Nat} {ts:List Tok} (h:LX σ0 b s p c ts σ) (hB:Bnd s p c ts) (kind:Int) (text:List UInt8) (n:Nat) (hn:p+n<=s.length) :
  ACalls Tryz.prog 108 [.ptr b 0,.int .i64 kind,.str text,.int .i64 n] σ fun v σ'=>v = .tuple []/\LX σ0 b s (p+n) (c+signsN ((s.drop p).take n)) (ts ++ [Tok.mk kind text p c]) σ':=by
 obtain ⟨k,hg,hb⟩:=h.cell
 obtain ⟨hs,hp,hc,ht⟩:=hB
 have hm:ts.map tokAV ++ [tokAV (Tok.mk kind text p c)]=(ts ++ [Tok.mk kind text p c]).map tokAV:=by simp
 have hlen:(ts.map tokAV).length=ts.length:=by simp
 have e1:((p:Int)+n).toNat=p+n:=by omega
 have e2:=cut_eq (s:=s) (p:=p) (n:=n)
 have hsl:=signsN_le ((s.drop p).take n)
 rw [take_len hn] at hsl
 refine a108 (by simp) ?_
 simp (disch:=first|assumption|omega) only [go_sem,hb]
 refine appC_by (ys := [tokAV (Tok.mk kind text p c)]) hg rfl rfl (by simp only [hlen,List.length_cons,List.length_nil];omega) (by simp only [hlen,List.length_cons,List.length_nil];omega) fun k' σ' hg'=>?_
 rw [hm] at hg' ⊢
 have hb':=hg'.at (ASt.set_same _ _ _)
 have hg2:=hg'.obj (r' := .obj [.str s,.int .i64 p,.int .i64 c,.sl k' ((ts ++ [Tok.mk kind text p c]).map tokAV)])
 simp (disch:=first|assumption|omega) only [go_sem,hb',e1,e2]
 refine (count_ok _ (by rw [take_len hn];omega)).use ?_
 simp (disch:=first|assumption|omega) only [go_sem,ASt.set_set]
 refine retC_by (Drop.refl _) (.refl _) ⟨rfl,k',?_⟩
 exact hg'.obj (r' := .obj [.str s,.int .i64 (p+n:Nat),.int .i64 (c+signsN ((s.drop p).take n):Nat),.sl k' ((ts ++ [Tok.mk kind text p c]).map tokAV)])
theorem pass_ok {σ0 σ:ASt} {b:Nat} {s:List UInt8} {p c:Nat} {ts:List Tok} (h:LX σ0 b s p c ts σ) (hB:Bnd s p c ts) (n:Nat) (hn:p+n<=s.length) :
  ACalls Tryz.prog 153 [.ptr b 0,.int .i64 (p+n:Nat)] σ fun v σ'=>v = .tuple []/\LX σ0 b s (p+n) (c+signsN ((s.drop p).take n)) ts σ':=by
 obtain ⟨k,hg,hb⟩:=h.cell
 obtain ⟨hs,hp,hc,ht⟩:=hB
 have e1:(((p+n:Nat):Int)).toNat=p+n:=by omega
 have e2:=cut_eq (s:=s) (p:=p) (n:=n)
 have hsl:=signsN_le ((s.drop p).take n)
 rw [take_len hn] at hsl
 have e3:((p+n:Nat):Int)<=s.length:=by omega
 have e4:(p:Int)<=((p+n:Nat):Int):=by omega
 obtain ⟨q,hq⟩:∃ q,p+n=q:=⟨_,rfl⟩
 rw [hq] at e1 e2 e3 e4 ⊢
 refine a153 (by simp) ?_
 simp (disch:=first|assumption|omega) only [go_sem,hb,e1,e2]
 refine (count_ok _ (by rw [take_len hn];omega)).use ?_
 simp (disch:=first|assumption|omega) only [go_sem,hb,ASt.set_set]
 refine retC_by (Drop.refl _) (.refl _) ⟨rfl,k,?_⟩
 exact hg.obj (r' := .obj [.str s,.int .i64 q,.int .i64 (c+signsN ((s.drop p).take n):Nat),.sl k (ts.map tokAV)])
theorem dec_bd (l:List UInt8):(decodeL l).1<=1114111/\1<=(decodeL l).2:=⟨decodeL_rune l,decodeL_width l⟩
theorem sign_ok {σ0 σ:ASt} (hU:U8 σ) {b:Nat} {s:List UInt8} {p c:Nat} {ts:List Tok} (h:LX σ0 b s p c ts σ) (hB:Bnd s p c ts) (hp:p<s.length) :
  ACalls Tryz.prog 152 [.ptr b 0] σ fun v σ'=>v = .tuple [.int .i32 (if decodeL (s.drop p)=(65533,1) then 0 else (decodeL (s.drop p)).1),.int .i64 (if decodeL (s.drop p)=(65533,1) then -1 else (decodeL (s.drop p)).2)]/\σ'=σ:=by
 obtain ⟨k,hg,hb⟩:=h.cell
 obtain ⟨hs,_,hc,ht⟩:=hB
 have hne:s.drop p ≠ []:=by
  intro h
  have:=congrArg List.length h
  simp at this
  omega
 have hd:=dec_ok hU hne
 obtain ⟨⟨r,w⟩,hD⟩:∃ D,decodeL (s.drop p)=D:=⟨_,rfl⟩
 rw [hD] at hd ⊢
 dsimp only at hd ⊢
 have e1:¬ (s.length:Int)<=p:=by omega
 refine a152 (by simp) ?_
 simp (disch:=first|assumption|omega) only [go_sem,hb,e1,List.take_length]
 refine hd.mono ?_
 rintro v σ' ⟨rfl,rfl⟩
 by_cases h1:(r:Int)=65533
 ·by_cases h2:(w:Int)=1
  ·have e:(r,w)=(65533,1):=by rw [Prod.mk.injEq];omega
   rw [if_pos e,if_pos e]
   simp (disch:=first|assumption|omega) only [go_sem,h1,h2]
   exact retC_by (Drop.refl _) (.refl _) ⟨rfl,rfl⟩
  ·have e:¬ (r,w)=(65533,1):=by rw [Prod.mk.injEq];omega
   rw [if_neg e,if_neg e]
   simp (disch:=first|assumption|omega) only [go_sem,h1,h2]
   exact retC_by (Drop.refl _) (.refl _) ⟨rfl,rfl⟩
 ·have e:¬ (r,w)=(65533,1):=by rw [Prod.mk.injEq];omega
  rw [if_neg e,if_neg e]
  simp (disch:=first|assumption|omega) only [go_sem,h1]
  exact retC_by (Drop.refl _) (.refl _) ⟨rfl,rfl⟩
def After (σ0:ASt) (b:Nat) (s:List UInt8) (p c:Nat) (ts:List Tok):Step->AV->ASt->Prop
 | .bad k,v,σ'=>v = .int .i64 10/\∃ c',LX σ0 b s (p+k) c' ts σ'
 | .blank,v,σ'=>v = .int .i64 0/\LX σ0 b s (p+1) (c+1) ts σ'
 | .tok kind t n,v,σ'=>v = .int .i64 0/\LX σ0 b s (p+n) (c+signsN ((s.drop p).take n)) (ts ++ [⟨kind,t,p,c⟩]) σ'
set_option maxHeartbeats 1000000 in
theorem words_ok {σ0 σ:ASt} {b:Nat} {s:List UInt8} {p c:Nat} {ts:List Tok} (h:LX σ0 b s p c ts σ) (hB:Bnd s p c ts) :
  ACalls Tryz.prog 155 [.ptr b 0] σ fun v σ'=>After σ0 b s p c ts (wordsS (s.drop p)) v σ':=by
 obtain ⟨k,hg,hb⟩:=h.cell
 have hB':=hB
 obtain ⟨hs,hp,hc,ht⟩:=hB
 have hrl:=runL_le wordB (s.drop p)
 obtain ⟨st,hst⟩:∃ st,wordsS (s.drop p)=st:=⟨_,rfl⟩
 rw [hst]
 unfold wordsS at hst
 dsimp only at hst
 obtain ⟨n,hn⟩:∃ n,runL wordB (s.drop p)=n:=⟨_,rfl⟩
 rw [hn] at hst hrl
 rw [List.length_drop] at hrl
 have hwl:((s.drop p).take n).length=n:=take_len (by omega)
 obtain ⟨w,hw⟩:∃ w,(s.drop p).take n=w:=⟨_,rfl⟩
 rw [hw] at hst hwl
 have i1:=isNum_ok w (by omega)
 have i2:=isRef_ok w (by omega)
 have i3:=isName_ok w (by omega)
 have i4:=tgreat_ok w (by omega)
 have P1:=fun kind text=>put_ok h hB' kind text n (by omega)
 refine a155 (by simp) ?_
 obtain ⟨F,hF⟩:∃ F,F=ACode.wp Tryz.prog c155_29:=⟨_,rfl⟩
 simp (disch:=first|assumption|omega) only [go_sem,←hF]
 refine wp_loop_on (fun (i:Nat) a σ'=>i<=n/\i+runL wordB (s.drop (p+i))=n/\(a 0 = .ptr b 0/\a 3 = .int .i64 i)/\σ'=σ) (fun i=>n-i) 0 ⟨Nat.zero_le _,by rw [Nat.add_zero,Nat.zero_add];exact hn,?_,rfl⟩ ?_
 ·simp (disch:=first|assumption|omega) only [go_sem]
 rintro i a σ1 ⟨hi,hrun,hf,rfl⟩
 have fin:i=n->∀ a:AFr,(a 0 = .ptr b 0/\a 3 = .int .i64 i)->F (RetQ [.t 2] fun v σ'=>After σ0 b s p c ts st v σ') a σ1:=by
  rintro rfl a hf
  have e1:((p:Int)+i).toNat=p+i:=by omega
  have e2:(s.take (p+i)).drop p=w:=by rw [cut_eq,hw]
  rw [hF]
  simp (disch:=first|assumption|omega) only [go_sem,hf,hb,e1,e2]
  refine i1.use ?_
  cases hnum:numB w with
  | true=>
    rw [hnum,if_pos rfl] at hst
    subst hst
    simp (disch:=first|assumption|omega) only [go_sem,hf]
    refine (P1 1 w).mono ?_
    rintro v σ' ⟨rfl,hL⟩
    simp (disch:=first|assumption|omega) only [go_sem]
    exact retC_by (Drop.refl _) (.refl _) ⟨rfl,hL⟩
  | false=>
  rw [hnum,if_neg (by simp)] at hst
  simp (disch:=first|assumption|omega) only [go_sem]
  refine i2.use ?_
  cases href:refB w with
  | true=>
    rw [href,if_pos rfl] at hst
    subst hst
    simp (disch:=first|assumption|omega) only [go_sem,hf]
    refine i4.use ?_
    simp (disch:=first|assumption|omega) only [go_sem,hf]
    refine (P1 4 (greatP w)).mono ?_
    rintro v σ' ⟨rfl,hL⟩
    simp (disch:=first|assumption|omega) only [go_sem]
    exact retC_by (Drop.refl _) (.refl _) ⟨rfl,hL⟩
  | false=>
  rw [href,if_neg (by simp)] at hst
  simp (disch:=first|assumption|omega) only [go_sem]
  refine i3.use ?_
  cases hnam:nameB w with
  | true=>
    rw [hnam,if_pos rfl] at hst
    subst hst
    simp (disch:=first|assumption|omega) only [go_sem,hf]
    refine i4.use ?_
    simp (disch:=first|assumption|omega) only [go_sem,hf]
    refine (P1 3 (greatP w)).mono ?_
    rintro v σ' ⟨rfl,hL⟩
    simp (disch:=first|assumption|omega) only [go_sem]
    exact retC_by (Drop.refl _) (.refl _) ⟨rfl,hL⟩
  | false=>
    rw [hnam,if_neg (by simp)] at hst
    subst hst
    simp (disch:=first|assumption|omega) only [go_sem]
    exact retC_by (Drop.refl _) (.refl _) ⟨rfl,c,h⟩
 by_cases hlt:p+i<s.length
 ·have hidx : s[p + i]? = some (s[p + i]'hlt) := List.getElem?_eq_getElem hlt
  obtain ⟨d, hd⟩ : ∃ d, s[p + i]'hlt = d := ⟨_, rfl⟩
  rw [hd] at hidx
  have e3:((p:Int)+i)<s.length:=by omega
  have e4:((p:Int)+i).toNat=p+i:=by omega
  rw [List.drop_eq_getElem_cons hlt,hd,runL] at hrun
  simp (disch:=first|assumption|omega) only [go_sem,hf,hb,e3,e4,hidx]
  refine (word_ok d).use ?_
  cases hwd:wordB d with
  | true=>
    rw [hwd,if_pos rfl] at hrun
    simp (disch:=first|assumption|omega) only [go_sem,hf]
    exact ⟨i+1,by omega,by omega,by rw [<-Nat.add_assoc];omega,rfl⟩
  | false=>
    rw [hwd,if_neg (by simp)] at hrun
    simp (disch:=first|assumption|omega) only [go_sem]
    refine fin (by omega) _ ?_
    simp (disch:=first|assumption|omega) only [go_sem,hf]
 ·have e:s.drop (p+i) = []:=List.drop_eq_nil_of_le (by omega)
  rw [e,runL] at hrun
  have e3:¬ ((p:Int)+i)<s.length:=by omega
  simp (disch:=first|assumption|omega) only [go_sem,hf,hb,e3]
  refine fin (by omega) _ ?_
  simp (disch:=first|assumption|omega) only [go_sem,hf]
end Go.A
namespace Go.A
open Go.Proofs Go.Lib
theorem errTexts_len:∀ e∈errTexts,1<=e.length/\e.length<=7:=by decide
set_option maxHeartbeats 1000000 in
theorem lfail_ok {σ0 σ:ASt} {b:Nat} {s:List UInt8} {p c:Nat} {ts:List Tok} (h:LX σ0 b s p c ts σ) (hB:Bnd s p c ts) :
  ACalls Tryz.prog 157 [.ptr b 0] σ fun v σ'=>After σ0 b s p c ts (failS (s.drop p) errTexts) v σ':=by
 obtain ⟨k,hg,hb⟩:=h.cell
 have hB':=hB
 obtain ⟨hs,hp,hc,ht⟩:=hB
 obtain ⟨st,hst⟩:∃ st,failS (s.drop p) errTexts=st:=⟨_,rfl⟩
 rw [hst]
 have hE:=errTexts_len
 have herr:=errs_ok
 obtain ⟨E,hE2⟩:∃ E,errTexts=E:=⟨_,rfl⟩
 have hEl:E.length=7:=by rw [<-hE2];rfl
 rw [hE2] at hst hE herr
 clear hE2
 refine a157 (by simp) ?_
 simp (disch:=first|assumption|omega) only [go_sem]
 refine herr.use ?_
 simp (disch:=first|assumption|omega) only [go_sem,hEl]
 refine wp_loop_on (fun (i:Nat) a σ'=>i<=7/\failS (s.drop p) (E.drop i)=st/\(a 0 = .ptr b 0/\a 6 = .sl .full (E.map AV.str)/\a 7 = .int .i64 7/\a 8 = .int .i64 i)/\σ'=σ) (fun i=>7-i) 0 ⟨Nat.zero_le _,hst,?_,rfl⟩ ?_
 ·simp (disch:=first|assumption|omega) only [go_sem]
 rintro i a σ1 ⟨hi,hst,hf,rfl⟩
 by_cases hlt:i<7
 ·have hlt':(i:Int)<7:=by omega
  have hidx0 : E[i]? = some (E[i]'(by omega)) := List.getElem?_eq_getElem (by omega)
  obtain ⟨h1,h2⟩:=hE _ (List.getElem_mem (by omega:i<E.length))
  rw [List.drop_eq_getElem_cons (by omega:i<E.length),failS] at hst
  obtain ⟨e, he⟩ : ∃ e, E[i]'(by omega) = e := ⟨_, rfl⟩
  rw [he] at hidx0 hst h1 h2
  have hidx:(E.map AV.str)[i]? = some (.str e):=by rw [List.getElem?_map,hidx0];rfl
  rw [List.length_drop] at hst
  by_cases hfit:p+e.length<=s.length
  ·have e1:(p:Int)+e.length<=s.length:=by omega
   have e2:((p:Int)+e.length).toNat=p+e.length:=by omega
   have e3:=cut_eq (s:=s) (p:=p) (n:=e.length)
   have hgr:=tgreat_ok ((s.drop p).take e.length) (by rw [take_len hfit];omega)
   simp (disch:=first|assumption|omega) only [go_sem,hf,hb,hlt',hidx,e1,e2,e3]
   refine hgr.use ?_
   by_cases heq:greatP ((s.drop p).take e.length)=e
   ·rw [if_pos ⟨by omega,heq⟩] at hst
    subst hst
    simp (disch:=first|assumption|omega) only [go_sem,hf,heq]
    refine (put_ok h hB' 5 e e.length hfit).mono ?_
    rintro v σ' ⟨rfl,hL⟩
    simp (disch:=first|assumption|omega) only [go_sem]
    exact retC_by (Drop.refl _) (.refl _) ⟨rfl,hL⟩
   ·rw [if_neg (by rintro ⟨_,h⟩;exact heq h)] at hst
    simp (disch:=first|assumption|omega) only [go_sem,hf,heq]
    refine ⟨i+1,by omega,by omega,hst,rfl⟩
  ·have e1:¬ (p:Int)+e.length<=s.length:=by omega
   rw [if_neg (by rintro ⟨h,_⟩;omega)] at hst
   simp (disch:=first|assumption|omega) only [go_sem,hf,hb,hlt',hidx,e1]
   refine ⟨i+1,by omega,by omega,hst,rfl⟩
 ·have hlt':¬ (i:Int)<7:=by omega
  rw [List.drop_eq_nil_of_le (show E.length<=i by omega),failS] at hst
  subst hst
  simp (disch:=first|assumption|omega) only [go_sem,hf,hlt']
  exact retC_by (Drop.refl _) (.refl _) ⟨rfl,c,h⟩
theorem mem_index (c:UInt8):∀ l:List UInt8,(-1<=indexByte l c)/\(0<=indexByte l c↔c∈l)
 | []=>by simp [indexByte]
 | x::l=>by
   obtain ⟨h1,h2⟩:=mem_index c l
   unfold indexByte
   by_cases hx:x=c
   ·subst hx;simp
   ·have hx':¬ (x==c)=true:=by simpa using hx
    rw [if_neg hx']
    by_cases hm:indexByte l c = -1
    ·rw [if_pos (by simpa using hm)]
     refine ⟨by omega,?_⟩
     simp only [List.mem_cons,← h2,hm]
     constructor
     ·intro h;omega
     ·rintro (h|h)
      ·exact absurd h.symm hx
      ·omega
    ·rw [if_neg (by simpa using hm)]
     refine ⟨by omega,?_⟩
     simp only [List.mem_cons,← h2]
     constructor
     ·intro h;right;omega
     ·rintro (h|h)
      ·exact absurd h.symm hx
      ·omega
theorem twos_len:∀ e∈twos,e.length=2:=by decide
set_option maxHeartbeats 1000000 in
theorem op_ok {σ0 σ:ASt} {b:Nat} {s:List UInt8} {p c:Nat} {ts:List Tok} (h:LX σ0 b s p c ts σ) (hB:Bnd s p c ts) (hp1:p<s.length) (r:Int) (n:Nat) (hn:p+n<=s.length) :
  ACalls Tryz.prog 158 [.ptr b 0,.int .i32 r,.int .i64 n] σ fun v σ'=>After σ0 b s p c ts (opS r n (s.drop p)) v σ':=by
 obtain ⟨k,hg,hb⟩:=h.cell
 have hB':=hB
 obtain ⟨hs,hp,hc,ht⟩:=hB
 obtain ⟨st,hst⟩:∃ st,opS r n (s.drop p)=st:=⟨_,rfl⟩
 rw [hst]
 unfold opS at hst
 have hal:=alike_ok r
 obtain ⟨A,hA⟩:∃ A,alikeP r=A:=⟨_,rfl⟩
 rw [hA] at hst hal
 obtain ⟨F,hF⟩:∃ F,F=ACode.wp Tryz.prog c158_39:=⟨_,rfl⟩
 refine a158 (by simp) ?_
 simp (disch:=first|assumption|omega) only [go_sem]
 refine hal.use ?_
 by_cases hA0:A = []
 ·subst hA0
  rw [if_neg (by simp)] at hst
  have hE:=twos_len
  obtain ⟨E,hE2⟩:∃ E,twos=E:=⟨_,rfl⟩
  have hEl:E.length=3:=by rw [<-hE2];rfl
  have hEm:E.map AV.str = [AV.str [60,61],AV.str [62,61],AV.str [60,62]]:=by rw [<-hE2];rfl
  rw [hE2] at hst hE
  simp (disch:=first|assumption|omega) only [go_sem,←hF]
  refine wp_loop_on (fun (i:Nat) a σ'=>i<=3/\(match twoS (s.drop p) (E.drop i) with|some e=>Step.tok 6 e 2|none=>if ((s.drop p).headD 0)∈opChars then .tok 6 ((s.drop p).take 1) 1 else .bad 0)=st/\(a 0 = .ptr b 0/\a 18 = .sl .full (E.map AV.str)/\a 19 = .int .i64 3/\a 20 = .int .i64 i)/\σ'=σ) (fun i=>3-i) 0 ⟨Nat.zero_le _,hst,?_,rfl⟩ ?_
  ·simp (disch:=first|assumption|omega) only [go_sem,hEm]
  rintro i a σ1 ⟨hi,hst,hf,rfl⟩
  by_cases hlt:i<3
  ·have hlt':(i:Int)<3:=by omega
   have hidx0 : E[i]? = some (E[i]'(by omega)) := List.getElem?_eq_getElem (by omega)
   have h2:=hE _ (List.getElem_mem (by omega:i<E.length))
   rw [List.drop_eq_getElem_cons (by omega:i<E.length),twoS] at hst
   obtain ⟨e, he⟩ : ∃ e, E[i]'(by omega) = e := ⟨_, rfl⟩
   rw [he] at hidx0 hst h2
   have hidx:(E.map AV.str)[i]? = some (.str e):=by rw [List.getElem?_map,hidx0];rfl
   have hpr:=prefix_ok (s.drop p) e (by simp;omega) (by omega)
   simp (disch:=first|assumption|omega) only [go_sem,hf,hb,hlt',hidx,List.take_length]
   refine hpr.use ?_
   cases hpe:e.isPrefixOf (s.drop p) with
   | true=>
     rw [hpe,if_pos rfl] at hst
     dsimp only at hst
     subst hst
     have hle:2<=(s.drop p).length:=by
      have:=(List.isPrefixOf_iff_prefix.1 hpe).length_le
      omega
     rw [List.length_drop] at hle
     simp (disch:=first|assumption|omega) only [go_sem,hf]
     refine (put_ok h hB' 6 e 2 (by omega)).mono ?_
     rintro v σ' ⟨rfl,hL⟩
     simp (disch:=first|assumption|omega) only [go_sem]
     exact retC_by (Drop.refl _) (.refl _) ⟨rfl,hL⟩
   | false=>
     rw [hpe,if_neg (by simp)] at hst
     simp (disch:=first|assumption|omega) only [go_sem,hf]
     exact ⟨i+1,by omega,by omega,hst,rfl⟩
  ·have hlt':¬ (i:Int)<3:=by omega
   rw [List.drop_eq_nil_of_le (show E.length<=i by omega),twoS] at hst
   dsimp only at hst
   have hidx : s[p]? = some (s[p]'hp1) := List.getElem?_eq_getElem hp1
   obtain ⟨d, hd⟩ : ∃ d, s[p]'hp1 = d := ⟨_, rfl⟩
   rw [hd] at hidx
   have hdr:s.drop p=d::s.drop (p+1):=by rw [List.drop_eq_getElem_cons hp1,hd]
   rw [hdr] at hst
   have hst:(if d∈opChars then Step.tok 6 [d] 1 else Step.bad 0)=st:=hst
   have hcon:=contains_ok opChars d
   obtain ⟨_,hmi⟩:=mem_index d opChars
   have hbb:UInt8.ofNat d.toNat=d:=by simp
   simp (disch:=first|assumption|omega) only [go_sem,hf,hlt']
   rw [hF]
   simp (disch:=first|assumption|omega) only [go_sem,hf,hb,hidx,hbb]
   refine hcon.use ?_
   by_cases hm:d∈opChars
   ·rw [if_pos hm] at hst
    subst hst
    have e0:=hmi.2 hm
    have e1:((p:Int)+1).toNat=p+1:=by omega
    have e2:(s.take (p+1)).drop p = [d]:=by rw [cut_eq (n:=1),hdr];rfl
    simp (disch:=first|assumption|omega) only [go_sem,hf,hb,e0,e1,e2]
    refine (put_ok h hB' 6 [d] 1 (by omega)).mono ?_
    rintro v σ' ⟨rfl,hL⟩
    simp (disch:=first|assumption|omega) only [go_sem]
    exact retC_by (Drop.refl _) (.refl _) ⟨rfl,hL⟩
   ·rw [if_neg hm] at hst
    subst hst
    have e0:¬ 0<=indexByte opChars d:=fun h=>hm (hmi.1 h)
    simp (disch:=first|assumption|omega) only [go_sem,e0]
    exact retC_by (Drop.refl _) (.refl _) ⟨rfl,c,h⟩
 ·rw [if_pos hA0] at hst
  subst hst
  simp (disch:=first|assumption|omega) only [go_sem,hA0]
  refine (put_ok h hB' 6 A n hn).mono ?_
  rintro v σ' ⟨rfl,hL⟩
  simp (disch:=first|assumption|omega) only [go_sem]
  exact retC_by (Drop.refl _) (.refl _) ⟨rfl,hL⟩
end Go.A
namespace Go.A
open Go.Proofs Go.Lib
theorem dec_len (l:List UInt8) (hv:decodeL l≠(65533,1)):runeLen ((decodeL l).1:Int)=((decodeL l).2:Int):=by
 rw [decodeL_N] at hv ⊢
 have k0:=(l.getD 0 0).toNat_lt
 have k1:=(l.getD 1 0).toNat_lt
 have k2:=(l.getD 2 0).toNat_lt
 have k3:=(l.getD 3 0).toNat_lt
 unfold runeLen
 rcases decodeN_shape l.length (l.getD 0 0).toNat (l.getD 1 0).toNat (l.getD 2 0).toNat (l.getD 3 0).toNat with ⟨c,e⟩|⟨c1,c2,c3,cv,e⟩|⟨c1,c2,c3,c4,cv,cs,e⟩|⟨c1,c2,c3,c4,c5,cv,cw,e⟩|e
 all_goals (rw [e] at hv ⊢;dsimp only at hv ⊢)
 all_goals (try (exact absurd rfl hv))
 all_goals (repeat' split)
 all_goals omega
theorem dec_rune (l:List UInt8):RuneOk ((decodeL l).1:Int):=by
 rw [decodeL_N]
 have k0:=(l.getD 0 0).toNat_lt
 have k1:=(l.getD 1 0).toNat_lt
 have k2:=(l.getD 2 0).toNat_lt
 have k3:=(l.getD 3 0).toNat_lt
 unfold RuneOk
 rcases decodeN_shape l.length (l.getD 0 0).toNat (l.getD 1 0).toNat (l.getD 2 0).toNat (l.getD 3 0).toNat with ⟨c,e⟩|⟨c1,c2,c3,cv,e⟩|⟨c1,c2,c3,c4,cv,cs,e⟩|⟨c1,c2,c3,c4,c5,cv,cw,e⟩|e
 all_goals (rw [e];dsimp only;omega)
theorem dec_ascii {l:List UInt8} (h0:l ≠ []) (h:(decodeL l).1<128):∃ c t,l=c::t/\c.toNat=(decodeL l).1/\(decodeL l).2=1:=by
 cases l with
 | nil=>exact absurd rfl h0
 | cons c t=>
   refine ⟨c,t,rfl,?_⟩
   rw [decodeL_N] at h ⊢
   have k0:=((c::t).getD 0 0).toNat_lt
   have hc:((c::t).getD 0 0)=c:=rfl
   rcases decodeN_shape (c::t).length ((c::t).getD 0 0).toNat ((c::t).getD 1 0).toNat ((c::t).getD 2 0).toNat ((c::t).getD 3 0).toNat with ⟨c,e⟩|⟨c1,c2,c3,cv,e⟩|⟨c1,c2,c3,c4,cv,cs,e⟩|⟨c1,c2,c3,c4,c5,cv,cw,e⟩|e
   ·rw [e];exact ⟨rfl,rfl⟩
   all_goals (rw [e] at h;dsimp only at h;omega)
theorem dec_one (c:UInt8) (t:List UInt8) (h:c.toNat<128):decodeL (c::t)=(c.toNat,1):=by
 rw [decodeL_N]
 unfold decodeN
 rw [if_pos (show ((c::t).getD 0 0).toNat<128 from h)]
 rfl
theorem U8.over {τ σ:ASt} (h:U8 τ) (ho:Over τ σ):U8 σ:=⟨ho.at h.1,ho.at h.2⟩
theorem quotedF_nil:∀ k p acc,quotedF k [] p acc = .bad 0
 | 0,_,_=>rfl
 | _+1,_,_=>by unfold quotedF;rw [if_pos rfl]
theorem enc_le (r:Int):(encodeRune r).length<=4:=enc_len r
set_option maxHeartbeats 2000000 in
theorem quoted_ok {σ0 τ:ASt} (hU:U8 τ) {b:Nat} {s:List UInt8} {p c:Nat} {ts:List Tok} (h:LX σ0 b s p c ts τ) (hB:Bnd s p c ts) (hp1:p<s.length) :
  ACalls Tryz.prog 156 [.ptr b 0] τ fun v σ'=>After σ0 b s p c ts (quotedF (s.drop p).length (s.drop (p+1)) 0 []) v σ':=by
 obtain ⟨k0,hg0,hb⟩:=h.cell
 have hB':=hB
 obtain ⟨hs,hp,hc,ht⟩:=hB
 obtain ⟨st,hst⟩:∃ st,quotedF (s.drop p).length (s.drop (p+1)) 0 []=st:=⟨_,rfl⟩
 rw [hst]
 obtain ⟨body,hbody⟩:∃ body,s.drop (p+1)=body:=⟨_,rfl⟩
 have hbl:body.length=s.length-(p+1):=by rw [<-hbody];simp
 have hdrop:∀ q,s.drop (p+1+q)=body.drop q:=fun q=>by rw [<-hbody,List.drop_drop]
 have hget:∀ q,s[p+1+q]? = body[q]? := fun q=>by rw [<-hbody,List.getElem?_drop]
 rw [hbody] at hst
 obtain ⟨F,hF⟩:∃ F,F=ACode.wp Tryz.prog c156_63:=⟨_,rfl⟩
 refine a156 (by simp) ?_
 simp (disch:=first|assumption|omega) only [go_sem]
 refine allocTC_by fun bB hbB=>?_
 have nb:=ne_of_role hb hbB
 obtain ⟨nb1,nb2⟩:=nb
 have e1:((p:Int)+1).toNat=p+1:=by omega
 simp (disch:=first|assumption|omega) only [go_sem,hb,e1,hbody,List.take_length,←hF]
 refine rngC_by fun it hit=>?_
 obtain ⟨ni1,ni2,hit0⟩:=set_none hit
 obtain ⟨nt1,nt2⟩:=ne_of_role hb hit0
 have hbase:∀ r:Role,(τ.set it (some r)) bB=none:=fun r=>by rw [ASt.set_ne ni2];exact hbB
 have fin:∀ (q:Nat) (acc:List UInt8) (a:AFr) (σ:ASt),q<=body.length->acc.length<=4*q+4->BD (τ.set it (some (.iter body q))) bB acc σ →
   ((st = .bad 0/\a 4 = .bool true)\/(st = .tok 2 acc (q+1)/\q+1<=body.length+1/\a 4 = .bool false/\a 5 = .int .i64 (q+1:Nat)))->(a 0 = .ptr b 0/\a 3 = .ptr bB 0) →
   F (RetQ [.t 2] fun v σ'=>After σ0 b s p c ts st v σ') a σ:=by
  intro q acc a σ hq hacc hW hcase hf
  have hov:Over τ σ:=(Over.set it _ .refl hit0).trans (hW.over (hbase _))
  rw [hF]
  rcases hcase with ⟨rfl,h4⟩|⟨rfl,hq1,h4,h5⟩
  ·simp (disch:=first|assumption|omega) only [go_sem,h4]
   exact retC_by hov.drop (.refl _) ⟨rfl,c,h⟩
  ·obtain ⟨σ0',hL,_,hback⟩:=GO.over h hov
   have hstr:=bstring_ok hW (by omega)
   simp (disch:=first|assumption|omega) only [go_sem,hf,h4]
   refine hstr.mono ?_
   rintro v σ' ⟨rfl,rfl⟩
   simp (disch:=first|assumption|omega) only [go_sem,h5]
   refine (put_ok hL hB' 2 acc (q+1) (by omega)).mono ?_
   rintro v σ' ⟨rfl,hL2⟩
   obtain ⟨σ'',hd,hL3⟩:=hback _ _ _ hL2
   simp (disch:=first|assumption|omega) only [go_sem]
   exact retC_by hd (.refl _) ⟨rfl,hL3⟩
 have hst0:BD (τ.set it (some (.iter body 0))) bB [] ((τ.set bB (some (.typ 149 [.pointer none,.slice none 0 0]))).set it (some (.iter body 0))) := .inl ⟨rfl,set_swap ni2⟩
 simp (disch:=first|assumption|omega) only [go_sem]
 refine wp_loop_on (fun (i:Nat×List UInt8×Bool) a σ'=>i.1<=body.length/\i.2.1.length<=4*i.1+4/\BD (τ.set it (some (.iter body i.1))) bB i.2.1 σ' ∧
   (i.2.2=false->a 5 = .int .i64 (i.1+1:Nat)/\∃ k,(body.drop i.1).length<=k/\quotedF k (body.drop i.1) i.1 i.2.1=st) ∧
   (i.2.2=true->body[i.1]? = some 34/\a 5 = .int .i64 (i.1+2:Nat)/\∃ k,(body.drop (i.1+1)).length<=k/\quotedF k (body.drop (i.1+1)) (i.1+1) i.2.1=st) ∧
   (a 0 = .ptr b 0/\a 3 = .ptr bB 0/\a 4 = .bool true/\a 21 = .ptr it 0))
  (fun i=>body.length-i.1) (0,[],false) ⟨Nat.zero_le _,by simp,hst0,fun _=>⟨?_,_,?_,hst⟩,fun h=>(by cases h),?_⟩ ?_
 ·simp (disch:=first|assumption|omega) only [go_sem]
 ·simp;omega
 ·simp (disch:=first|assumption|omega) only [go_sem]
 rintro ⟨q,acc,skip⟩ a σ ⟨hq,hacc,hW,hns,hsk,hf⟩
 dsimp only at hq hacc hW hns hsk
 obtain ⟨-,hitr⟩:=hW.iter (r' := .iter body q) ni1
 have hov:Over τ σ:=(Over.set it _ .refl hit0).trans (hW.over (hbase _))
 have hbs:=hov.at hb
 by_cases hlt:q<body.length
 ·have hne:body.drop q ≠ []:=by
   intro h
   have:=congrArg List.length h
   simp at this
   omega
  obtain ⟨⟨r,w⟩,hD⟩:∃ D,decodeL (body.drop q)=D:=⟨_,rfl⟩
  have hD2:Utf8.decode ⟨⟨body⟩⟩ q=(r,w):=by rw [<-hD];exact (decodeL_drop ⟨⟨body⟩⟩ q).symm
  have hDrop:decodeL (s.drop (p+1+q))=(r,w):=by rw [hdrop];exact hD
  have hwle:=decodeL_le (body.drop q) hne
  have hbd:=dec_bd (body.drop q)
  have hrk:=dec_rune (body.drop q)
  rw [hD] at hwle hbd hrk
  dsimp only at hwle hbd hrk
  rw [List.length_drop] at hwle
  obtain ⟨hW2, -⟩:=hW.iter (r' := .iter body (q+w)) ni1
  have hov2:Over τ (σ.set it (some (.iter body (q+w)))):=(Over.set it _ .refl hit0).trans (hW2.over (hbase _))
  have hb2:=hov2.at hb
  simp (disch:=first|assumption|omega) only [go_sem,hf,hitr]
  refine nxt_more hlt ?_
  rw [hD2]
  cases skip with
  | true=>
    obtain ⟨h34,h5,kk,hk1,hk2⟩:=hsk rfl
    have hd34:body.drop q=34::body.drop (q+1):=by
     rw [List.drop_eq_getElem_cons hlt]
     rw [List.getElem?_eq_getElem hlt] at h34
     injection h34 with h34
     rw [h34]
    have hw1:(r,w)=(34,1):=by
     rw [<-hD,hd34]
     exact dec_one 34 _ (by decide)
    injection hw1 with hr1 hw1
    subst hr1 hw1
    have e2:(q:Int)+1<(q+2:Nat):=by omega
    simp (disch:=first|assumption|omega) only [go_sem,hf,h5]
    exact ⟨(q+1,acc,false),by dsimp only;omega,by dsimp only;omega,by dsimp only;omega,hW2,fun _=>⟨rfl,kk,hk1,hk2⟩,fun h=>(by cases h)⟩
  | false=>
    obtain ⟨h5,kk,hk1,hk2⟩:=hns rfl
    have e2:¬ (q:Int)+1<(q+1:Nat):=by omega
    have e3:(p:Int)+1+q=(p+1+q:Nat):=by omega
    cases kk with
    | zero=>simp at hk1;omega
    | succ kk=>
    rw [quotedF,if_neg hne,hD] at hk2
    dsimp only at hk2
    rw [List.length_drop] at hk1
    have hlen:decodeL (body.drop q)≠(65533,1)->runeLen (r:Int)=w:=fun hv=>by
     have:=dec_len (body.drop q) hv
     rw [hD] at this
     exact this
    have hasc:=dec_ascii hne
    rw [hD] at hasc hlen
    dsimp only at hasc
    have hel:=enc_le (r:Int)
    obtain ⟨G,hG⟩:∃ F,F=ACode.wp Tryz.prog c156_43:=⟨_,rfl⟩
    have step:(r,w)≠(65533,1)->∀ (Q:APost) (a:AFr),(a 0 = .ptr b 0/\a 3 = .ptr bB 0/\a 4 = .bool true/\a 6 = .int .i64 q/\a 7 = .int .i32 r/\a 8 = .int .i64 (p+1+q:Nat)/\a 21 = .ptr it 0) →
      (∀ a' σ',(a' 0 = .ptr b 0/\a' 3 = .ptr bB 0/\a' 4 = .bool false/\a' 5 = .int .i64 (q+1+1:Nat))->BD (τ.set it (some (.iter body (q+1)))) bB acc σ'->st = .tok 2 acc (q+1+1)->Q (.exit 0) a' σ') →
      (∀ a' σ' q' acc' skip',q<q'->q'<=body.length->acc'.length<=4*q'+4->BD (τ.set it (some (.iter body q'))) bB acc' σ' →
       (skip'=false->a' 5 = .int .i64 (q'+1:Nat)/\∃ k,(body.drop q').length<=k/\quotedF k (body.drop q') q' acc'=st) →
       (skip'=true->body[q']? = some 34/\a' 5 = .int .i64 (q'+2:Nat)/\∃ k,(body.drop (q'+1)).length<=k/\quotedF k (body.drop (q'+1)) (q'+1) acc'=st) →
       (a' 0 = .ptr b 0/\a' 3 = .ptr bB 0/\a' 4 = .bool true/\a' 21 = .ptr it 0)->Q (.exit 1) a' σ') →
      G Q a (σ.set it (some (.iter body (q+w)))):=by
     intro hv Q a hf hQ0 hQ1
     rw [if_neg hv] at hk2
     have hlen:=hlen hv
     rw [hG]
     by_cases h34:(r:Int)=34
     ·have hr34:r=34:=by omega
      rw [if_neg (by simpa using hr34)] at hk2
      obtain ⟨d,t,hdt,hdc,hw1⟩:=hasc (by omega)
      subst hw1
      have hq1:(body.drop q)[1]? = body[q+1]? := by rw [List.getElem?_drop]
      rw [hq1] at hk2
      have hg1:=hget (q+1)
      obtain ⟨P,hP⟩:∃ P,p+1+(q+1)=P:=⟨_,rfl⟩
      have e4:((p:Int)+1+q+1).toNat=P:=by omega
      rw [hP] at hg1
      by_cases h2:body[q+1]? = some 34
      ·rw [if_pos h2] at hk2
       have hlt2:=(List.getElem?_eq_some_iff.1 h2).1
       rw [h2] at hg1
       have e5:(p:Int)+1+q+1<s.length:=by omega
       have e6:((UInt8.toNat 34:Nat):Int)=34:=rfl
       simp (disch:=first|assumption|omega) only [go_sem,hf,hb2,h34,e4,e5,e6,hg1]
       refine (writeByte_ok hW2 34 (by omega)).mono ?_
       rintro v σ' ⟨rfl,hW3⟩
       simp (disch:=first|assumption|omega) only [go_sem,hf]
       refine hQ1 _ _ (q+1) (acc ++ [34]) true (by omega) (by omega) (by simp;omega) hW3 (fun h=>by cases h) (fun _=>⟨h2,?_,kk,?_,?_⟩) ?_
       ·simp (disch:=first|assumption|omega) only [go_sem]
        rfl
       ·simp;omega
       ·rw [List.drop_drop] at hk2
        exact hk2
       ·simp (disch:=first|assumption|omega) only [go_sem,hf]
      ·rw [if_neg h2] at hk2
       by_cases hlt2:q+1<body.length
       ·have e5:(p:Int)+1+q+1<s.length:=by omega
        have hx : body[q + 1]? = some (body[q + 1]'hlt2) := List.getElem?_eq_getElem hlt2
        obtain ⟨x, hxe⟩ : ∃ x, body[q + 1]'hlt2 = x := ⟨_, rfl⟩
        rw [hxe] at hx
        rw [hx] at hg1 h2
        have hx34:¬ (x.toNat:Int)=34:=by
         intro h
         apply h2
         congr 1
         apply UInt8.toNat_inj.1
         have:x.toNat=34:=by omega
         simpa using this
        simp (disch:=first|assumption|omega) only [go_sem,hf,hb2,h34,e4,e5,hg1,hx34]
        refine hQ0 _ _ ?_ hW2 hk2.symm
        simp (disch:=first|assumption|omega) only [go_sem,hf]
        rfl
       ·have e5:¬ (p:Int)+1+q+1<s.length:=by omega
        simp (disch:=first|assumption|omega) only [go_sem,hf,hb2,h34,e5]
        refine hQ0 _ _ ?_ hW2 hk2.symm
        simp (disch:=first|assumption|omega) only [go_sem,hf]
        rfl
     ·have hr34:r≠34:=by omega
      rw [if_pos hr34] at hk2
      clear hasc
      simp (disch:=first|assumption|omega) only [go_sem,hf,h34]
      refine (writeRune_ok hW2 hrk (by omega)).mono ?_
      rintro v σ' hW3
      simp (disch:=first|assumption|omega) only [go_sem,hf]
      refine (runeLen_ok r).use ?_
      rw [hlen]
      simp (disch:=first|assumption|omega) only [go_sem]
      refine hQ1 _ _ (q+w) (acc++encodeRune r) false (by omega) (by omega) (by simp;omega) hW3 (fun _=>⟨?_,kk,?_,?_⟩) (fun h=>by cases h) ?_
      ·simp (disch:=first|assumption|omega) only [go_sem]
       congr 1
       omega
      ·simp;omega
      ·rw [List.drop_drop] at hk2
       exact hk2
      ·simp (disch:=first|assumption|omega) only [go_sem,hf]
    have hQ0:∀ (a':AFr) σ',(a' 0 = .ptr b 0/\a' 3 = .ptr bB 0/\a' 4 = .bool false/\a' 5 = .int .i64 (q+1+1:Nat))->BD (τ.set it (some (.iter body (q+1)))) bB acc σ'->st = .tok 2 acc (q+1+1) →
      F (RetQ [.t 2] fun v σ'=>After σ0 b s p c ts st v σ') a' σ':=fun a' σ' hf' hW3 hst3=>
     fin (q+1) acc a' σ' (by omega) (by omega) hW3 (.inr ⟨hst3,by omega,hf'.2.2.1,hf'.2.2.2⟩) ⟨hf'.1,hf'.2.1⟩
    by_cases hbad:(r,w)=(65533,1)
    ·rw [if_pos hbad] at hk2
     injection hbad with hr1 hw1
     subst hr1 hw1
     obtain ⟨σ0',hL,_,hback⟩:=GO.over h hov2
     have hdec:=dec_ok (hU.over hov2) (l:=s.drop (p+1+q)) (by rw [hdrop];exact hne)
     rw [hDrop] at hdec
     have hpass:=pass_ok hL hB' (1+q) (by omega)
     rw [show p+(1+q)=p+1+q by omega] at hpass
     have e7:((p:Int)+1+q).toNat=p+1+q:=by omega
     clear hasc step
     simp (disch:=first|assumption|omega) only [go_sem,hf,h5,hb2,e7,List.take_length,←hG]
     refine hdec.mono ?_
     rintro v σ' ⟨rfl,rfl⟩
     simp (disch:=first|assumption|omega) only [go_sem,hf]
     refine hpass.mono ?_
     rintro v σ' ⟨rfl,hL2⟩
     obtain ⟨σ'',hd,hL3⟩:=hback _ _ _ hL2
     simp (disch:=first|assumption|omega) only [go_sem]
     subst hk2
     refine retC_by hd (.refl _) ⟨rfl,c+signsN ((s.drop p).take (1+q)),?_⟩
     rw [show p+(1+q)=p+1+q by omega]
     exact hL3
    have stp:=step hbad
    clear step hasc
    by_cases h65:(r:Int)=65533
    ·have hw1:¬ (w:Int)=1:=by
      intro h
      apply hbad
      rw [Prod.mk.injEq]
      omega
     have hdec:=dec_ok (hU.over hov2) (l:=s.drop (p+1+q)) (by rw [hdrop];exact hne)
     rw [hDrop] at hdec
     have e7:((p:Int)+1+q).toNat=p+1+q:=by omega
     simp (disch:=first|assumption|omega) only [go_sem,hf,h5,hb2,e7,h65,List.take_length,←hG]
     refine hdec.mono ?_
     rintro v σ' ⟨rfl,rfl⟩
     simp (disch:=first|assumption|omega) only [go_sem,hw1]
     refine stp _ _ ?_ ?_ ?_
     ·simp (disch:=first|assumption|omega) only [go_sem,hf]
      rw [<-h65]
     ·intro a' σ' hf' hW3 hst3
      simp (disch:=first|assumption|omega) only [go_sem]
      exact hQ0 a' σ' hf' hW3 hst3
     ·intro a' σ' q' acc' skip' h1 h2 h3 h4 h5 h6 h7
      simp (disch:=first|assumption|omega) only [go_sem]
      exact ⟨(q',acc',skip'),by dsimp only;omega,h2,h3,h4,h5,h6,h7⟩
    ·simp (disch:=first|assumption|omega) only [go_sem,hf,h5,hb2,h65,←hG]
     refine stp _ _ ?_ ?_ ?_
     ·simp (disch:=first|assumption|omega) only [go_sem,hf]
     ·intro a' σ' hf' hW3 hst3
      simp (disch:=first|assumption|omega) only [go_sem]
      exact hQ0 a' σ' hf' hW3 hst3
     ·intro a' σ' q' acc' skip' h1 h2 h3 h4 h5 h6 h7
      simp (disch:=first|assumption|omega) only [go_sem]
      exact ⟨(q',acc',skip'),by dsimp only;omega,h2,h3,h4,h5,h6,h7⟩
 ·have hq':q=body.length:=by omega
  cases skip with
  | true=>
    obtain ⟨h34,_⟩:=hsk rfl
    rw [List.getElem?_eq_none (by omega)] at h34
    cases h34
  | false=>
  obtain ⟨h5,kk,hk1,hk2⟩:=hns rfl
  rw [List.drop_eq_nil_of_le (by omega),quotedF_nil] at hk2
  simp (disch:=first|assumption|omega) only [go_sem,hf,hitr]
  refine nxt_over (by omega) ?_
  simp (disch:=first|assumption|omega) only [go_sem]
  refine fin q acc _ σ (by omega) hacc hW (.inl ⟨hk2.symm,?_⟩) ?_
  ·simp (disch:=first|assumption|omega) only [go_sem,hf]
  ·simp (disch:=first|assumption|omega) only [go_sem,hf]
end Go.A
namespace Go.A
open Go.Proofs Go.Lib
theorem signs_one {c:UInt8} (h:c.toNat<128):signsN [c]=1:=by
 unfold signsN
 have:=runeCount_ascii ⟨⟨[c]⟩⟩ (fun j hj=>by
  have:j=0:=by simp [ByteArray.size] at hj;omega
  subst this
  exact h)
 simpa [ByteArray.size] using this
set_option maxHeartbeats 1000000 in
theorem tnext_ok {σ0 σ:ASt} (hU:U8 σ) {b:Nat} {s:List UInt8} {p c:Nat} {ts:List Tok} (h:LX σ0 b s p c ts σ) (hB:Bnd s p c ts) (hp:p<s.length) :
  ACalls Tryz.prog 107 [.ptr b 0] σ fun v σ'=>After σ0 b s p c ts (stepP (s.drop p)) v σ':=by
 obtain ⟨st,hst⟩:∃ st,stepP (s.drop p)=st:=⟨_,rfl⟩
 rw [hst]
 have hne:s.drop p ≠ []:=by
  intro h
  have:=congrArg List.length h
  simp at this
  omega
 have hs1:=hB.hs
 have hsg:=sign_ok hU h hB hp
 have hasc:=dec_ascii hne
 have hle:=decodeL_le _ hne
 have hbd:=dec_bd (s.drop p)
 have hwo:=words_ok h hB
 have hqu:=quoted_ok hU h hB hp
 have hfa:=lfail_ok h hB
 have hop:=op_ok h hB hp
 have hps:=pass_ok h hB 1 (by omega)
 obtain ⟨k,hg,hb⟩:=h.cell
 rw [List.length_drop] at hle
 unfold stepP at hst
 dsimp only at hst
 obtain ⟨⟨r,w⟩,hD⟩:∃ D,decodeL (s.drop p)=D:=⟨_,rfl⟩
 rw [hD] at hst hsg hasc hle hbd
 dsimp only at hst hsg hasc hle hbd
 refine a107 (by simp) ?_
 simp (disch:=first|assumption|omega) only [go_sem]
 refine hsg.mono ?_
 rintro v σ' ⟨rfl,rfl⟩
 by_cases hbad:(r,w)=(65533,1)
 ·rw [if_pos hbad] at hst
  rw [if_pos hbad,if_pos hbad]
  subst hst
  simp (disch:=first|assumption|omega) only [go_sem]
  exact retC_by (Drop.refl _) (.refl _) ⟨rfl,c,h⟩
 rw [if_neg hbad] at hst
 rw [if_neg hbad,if_neg hbad]
 have e0:¬ (w:Int)<0:=by omega
 by_cases hbl:r=32\/r=9\/r=10
 ·rw [if_pos hbl] at hst
  subst hst
  obtain ⟨d,t,hdt,hdc,hw1⟩:=hasc (by omega)
  have hs1:signsN ((s.drop p).take 1)=1:=by rw [hdt,List.take_succ_cons,List.take_zero];exact signs_one (by omega)
  rw [hs1] at hps
  subst hw1
  have e1:((1:Nat):Int)=1:=rfl
  rcases hbl with rfl|rfl|rfl
  all_goals
   simp (disch:=first|assumption|omega) only [go_sem,hb]
   refine hps.mono ?_
   rintro v σ2 ⟨rfl,hL⟩
   simp (disch:=first|assumption|omega) only [go_sem]
   exact retC_by (Drop.refl _) (.refl _) ⟨rfl,hL⟩
 rw [if_neg hbl] at hst
 have n1:¬ (r:Int)=32:=by omega
 have n2:¬ (r:Int)=9:=by omega
 have n3:¬ (r:Int)=10:=by omega
 by_cases h128:r<128
 ·obtain ⟨d,t,hdt,hdc,hw1⟩:=hasc h128
  clear hasc
  have hdr:UInt8.ofNat r=d:=by rw [<-hdc];simp
  have hwd:=word_ok d
  rw [hdc] at hwd
  rw [hdr] at hst
  have i128:(r:Int)<128:=by omega
  simp (disch:=first|assumption|omega) only [go_sem,e0,n1,n2,n3,i128]
  refine hwd.use ?_
  cases hw:wordB d with
  | true=>
    rw [if_pos ⟨h128,hw⟩] at hst
    subst hst
    simp (disch:=first|assumption|omega) only [go_sem]
    refine hwo.mono ?_
    intro v σ' hA
    simp (disch:=first|assumption|omega) only [go_sem]
    exact retC_by (Drop.refl _) (.refl _) hA
  | false=>
  rw [if_neg (by rintro ⟨_,h⟩;rw [hw] at h;cases h)] at hst
  by_cases h34:r=34
  ·rw [if_pos h34,List.drop_drop] at hst
   subst hst
   have i34:(r:Int)=34:=by omega
   simp (disch:=first|assumption|omega) only [go_sem,i34]
   refine hqu.mono ?_
   intro v σ' hA
   simp (disch:=first|assumption|omega) only [go_sem]
   exact retC_by (Drop.refl _) (.refl _) hA
  rw [if_neg h34] at hst
  have i34:¬ (r:Int)=34:=by omega
  by_cases h35:r=35
  ·rw [if_pos h35] at hst
   subst hst
   have i35:(r:Int)=35:=by omega
   simp (disch:=first|assumption|omega) only [go_sem,i35]
   refine hfa.mono ?_
   intro v σ' hA
   simp (disch:=first|assumption|omega) only [go_sem]
   exact retC_by (Drop.refl _) (.refl _) hA
  rw [if_neg h35] at hst
  have i35:¬ (r:Int)=35:=by omega
  subst hst
  simp (disch:=first|assumption|omega) only [go_sem,i34,i35]
  refine (hop r w (by omega)).mono ?_
  intro v σ' hA
  simp (disch:=first|assumption|omega) only [go_sem]
  exact retC_by (Drop.refl _) (.refl _) hA
 ·rw [if_neg (by rintro ⟨h,_⟩;exact h128 h),if_neg (by omega),if_neg (by omega)] at hst
  subst hst
  have i128:¬ (r:Int)<128:=by omega
  have i34:¬ (r:Int)=34:=by omega
  have i35:¬ (r:Int)=35:=by omega
  simp (disch:=first|assumption|omega) only [go_sem,e0,n1,n2,n3,i128,i34,i35]
  refine (hop r w (by omega)).mono ?_
  intro v σ' hA
  simp (disch:=first|assumption|omega) only [go_sem]
  exact retC_by (Drop.refl _) (.refl _) hA
theorem quotedF_fits:∀ (k:Nat) (r:List UInt8) (p:Nat) (acc:List UInt8),(∀ j,quotedF k r p acc = .bad j->j<1+p+r.length)/\quotedF k r p acc ≠ .blank/\∀ kd t n,quotedF k r p acc = .tok kd t n->p+2<=n/\n<=p+1+r.length
 | 0,r,p,acc=>by
   refine ⟨fun j h=>?_,by simp [quotedF],fun kd t n h=>by simp [quotedF] at h⟩
   simp only [quotedF,Step.bad.injEq] at h
   omega
 | k+1,r,p,acc=>by
   by_cases hr:r = []
   ·subst hr
    rw [quotedF_nil]
    refine ⟨fun j h=>?_,by simp,fun kd t n h=>by simp at h⟩
    simp only [Step.bad.injEq] at h
    omega
   have hpos:=List.length_pos_iff.2 hr
   have hle:=decodeL_le r hr
   have hw:=decodeL_width r
   unfold quotedF
   rw [if_neg hr]
   split
   ·refine ⟨fun j h=>?_,by simp,fun kd t n h=>by simp at h⟩
    simp only [Step.bad.injEq] at h
    omega
   split
   ·obtain ⟨h1,h2,h3⟩:=quotedF_fits k (r.drop (decodeL r).2) (p+(decodeL r).2) (acc++encodeRune ((decodeL r).1:Int))
    rw [List.length_drop] at h1 h3
    exact ⟨fun j h=>by have:=h1 j h;omega,h2,fun kd t n h=>by have:=h3 kd t n h;omega⟩
   split
   ·rename_i h1 h2 h3
    have hl2:=(List.getElem?_eq_some_iff.1 h3).1
    obtain ⟨h1,h2,h3⟩:=quotedF_fits k (r.drop 2) (p+2) (acc ++ [34])
    rw [List.length_drop] at h1 h3
    exact ⟨fun j h=>by have:=h1 j h;omega,h2,fun kd t n h=>by have:=h3 kd t n h;omega⟩
   ·refine ⟨fun j h=>by simp at h,by simp,fun kd t n h=>?_⟩
    simp only [Step.tok.injEq] at h
    omega
theorem failS_fits (r:List UInt8) (hr:r ≠ []):∀ (es:List (List UInt8)),(∀ e∈es,1<=e.length)->(∀ j,failS r es = .bad j->j<r.length)/\failS r es ≠ .blank/\∀ kd t n,failS r es = .tok kd t n->1<=n/\n<=r.length
 | [],_=>by
   have:=List.length_pos_iff.2 hr
   refine ⟨fun j h=>?_,by simp [failS],fun kd t n h=>by simp [failS] at h⟩
   simp only [failS,Step.bad.injEq] at h
   omega
 | e::es,he=>by
   unfold failS
   split
   ·rename_i h1
    have:=he e (by simp)
    refine ⟨fun j h=>by simp at h,by simp,fun kd t n h=>?_⟩
    simp only [Step.tok.injEq] at h
    omega
   ·exact failS_fits r hr es fun e h=>he e (by simp [h])
theorem twoS_fits (r:List UInt8):∀ (es:List (List UInt8)) e,twoS r es=some e->e∈es/\e.isPrefixOf r=true
 | [],e,h=>by simp [twoS] at h
 | x::es,e,h=>by
   unfold twoS at h
   split at h
   ·injection h with h;subst h;exact ⟨by simp,by assumption⟩
   ·obtain ⟨h1,h2⟩:=twoS_fits r es e h
    exact ⟨by simp [h1],h2⟩
theorem stepP_fits (r:List UInt8) (hr:r ≠ []):(∀ j,stepP r = .bad j->j<r.length)/\∀ kd t n,stepP r = .tok kd t n->1<=n/\n<=r.length:=by
 have hpos:=List.length_pos_iff.2 hr
 have hle:=decodeL_le r hr
 have hw:=decodeL_width r
 have hasc:=dec_ascii hr
 have bad0:(∀ j,Step.bad 0 = .bad j->j<r.length)/\∀ kd t n,Step.bad 0 = .tok kd t n->1<=n/\n<=r.length:=by
  refine ⟨fun j h=>?_,fun kd t n h=>by simp at h⟩
  simp only [Step.bad.injEq] at h
  omega
 have tok1:∀ kd t n,1<=n->n<=r.length->(∀ j,Step.tok kd t n = .bad j->j<r.length)/\∀ kd' t' n',Step.tok kd t n = .tok kd' t' n'->1<=n'/\n'<=r.length:=by
  intro kd t n h1 h2
  refine ⟨fun j h=>by simp at h,fun kd t n h=>?_⟩
  simp only [Step.tok.injEq] at h
  omega
 unfold stepP
 dsimp only
 split
 ·exact bad0
 split
 ·exact ⟨fun j h=>by simp at h,fun kd t n h=>by simp at h⟩
 split
 ·rename_i h1 h2 h3
  obtain ⟨d,t,hdt,hdc,_⟩:=hasc h3.1
  have hrl:=runL_le wordB r
  have h1:1<=runL wordB r:=by
   rw [hdt,runL]
   have:UInt8.ofNat (decodeL r).1=d:=by rw [<-hdc];simp
   rw [this] at h3
   rw [if_pos h3.2]
   omega
  unfold wordsS
  dsimp only
  repeat' split
  all_goals first|exact tok1 _ _ _ h1 hrl|exact bad0
 split
 ·obtain ⟨h1,h2,h3⟩:=quotedF_fits r.length (r.drop 1) 0 []
  rw [List.length_drop] at h1 h3
  exact ⟨fun j h=>by have:=h1 j h;omega,fun kd t n h=>by have:=h3 kd t n h;omega⟩
 split
 ·obtain ⟨h1,h2,h3⟩:=failS_fits r hr errTexts (by decide)
  exact ⟨h1,h3⟩
 ·unfold opS
  split
  ·exact tok1 _ _ _ hw hle
  ·split
   ·rename_i e he
    obtain ⟨h1,h2⟩:=twoS_fits r _ _ he
    have:=twos_len e h1
    have:=(List.isPrefixOf_iff_prefix.1 h2).length_le
    exact tok1 _ _ _ (by omega) (by omega)
   ·split
    ·exact tok1 _ _ _ (by omega) (by omega)
    ·exact bad0
theorem After.u8 {σ0 σ':ASt} (hU:U8 σ0) {b:Nat} (hb:σ0 b=none) {s:List UInt8} {p c:Nat} {ts:List Tok} (h:LX σ0 b s p c ts σ'):U8 σ':=by
 have hne:∀ x r,σ0 x=some r->x≠b:=by rintro x r hx rfl;rw [hb] at hx;cases hx
 exact ⟨GO.at h (hne _ _ hU.1) hU.1,GO.at h (hne _ _ hU.2) hU.2⟩
theorem lex_ok {σ:ASt} (hU:U8 σ) (s:List UInt8) (hs0:s.length<=1000000000) :
  ACalls Tryz.prog 63 [.str s] σ fun v σ'=>v = .tuple [.sl .shr ((lexP s).1.map tokAV),.int .i64 (lexP s).2.1,.int .i64 (lexP s).2.2]/\σ'=σ:=by
 obtain ⟨R,hR⟩:∃ R,lexP s=R:=⟨_,rfl⟩
 rw [hR]
 unfold lexP at hR
 refine a63 (by simp) ?_
 obtain ⟨F,hF⟩:∃ F,F=ACode.wp Tryz.prog c63_24:=⟨_,rfl⟩
 by_cases hbig:2000<s.length
 ·rw [if_pos hbig] at hR
  subst hR
  have e1:(2000:Int)<s.length:=by omega
  simp (disch:=first|assumption|omega) only [go_sem,e1]
  exact retC_by (Drop.refl _) (.tuple (.cons (.sl _ _) (.cons (.refl _) (.cons (.refl _) .nil)))) ⟨rfl,rfl⟩
 rw [if_neg hbig] at hR
 have hs:s.length<=100000:=by omega
 have e1:¬ (2000:Int)<s.length:=by omega
 simp (disch:=first|assumption|omega) only [go_sem,e1]
 refine boxC_by rfl fun b hb=>?_
 simp (disch:=first|assumption|omega) only [go_sem,←hF]
 have h0:LX σ b s 0 0 [] (σ.set b (some (.obj [.str s,.int .i64 0,.int .i64 0,.sl .full []]))):=⟨.full,.inl ⟨rfl,rfl,rfl⟩⟩
 refine wp_loop_on (fun (i:Nat×Nat×List Tok) a σ'=>i.1<=s.length/\i.2.1<=i.1/\i.2.2.length<=i.1/\LX σ b s i.1 i.2.1 i.2.2 σ'/\(∃ k,(s.drop i.1).length<k/\lexF k (s.drop i.1) i.1 i.2.1 i.2.2=R)/\(a 0 = .str s/\a 5 = .ptr b 0))
  (fun i=>s.length-i.1) (0,0,[]) ⟨Nat.zero_le _,Nat.le_refl _,Nat.le_refl _,h0,⟨s.length+1,by simp,hR⟩,?_⟩ ?_
 ·simp (disch:=first|assumption|omega) only [go_sem]
 rintro ⟨p,c,ts⟩ a σ1 ⟨hp,hc,ht,hL,⟨k,hk,hlex⟩,hf⟩
 dsimp only at hp hc ht hL hk hlex hf
 have hB:Bnd s p c ts:=⟨hs,hp,hc,by omega⟩
 have hU1:=After.u8 hU hb hL
 obtain ⟨kk,hg,hcell⟩:=hL.cell
 cases k with
 | zero=>omega
 | succ k=>
 rw [List.length_drop] at hk
 by_cases hlt:p<s.length
 ·have hne:s.drop p ≠ []:=by
   intro h
   have:=congrArg List.length h
   simp at this
   omega
  have hlt':(p:Int)<s.length:=by omega
  have hfit:=stepP_fits _ hne
  have hnx:=tnext_ok hU1 hL hB hlt
  rw [lexF,if_neg hne] at hlex
  obtain ⟨st,hst⟩:∃ st,stepP (s.drop p)=st:=⟨_,rfl⟩
  rw [hst] at hlex hfit hnx
  rw [List.length_drop] at hfit
  simp (disch:=first|assumption|omega) only [go_sem,hf,hcell,hlt']
  refine hnx.mono ?_
  intro v σ' hA
  cases st with
  | bad j=>
    obtain ⟨rfl,c',hL2⟩:=hA
    obtain ⟨k2,hg2,hcell2⟩:=hL2.cell
    dsimp only at hlex
    subst hlex
    simp (disch:=first|assumption|omega) only [go_sem,hf,hcell2]
    exact retC_by (Drop.trans hg2.drop (Drop.set hb)) (.tuple (.cons (.sl _ _) (.cons (.refl _) (.cons (.refl _) .nil)))) ⟨rfl,rfl⟩
  | blank=>
    obtain ⟨rfl,hL2⟩:=hA
    dsimp only at hlex
    rw [List.drop_drop] at hlex
    simp (disch:=first|assumption|omega) only [go_sem,hf]
    exact ⟨(p+1,c+1,ts),by dsimp only;omega,by dsimp only;omega,by dsimp only;omega,by dsimp only;omega,hL2,⟨k,by simp;omega,hlex⟩⟩
  | tok kd t n=>
    obtain ⟨rfl,hL2⟩:=hA
    dsimp only at hlex
    rw [List.drop_drop] at hlex
    obtain ⟨g1,g2⟩:=hfit.2 kd t n rfl
    have hsn:=signsN_le ((s.drop p).take n)
    rw [take_len (by omega)] at hsn
    simp (disch:=first|assumption|omega) only [go_sem,hf]
    exact ⟨(p+n,c+signsN ((s.drop p).take n),ts ++ [⟨kd,t,p,c⟩]),by dsimp only;omega,by dsimp only;omega,by dsimp only;omega,by simp;omega,hL2,⟨k,by simp;omega,hlex⟩⟩
 ·have hlt':¬ (p:Int)<s.length:=by omega
  have hpe:s.drop p = []:=List.drop_eq_nil_of_le (by omega)
  rw [lexF,hpe,if_pos rfl] at hlex
  subst hlex
  simp (disch:=first|assumption|omega) only [go_sem,hf,hcell,hlt']
  rw [hF]
  simp (disch:=first|assumption|omega) only [go_sem,hf]
  refine (put_ok hL hB 0 [] 0 (by omega)).mono ?_
  rintro v σ' ⟨rfl,hL2⟩
  obtain ⟨k2,hg2,hcell2⟩:=hL2.cell
  have hz:signsN ((s.drop p).take 0)=0:=by rw [List.take_zero];rfl
  simp (disch:=first|assumption|omega) only [go_sem,hf,hcell2]
  exact retC_by (Drop.trans hg2.drop (Drop.set hb)) (.tuple (.cons (.sl _ _) (.cons (.refl _) (.cons (.refl _) .nil)))) ⟨rfl,rfl⟩
end Go.A
namespace Go.A
open Go.Proofs
/-! 89: tabular/expr.Write -/
def c89_45:ACode := .seq (.ops [ oq 59 (.bin .lss (.t 58) (.t 57))]) (.seq (.cond (.t 59) .skip (.exit 1)) (.seq (.block 2 (.seq (.ops [ oq 60 (.ia 12 (.t 56) (.t 58)),oq 61 (.ld (some 12) (.t 60)),oe 5 (.alloc [(.int .i64 0),(.int .i64 0),(.str []),(.int .i64 0),(.int .i64 0),(.bool false),(.bool false),(.int .i64 0),(.int .i64 0),(.bool false),(.bool false),(.sl .full [])]),oz (.store 12 (.t 5) (.t 61))]) (.ops [ oq 62 (.mv (.t 0)),oq 63 (.ld (some 12) (.t 5)),oe 64 (.call 89 [(.t 62),(.t 63)])]))) (.ops [ oq 65 (.bin .add (.t 58) (.v (.int .i64 1))),oq 58 (.mv (.t 65))])))
def c89_48:ACode := .seq (.ops [ oq 55 (.fa 11 (.t 3)),oq 56 (.ld none (.t 55)),oq 57 (.len (.t 56)),oq 58 (.mv (.v (.int .i64 0)))]) (.block 1 (.loop c89_45))
def c89_51:ACode := .seq (.ops [ oe 3 (.box (.t 1))]) (.seq (.ops [ oq 6 (.mv (.t 0)),oq 7 (.fa 0 (.t 3)),oq 8 (.ld none (.t 7)),oq 9 (.conv .u64 (.t 8)),oe 10 (.call 40 [(.t 6),(.t 9)])]) (.seq (.seq (.ops [ oq 11 (.fa 0 (.t 3)),oq 12 (.ld none (.t 11))]) (.block 0 (.seq (.seq (.ops [ oq 14 (.bin .eql (.t 12) (.v (.int .i64 1))),oq 13 (.mv (.t 14))]) (.cond (.t 13) .skip (.seq (.ops [ oq 15 (.bin .eql (.t 12) (.v (.int .i64 3))),oq 13 (.mv (.t 15))]) (.cond (.t 13) .skip (.ops [ oq 16 (.bin .eql (.t 12) (.v (.int .i64 4))),oq 13 (.mv (.t 16))]))))) (.cond (.t 13) (.ops [ oq 17 (.mv (.t 0)),oq 18 (.fa 1 (.t 3)),oq 19 (.ld none (.t 18)),oe 20 (.call 115 [(.t 17),(.t 19)])]) (.seq (.ops [ oq 22 (.bin .eql (.t 12) (.v (.int .i64 2))),oq 21 (.mv (.t 22))]) (.cond (.t 21) (.ops [ oq 23 (.mv (.t 0)),oq 24 (.fa 2 (.t 3)),oq 25 (.ld none (.t 24)),oe 26 (.call 116 [(.t 23),(.t 25)])]) (.seq (.ops [ oq 28 (.bin .eql (.t 12) (.v (.int .i64 5))),oq 27 (.mv (.t 28))]) (.cond (.t 27) (.ops [ oq 29 (.mv (.t 0)),oq 30 (.fa 3 (.t 3)),oq 31 (.ld (some 4) (.t 30)),oe 32 (.call 142 [(.t 29),(.t 31)])]) (.seq (.ops [ oq 34 (.bin .eql (.t 12) (.v (.int .i64 6))),oq 33 (.mv (.t 34))]) (.cond (.t 33) (.seq (.ops [ oq 35 (.mv (.t 0)),oq 36 (.fa 3 (.t 3)),oq 37 (.ld (some 4) (.t 36)),oe 38 (.call 142 [(.t 35),(.t 37)])]) (.ops [ oq 39 (.mv (.t 0)),oq 40 (.fa 7 (.t 3)),oq 41 (.ld (some 4) (.t 40)),oe 42 (.call 142 [(.t 39),(.t 41)])])) (.seq (.ops [ oq 44 (.bin .eql (.t 12) (.v (.int .i64 22))),oq 43 (.mv (.t 44))]) (.cond (.t 43) (.seq (.ops [ oq 45 (.mv (.t 0)),oq 46 (.fa 2 (.t 3)),oq 47 (.ld none (.t 46)),oe 48 (.call 116 [(.t 45),(.t 47)])]) (.ops [ oq 49 (.mv (.t 0)),oq 50 (.fa 11 (.t 3)),oq 51 (.ld none (.t 50)),oq 52 (.len (.t 51)),oq 53 (.conv .u64 (.t 52)),oe 54 (.call 40 [(.t 49),(.t 53)])])) .skip)))))))))))) c89_48))
@[go_sem] def c89_45_wp:=wp_of c89_45.eq_1
@[go_sem] def c89_48_wp:=wp_of c89_48.eq_1
@[go_sem] def c89_51_wp:=wp_of c89_51.eq_1
def c89:AFn:=⟨66,[],c89_51⟩
theorem c89_ok:compF Tryz.prog Tryz.f89=some c89:=by kernel_rfl
theorem a89 {args:List AV} {σ:ASt} {R:AV->ASt->Prop} (hl:args.length<=66) (h:c89_51.wp Tryz.prog (RetQ [] R) (init args) σ):ACalls Tryz.prog 89 args σ R:=acalls_of Tryz.func89 c89_ok hl h
/-! 142: tabular/expr.putRef -/
def c142_16:ACode := .seq (.ops [ oe 3 (.box (.t 1))]) (.seq (.ops [ oq 4 (.mv (.v (.int .i64 0)))]) (.seq (.seq (.ops [ oq 5 (.fa 2 (.t 3)),oq 6 (.ld none (.t 5))]) (.cond (.t 6) (.ops [ oq 4 (.mv (.v (.int .i64 1)))]) .skip)) (.seq (.seq (.ops [ oq 7 (.fa 3 (.t 3)),oq 8 (.ld none (.t 7))]) (.cond (.t 8) (.ops [ oq 9 (.mv (.t 4)),oq 10 (.bin .add (.t 9) (.v (.int .i64 2))),oq 4 (.mv (.t 10))]) .skip)) (.seq (.ops [ oq 11 (.mv (.t 0)),oq 12 (.mv (.t 4)),oq 13 (.fa 0 (.t 3)),oq 14 (.ld none (.t 13)),oq 15 (.bin .mul (.v (.int .i64 4)) (.t 14)),oq 16 (.bin .add (.t 12) (.t 15)),oq 17 (.conv .u64 (.t 16)),oe 18 (.call 40 [(.t 11),(.t 17)])]) (.ops [ oq 19 (.mv (.t 0)),oq 20 (.fa 1 (.t 3)),oq 21 (.ld none (.t 20)),oq 22 (.conv .u64 (.t 21)),oe 23 (.call 40 [(.t 19),(.t 22)])])))))
@[go_sem] def c142_16_wp:=wp_of c142_16.eq_1
def c142:AFn:=⟨24,[],c142_16⟩
theorem c142_ok:compF Tryz.prog Tryz.f142=some c142:=by kernel_rfl
theorem a142 {args:List AV} {σ:ASt} {R:AV->ASt->Prop} (hl:args.length<=24) (h:c142_16.wp Tryz.prog (RetQ [] R) (init args) σ):ACalls Tryz.prog 142 args σ R:=acalls_of Tryz.func142 c142_ok hl h
end Go.A
namespace Go.A
open Go.Proofs Go.Lib Go.Vint
def absN (r:Ref):Nat:=(if r.absRow=true then 1 else 0)+(if r.absCol=true then 2 else 0)
def rfB (r:Ref):List UInt8:=uintB (absN r+4*r.row.toNat)++uintB r.col.toNat
def restB (op n:Int) (s:List UInt8) (a b:Ref) (k:Nat):List UInt8:=
 if op=1\/op=3\/op=4 then uintB (foldI n).toNat else if op=2 then textB s else if op=5 then rfB a else if op=6 then rfB a++rfB b else if op=22 then textB s++uintB k else []
mutual
def Nd.bytes:Nd->List UInt8
 | .mk op n s a b kids=>uintB op.toNat++restB op n s a b kids.length++Nd.bytess kids
def Nd.bytess:List Nd->List UInt8
 | [] => []
 | x::xs=>x.bytes++Nd.bytess xs
end
def arity (op:Int):Nat:=if op=7\/op=8\/op=9 then 1 else if 10<=op/\op<=21 then 2 else 0
def nameOkP (s:List UInt8):Bool:=decide ((lexP s).2.2=0) && (decide ((lexP s).1.length=2) && match (lexP s).1 with
 | t::_=>decide (t.kind=3) && decide (t.text=s)
 | []=>false)
structure GdN (op n:Int) (s:List UInt8) (a b:Ref) (k:Nat):Prop where
 op1:1<=op
 op2:op<=23
 n1:op=1->0<=n/\n<=999999999999999999
 n3:op=3->n=0\/n=1
 n4:op=4->n.tmod 10000=0/\10000<=n/\n<=70000
 n0:op≠1->op≠3->op≠4->n=0
 s2:op=2->s.length<=2000/\(sgT s).isSome=true
 s22:op=22->s.length<=2000/\nameOkP s=true/\k<=2000
 s0:op≠2->op≠22->s = []
 ga:op=5\/op=6->a.good=true
 a0:op≠5->op≠6->a = .zero
 gb:op=6->b.good=true
 b0:op≠6->b = .zero
 ar:op≠22->k=arity op
mutual
def Nd.wd:Nd->Prop
 | .mk op n s a b kids=>GdN op n s a b kids.length/\Nd.wds kids
def Nd.wds:List Nd->Prop
 | []=>True
 | x::xs=>x.wd/\Nd.wds xs
end
theorem Nd.wds_mem:∀ {l:List Nd},Nd.wds l↔∀ x∈l,x.wd
 | []=>by simp [Nd.wds]
 | y::l=>by rw [Nd.wds,Nd.wds_mem (l:=l)];simp
theorem GdN.num {op n:Int} {s:List UInt8} {a b:Ref} {k:Nat} (h:GdN op n s a b k):0<=n/\n<=999999999999999999:=by
 have h1:=h.n1
 have h3:=h.n3
 have h4:=h.n4
 have h0:=h.n0
 by_cases e1:op=1
 ·exact h1 e1
 by_cases e3:op=3
 ·have:=h3 e3;omega
 by_cases e4:op=4
 ·have:=h4 e4;omega
 ·have:=h0 e1 e3 e4;omega
theorem arity_le (op:Int):arity op<=2:=by
 unfold arity
 repeat' split
 all_goals omega
theorem GdN.kids {op n:Int} {s:List UInt8} {a b:Ref} {k:Nat} (h:GdN op n s a b k):k<=2000:=by
 by_cases e:op=22
 ·exact (h.s22 e).2.2
 ·have:=h.ar e;have:=arity_le op;omega
theorem good_bd {r:Ref} (h:r.good=true):0<=r.row/\r.row<3000/\0<=r.col/\r.col<700:=by
 unfold Ref.good at h
 exact of_decide_eq_true h
theorem bytess_take {x:Nd}:∀ {l:List Nd} {i:Nat},l[i]? = some x->Nd.bytess (l.take (i+1))=Nd.bytess (l.take i)++x.bytes
 | [],i,h=>by simp at h
 | y::l,0,h=>by simp at h;subst h;simp [Nd.bytess]
 | y::l,i+1,h=>by
   simp only [List.getElem?_cons_succ] at h
   rw [List.take_succ_cons,List.take_succ_cons,Nd.bytess,Nd.bytess,bytess_take h,List.append_assoc]
theorem bytess_le:∀ (l:List Nd) (i:Nat),(Nd.bytess (l.take i)).length<=(Nd.bytess l).length
 | [],i=>by simp [Nd.bytess]
 | y::l,0=>by simp [Nd.bytess]
 | y::l,i+1=>by rw [List.take_succ_cons,Nd.bytess,Nd.bytess,List.length_append,List.length_append];have:=bytess_le l i;omega
theorem putref_ok (r:Ref) (hr:r.good=true) (σ0:ASt) (b:Nat) (l:List UInt8) (σ:ASt) (hW:W σ0 b l σ) (hl:l.length+(rfB r).length<=10000000) :
  ACalls Tryz.prog 142 [.ptr b 0,refAV r] σ fun v σ'=>v = .tuple []/\W σ0 b (l++rfB r) σ':=by
 obtain ⟨r1,r2,r3,r4⟩:=good_bd hr
 obtain ⟨row,col,ar,ac⟩:=r
 dsimp only at r1 r2 r3 r4
 have key:∀ q:Int,0<=q->q<=3->IntKind.wrap .u64 (q+4*row)=q+4*row/\IntKind.wrap .u64 (4*row)=4*row/\IntKind.wrap .u64 col=col:=fun q h0 h1=>by
  rw [IntKind.wrap_u64,IntKind.wrap_u64,IntKind.wrap_u64];omega
 obtain ⟨U,hU⟩:∃ U:Int,((absN ⟨row,col,ar,ac⟩:Nat):Int)+4*row=U:=⟨_,rfl⟩
 have hrf:rfB ⟨row,col,ar,ac⟩=uintB U.toNat++uintB col.toNat:=by
  unfold rfB
  rw [show absN ⟨row,col,ar,ac⟩+4*row.toNat=U.toNat by omega]
 rw [hrf] at hl ⊢
 rw [List.length_append] at hl
 have hadd:=fun (c:Nat) (hc:σ c=none) (r:Role)=>hW.add (r:=r) hc
 unfold refAV
 cases ar<;>cases ac
 all_goals
  have hU':=hU
  unfold absN at hU'
  simp only [Bool.false_eq_true,if_false,if_true,Nat.zero_add,Nat.add_zero,Nat.reduceAdd] at hU'
  clear hU hrf
  have hb:0<=U/\U<=20000:=by omega
  have hw0:=(key 0 (by omega) (by omega)).2.2
  refine a142 (by simp) ?_
  simp (disch:=first|assumption|omega) only [go_sem]
  refine boxC_by rfl fun c hc=>?_
  have hadd:=hadd c hc
  simp (disch:=first|assumption|omega) only [go_sem]
  refine ACalls.of_eq (congrArg (fun x => [AV.ptr b 0,AV.int .u64 x]) (show _=U by omega)) ?_
  refine (wuint_ok _ b U l _ (hadd _).1 (by omega) (by omega) (by omega)).mono ?_
  rintro v σ1 ⟨rfl,hW1⟩
  have hc1:=hW1.role (hadd (.obj [])).2.1
  simp (disch:=first|assumption|omega) only [go_sem,hc1,hw0]
  refine (wuint_ok _ b col _ _ hW1 (by omega) (by omega) (by rw [List.length_append];omega)).mono ?_
  rintro v σ2 ⟨rfl,hW2⟩
  rw [List.append_assoc] at hW2
  obtain ⟨σ3,hd,hW3,_⟩:=hW2.off (hadd (.obj [])).2.1 (hadd (.obj [])).2.2
  simp (disch:=first|assumption|omega) only [go_sem]
  exact retC_by hd (.refl _) ⟨rfl,hW3⟩
theorem ewrite_le:∀ (k:Nat) (n:Nd),n.size<=k->n.wd->∀ (σ0:ASt) (b:Nat) (l:List UInt8) (σ:ASt),W σ0 b l σ->l.length+n.bytes.length<=9000000 →
  ACalls Tryz.prog 89 [.ptr b 0,n.av] σ fun v σ'=>v = .tuple []/\W σ0 b (l++n.bytes) σ'
 | 0,n,hk,_=>by have:=n.size_pos;omega
 | k+1,n,hk,hg=>by
   intro σ0 b l σ hW hl
   have ih:=ewrite_le k
   obtain ⟨op,m,s,a,d,kids⟩:=n
   rw [Nd.size] at hk
   rw [Nd.wd] at hg
   obtain ⟨hg,hgs⟩:=hg
   have hm:=hg.num
   have o1:=hg.op1
   have o2:=hg.op2
   have hkl:=hg.kids
   rw [Nd.bytes] at hl ⊢
   rw [Nd.av_cs]
   rw [List.length_append,List.length_append] at hl
   have hops:=uintB_le (u:=op) (by omega)
   have hms:=uintB_le (u:=foldI m) (by have:=foldI_bd (n:=m) (by omega) (by omega);omega)
   have hfold:=foldI_bd (n:=m) (by omega) (by omega)
   have hw64:IntKind.wrap .u64 op=op:=by rw [IntKind.wrap_u64];omega
   have hklw:IntKind.wrap .u64 (kids.length:Int)=kids.length:=by rw [IntKind.wrap_u64];omega
   obtain ⟨F,hF⟩:∃ F,F=ACode.wp Tryz.prog c89_48:=⟨_,rfl⟩
   obtain ⟨H,hH⟩:∃ H,uintB op.toNat++restB op m s a d kids.length=H:=⟨_,rfl⟩
   have hHl:H.length=(uintB op.toNat).length+(restB op m s a d kids.length).length:=by rw [<-hH,List.length_append]
   have hlH:l.length+H.length+(Nd.bytess kids).length<=9000000:=by omega
   rw [hH]
   obtain ⟨Q,hQ⟩:∃ Q,Q=RetQ [] fun v σ'=>v=AV.tuple []/\W σ0 b (l++(H++Nd.bytess kids)) σ':=⟨_,rfl⟩
   have fin:∀ (c:Nat) (σ1:ASt) (a1:AFr),c≠b->σ0 c=none->W (σ0.set c (some (.obj (Nd.cs op m s a d (kids.map Nd.av))))) b (l++H) σ1->(a1 0 = .ptr b 0/\a1 3 = .ptr c 0)->F Q a1 σ1:=by
    intro c σ1 a1 hcb hc0 hW1 hf
    have hc1:=hW1.role hcb
    rw [hF]
    simp (disch:=first|assumption|omega) only [go_sem,hf,hc1]
    obtain ⟨σ3,hd3,hW3,_⟩:=hW1.off hcb hc0
    refine wp_loop_by (fun (i:Nat) a1 s2=>i<=kids.length/\(a1 0 = .ptr b 0/\a1 56 = .sl .shr (kids.map Nd.av)/\a1 57 = .int .i64 kids.length/\a1 58 = .int .i64 i)/\W σ0 b (l++H++Nd.bytess (kids.take i)) s2) (fun i=>kids.length-i) 0 (Dr.drop hd3 ⟨Nat.zero_le _,?_,by rw [List.take_zero,Nd.bytess,List.append_nil];exact hW3⟩) ?_
    ·simp (disch:=first|assumption|omega) only [go_sem,hf]
    rintro i a2 s2 ⟨hi,hf2,hW2⟩
    by_cases hlt:i<kids.length
    ·have hlt':(i:Int)<kids.length:=by omega
     have hx : kids[i]? = some (kids[i]'hlt) := List.getElem?_eq_getElem hlt
     have hmem:=List.getElem_mem hlt
     obtain ⟨x, hxe⟩ : ∃ x, kids[i]'hlt = x := ⟨_, rfl⟩
     rw [hxe] at hx hmem
     have hmx:=Nd.get hx
     have hsz:=Nd.size_kid hmem
     have hih:=ih x (by omega) (Nd.wds_mem.1 hgs x hmem)
     have hbt:=bytess_take hx
     have hbl:=bytess_le kids (i+1)
     rw [hbt,List.length_append] at hbl
     obtain ⟨xo,xm,xs,xa,xb,xk⟩:=x
     rw [Nd.av_cs] at hmx hih
     generalize xk.map Nd.av=XK at *
     generalize kids.map Nd.av=KL at *
     generalize Nd.bytes (.mk xo xm xs xa xb xk)=XB at *
     simp (disch:=first|assumption|omega) only [go_sem,hf2,hlt',hmx]
     refine allocC_by fun e he=>?_
     obtain ⟨hWe,heb,he0⟩:=hW2.add he (r := .obj (Nd.cs xo xm xs xa xb XK))
     simp (disch:=first|assumption|omega) only [go_sem,hf2,ASt.set_set]
     refine (hih _ b _ _ hWe (by rw [List.length_append,List.length_append];omega)).mono ?_
     rintro v σ4 ⟨rfl,hW4⟩
     obtain ⟨σ5,hd5,hW5,_⟩:=hW4.off heb he0
     simp (disch:=first|assumption|omega) only [go_sem,hf2]
     refine ⟨i+1,by dsimp only;omega,Dr.drop hd5 ⟨by omega,?_,by rw [hbt,← List.append_assoc];exact hW5⟩⟩
     simp (disch:=first|assumption|omega) only [go_sem,hf2]
    ·have hlt':¬ (i:Int)<kids.length:=by omega
     rw [List.take_of_length_le (by omega)] at hW2
     rw [hQ]
     simp (disch:=first|assumption|omega) only [go_sem,hf2,hlt']
     exact retC_by (Drop.refl _) (.refl _) ⟨rfl,by rw [<-List.append_assoc];exact hW2⟩
   have hadd:=fun (c:Nat) (hc:σ c=none) (r:Role)=>hW.add (r:=r) hc
   refine a89 (by simp) ?_
   rw [<-hQ]
   simp (disch:=first|assumption|omega) only [go_sem]
   refine boxC_by rfl fun c hc=>?_
   obtain ⟨hWc,hcb,hc0⟩:=hW.add hc (r := .obj (Nd.cs op m s a d (kids.map Nd.av)))
   have hkm:(kids.map Nd.av).length=kids.length:=by simp
   generalize kids.map Nd.av=KL at *
   simp (disch:=first|assumption|omega) only [go_sem,hw64]
   refine (wuint_ok _ b op l _ hWc (by omega) (by omega) (by omega)).mono ?_
   rintro v σ1 ⟨rfl,hW1⟩
   have hc1:=hW1.role hcb
   have hcd:0<=op/\op<=23:=by omega
   by_cases h134:op=1\/op=3\/op=4
   ·have hrb:restB op m s a d kids.length=uintB (foldI m).toNat:=if_pos h134
    rw [hrb] at hH hHl
    have fin:=fin c
    rcases h134 with h1|h1|h1
    all_goals
     simp (disch:=first|assumption|omega) only [go_sem,hc1,h1,←hF]
     refine (wint_ok _ b m _ _ hW1 (by omega) (by omega) (by rw [List.length_append];omega)).mono ?_
     rintro v σ2 ⟨rfl,hW2⟩
     rw [List.append_assoc,hH] at hW2
     simp (disch:=first|assumption|omega) only [go_sem]
     refine fin _ _ hcb hc0 hW2 ?_
     simp (disch:=first|assumption|omega) only [go_sem]
   have g1:op≠1:=by omega
   have g3:op≠3:=by omega
   have g4:op≠4:=by omega
   by_cases h2:op=2
   ·have hrb:restB op m s a d kids.length=textB s:=by unfold restB;rw [if_neg h134,if_pos h2]
    rw [hrb] at hH hHl
    have hsl:=(hg.s2 h2).1
    simp (disch:=first|assumption|omega) only [go_sem,hc1,h2,←hF]
    refine (wtext_ok _ b s _ _ hW1 (by rw [List.length_append];omega)).mono ?_
    rintro v σ2 ⟨rfl,hW2⟩
    rw [List.append_assoc,hH] at hW2
    simp (disch:=first|assumption|omega) only [go_sem]
    refine fin c _ _ hcb hc0 hW2 ?_
    simp (disch:=first|assumption|omega) only [go_sem]
   by_cases h5:op=5
   ·have hrb:restB op m s a d kids.length=rfB a:=by unfold restB;rw [if_neg h134,if_neg h2,if_pos h5]
    rw [hrb] at hH hHl
    simp (disch:=first|assumption|omega) only [go_sem,hc1,h5,←hF]
    refine (putref_ok a (hg.ga (.inl h5)) _ b _ _ hW1 (by rw [List.length_append];omega)).mono ?_
    rintro v σ2 ⟨rfl,hW2⟩
    rw [List.append_assoc,hH] at hW2
    simp (disch:=first|assumption|omega) only [go_sem]
    refine fin c _ _ hcb hc0 hW2 ?_
    simp (disch:=first|assumption|omega) only [go_sem]
   by_cases h6:op=6
   ·have hrb:restB op m s a d kids.length=rfB a++rfB d:=by unfold restB;rw [if_neg h134,if_neg h2,if_neg h5,if_pos h6]
    rw [hrb] at hH hHl
    rw [List.length_append] at hHl
    simp (disch:=first|assumption|omega) only [go_sem,hc1,h6,←hF]
    refine (putref_ok a (hg.ga (.inr h6)) _ b _ _ hW1 (by rw [List.length_append];omega)).mono ?_
    rintro v σ2 ⟨rfl,hW2⟩
    have hc2:=hW2.role hcb
    simp (disch:=first|assumption|omega) only [go_sem,hc2]
    refine (putref_ok d (hg.gb h6) _ b _ _ hW2 (by rw [List.length_append,List.length_append];omega)).mono ?_
    rintro v σ3 ⟨rfl,hW3⟩
    rw [List.append_assoc,List.append_assoc,hH] at hW3
    simp (disch:=first|assumption|omega) only [go_sem]
    refine fin c _ _ hcb hc0 hW3 ?_
    simp (disch:=first|assumption|omega) only [go_sem]
   by_cases h22:op=22
   ·have hrb:restB op m s a d kids.length=textB s++uintB kids.length:=by unfold restB;rw [if_neg h134,if_neg h2,if_neg h5,if_neg h6,if_pos h22]
    rw [hrb] at hH hHl
    rw [List.length_append] at hHl
    have hsl:=(hg.s22 h22).1
    have e1:((kids.length:Int)).toNat=kids.length:=by omega
    simp (disch:=first|assumption|omega) only [go_sem,hc1,h22,←hF]
    refine (wtext_ok _ b s _ _ hW1 (by rw [List.length_append];omega)).mono ?_
    rintro v σ2 ⟨rfl,hW2⟩
    have hc2:=hW2.role hcb
    simp (disch:=first|assumption|omega) only [go_sem,hc2,hkm]
    refine (wuint_ok _ b kids.length _ _ hW2 (by omega) (by omega) (by rw [e1,List.length_append,List.length_append];omega)).mono ?_
    rintro v σ3 ⟨rfl,hW3⟩
    rw [e1,List.append_assoc,List.append_assoc,hH] at hW3
    simp (disch:=first|assumption|omega) only [go_sem]
    refine fin c _ _ hcb hc0 hW3 ?_
    simp (disch:=first|assumption|omega) only [go_sem]
   have hrb:restB op m s a d kids.length = []:=by unfold restB;rw [if_neg h134,if_neg h2,if_neg h5,if_neg h6,if_neg h22]
   rw [hrb,List.append_nil] at hH
   rw [hH] at hW1
   simp (disch:=first|assumption|omega) only [go_sem,hc1,g1,g3,g4,h2,h5,h6,h22,←hF]
   refine fin c _ _ hcb hc0 hW1 ?_
   simp (disch:=first|assumption|omega) only [go_sem]
theorem ewrite_ok (n:Nd) (hg:n.wd) (σ0:ASt) (b:Nat) (l:List UInt8) (σ:ASt) (hW:W σ0 b l σ) (hl:l.length+n.bytes.length<=9000000) :
  ACalls Tryz.prog 89 [.ptr b 0,n.av] σ fun v σ'=>v = .tuple []/\W σ0 b (l++n.bytes) σ':=ewrite_le n.size n (Nat.le_refl _) hg σ0 b l σ hW hl
end Go.A
end
