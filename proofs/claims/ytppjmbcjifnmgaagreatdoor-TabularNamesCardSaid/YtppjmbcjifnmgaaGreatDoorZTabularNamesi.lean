/- Part 9 of what TabularNames leans on: Nzc Nzd Nze Nzf Nzg Nzh Nzi Nzj CodeNzk Nzk CodeNzl Nzl CodeNzm Nzm CodeNzn Nzn CodeNzo Nzo. -/
import Derived.Test.YtppjmbcjifnmgaaGreatDoorProg
import Derived.KernelRfl
import Derived.Test.YtppjmbcjifnmgaaGreatDoorZTabularNamesh
set_option linter.defProp false
set_option linter.unusedSimpArgs false
set_option linter.unusedVariables false
set_option maxRecDepth 100000
namespace Go.A
open Go.Proofs
def cntL (l:List Nat) (k:Nat):Nat:=l.countP fun x=>decide (x<=k)
theorem cntL_nil (k:Nat):cntL [] k=0:=rfl
theorem cntL_cons (x:Nat) (l:List Nat) (k:Nat):cntL (x::l) k=cntL l k+(if x<=k then 1 else 0):=by
 unfold cntL
 rw [List.countP_cons]
 congr 1
 by_cases h:x<=k
 ·simp [h]
 ·simp [h]
theorem cntL_app (a b:List Nat) (k:Nat):cntL (a++b) k=cntL a k+cntL b k:=List.countP_append
theorem cntL_gt {l:List Nat} {k:Nat} (h:∀ x∈l,k<x):cntL l k=0:=by
 unfold cntL
 rw [List.countP_eq_zero]
 intro x hx
 have:=h x hx
 simp
 omega
theorem cntL_le (l:List Nat) (k:Nat):cntL l k<=l.length:=List.countP_le_length
theorem cntL_mono {l:List Nat} {a b:Nat} (h:a<=b):cntL l a<=cntL l b:=by
 induction l with
 | nil=>exact Nat.le_refl _
 | cons x l ih=>
   rw [cntL_cons,cntL_cons]
   split<;>split<;>omega
theorem kidI_cnt {l:List Nat} {k:Nat} (h:l.Pairwise (· < ·)):kidI l k=cntL l k:=by
 induction l with
 | nil=>rfl
 | cons x l ih=>
   rw [List.pairwise_cons] at h
   have ih:=ih h.2
   rw [cntL_cons]
   unfold kidI at ih ⊢
   rw [lowI_cons]
   by_cases hx:x<k
   ·rw [if_pos hx,List.getElem?_cons_succ,if_pos (show x<=k by omega)]
    split
    ·rename_i q;rw [if_pos q] at ih;omega
    ·rename_i q;rw [if_neg q] at ih;omega
   ·rw [if_neg hx]
    have h0:cntL l k=0:=cntL_gt fun y hy=>by have:=h.1 y hy;omega
    rw [h0]
    by_cases he:x=k
    ·subst he;simp
    ·rw [if_neg (by simp;exact he),if_neg (by omega)]
theorem cntL_split {l:List Nat} {k:Nat} (h:l.Pairwise (· < ·)):(∀ y∈l.take (cntL l k),y<=k)/\∀ y∈l.drop (cntL l k),k<y:=by
 induction l with
 | nil=>exact ⟨fun y hy=>by simp at hy,fun y hy=>by simp at hy⟩
 | cons x l ih=>
   rw [List.pairwise_cons] at h
   have ih:=ih h.2
   rw [cntL_cons]
   by_cases hx:x<=k
   ·rw [if_pos hx,List.take_succ_cons,List.drop_succ_cons]
    refine ⟨fun y hy=>?_,ih.2⟩
    rcases List.mem_cons.1 hy with rfl|hy
    ·exact hx
    ·exact ih.1 y hy
   ·rw [if_neg hx]
    have h0:cntL l k=0:=cntL_gt fun y hy=>by have:=h.1 y hy;omega
    rw [h0]
    refine ⟨fun y hy=>by simp at hy,fun y hy=>?_⟩
    rcases List.mem_cons.1 hy with rfl|hy
    ·omega
    ·have:=h.1 y hy;omega
theorem cntL_lt {l:List Nat} {k j x:Nat} (h:l.Pairwise (· < ·)) (hx:l[j]? = some x):x<=k↔j<cntL l k:=by
 have hs:=cntL_split (k:=k) h
 constructor
 ·intro hk
  refine Nat.lt_of_not_le fun hj=>?_
  have:x∈l.drop (cntL l k):=by
   refine List.mem_of_getElem? (i:=j-cntL l k) ?_
   rw [List.getElem?_drop,show cntL l k+(j-cntL l k)=j by omega]
   exact hx
  have:=hs.2 x this
  omega
 ·intro hj
  refine hs.1 x (List.mem_of_getElem? (i:=j) ?_)
  rw [List.getElem?_take,if_pos hj]
  exact hx
theorem cntL_ins {l:List Nat} {i x k:Nat}:cntL (insL l i x) k=cntL l k+if x<=k then 1 else 0:=by
 unfold insL
 rw [cntL_app,cntL_cons,← Nat.add_assoc,← cntL_app,List.take_append_drop]
theorem split_at {l:List Nat} {j x:Nat} (h:l[j]? = some x):l=l.take j++x::l.drop (j+1):=by
 obtain ⟨hj,rfl⟩:=List.getElem?_eq_some_iff.1 h
 rw [List.getElem_cons_drop,List.take_append_drop]
theorem cntL_del {l:List Nat} {j x k:Nat} (h:l[j]? = some x):cntL (delL l j) k+(if x<=k then 1 else 0)=cntL l k:=by
 rw [show cntL l k=cntL (l.take j++x::l.drop (j+1)) k by rw [<-split_at h]]
 unfold delL
 rw [cntL_app,cntL_app,cntL_cons]
 omega
theorem lset_app {l:List Nat} {j x:Nat} (h:j<l.length):l.set j x=l.take j++x::l.drop (j+1):=by
 rw [List.set_eq_take_append_cons_drop,if_pos h]
theorem cntL_set {l:List Nat} {j x y k:Nat} (h:l[j]? = some x):cntL (l.set j y) k=cntL (delL l j) k+if y<=k then 1 else 0:=by
 rw [lset_app (List.getElem?_eq_some_iff.1 h).1]
 unfold delL
 rw [cntL_app,cntL_app,cntL_cons]
 omega
theorem pair_ins {l:List Nat} {i x:Nat} (h:l.Pairwise (· < ·)) (h1:∀ y∈l.take i,y<x) (h2:∀ y∈l.drop i,x<y):(insL l i x).Pairwise (· < ·):=by
 unfold insL
 have hs:=h
 rw [<-List.take_append_drop i l,List.pairwise_append] at hs
 rw [List.pairwise_append,List.pairwise_cons]
 refine ⟨hs.1,⟨h2,hs.2.1⟩,fun a ha b hb=>?_⟩
 rcases List.mem_cons.1 hb with rfl|hb
 ·exact h1 a ha
 ·exact hs.2.2 a ha b hb
theorem pair_del {l:List Nat} {i:Nat} (h:l.Pairwise (· < ·)):(delL l i).Pairwise (· < ·):=by
 unfold delL
 refine h.sublist ?_
 have h1:List.Sublist (l.take i++l.drop (i+1)) (l.take i++l.drop i):=List.Sublist.append_left (by rw [<-List.drop_drop];exact List.drop_sublist 1 _) _
 rw [List.take_append_drop] at h1
 exact h1
theorem pair_app {a b:List Nat} {x:Nat} (ha:a.Pairwise (· < ·)) (hb:b.Pairwise (· < ·)) (h1:∀ y∈a,y<x) (h2:∀ y∈b,x<=y):(a++b).Pairwise (· < ·):=
 List.pairwise_append.2 ⟨ha,hb,fun y hy z hz=>Nat.lt_of_lt_of_le (h1 y hy) (h2 z hz)⟩
theorem low_mem {l:List Nat} {k:Nat} (h:l.Pairwise (· < ·)):k∈l↔l[lowI l k]? = some k:=by
 constructor
 ·intro hk
  obtain ⟨i,hi⟩:=List.mem_iff_getElem?.1 hk
  have h1:lowI l k<=i:=lowI_ge h hi (Nat.le_refl k)
  rcases Nat.lt_or_eq_of_le h1 with h2|h2
  ·exfalso
   have hil:=(List.getElem?_eq_some_iff.1 hi).1
   obtain ⟨x,hx⟩:∃ x,l[lowI l k]? = some x:=⟨_,List.getElem?_eq_getElem (by omega)⟩
   have hxk:x<k:=by
    obtain ⟨q1,q2⟩:=List.getElem?_eq_some_iff.1 hx
    obtain ⟨q3,q4⟩:=List.getElem?_eq_some_iff.1 hi
    have:=List.pairwise_iff_getElem.1 h _ _ q1 q3 h2
    omega
   have:=lowI_lt h hx hxk
   omega
  ·rw [h2];exact hi
 ·exact fun hk=>List.mem_of_getElem? hk
theorem low_split {l:List Nat} {k:Nat} (h:l.Pairwise (· < ·)):(∀ y∈l.take (lowI l k),y<k)/\∀ y∈l.drop (lowI l k),k<=y:=by
 induction l with
 | nil=>exact ⟨fun y hy=>by simp at hy,fun y hy=>by simp at hy⟩
 | cons x l ih=>
   rw [List.pairwise_cons] at h
   have ih:=ih h.2
   rw [lowI_cons]
   by_cases hx:x<k
   ·rw [if_pos hx,List.take_succ_cons,List.drop_succ_cons]
    refine ⟨fun y hy=>?_,ih.2⟩
    rcases List.mem_cons.1 hy with rfl|hy
    ·exact hx
    ·exact ih.1 y hy
   ·rw [if_neg hx]
    refine ⟨fun y hy=>by simp at hy,fun y hy=>?_⟩
    rcases List.mem_cons.1 hy with rfl|hy
    ·omega
    ·have:=h.1 y hy;omega
def lk:List Nat->List Nat->Nat->Option Nat
 | k::ks,v::vs,x=>if k=x then some v else lk ks vs x
 | _,_,_=>none
theorem lk_nil (vs:List Nat) (x:Nat):lk [] vs x=none:=by
 cases vs<;>rfl
theorem lk_cons (k v:Nat) (ks vs:List Nat) (x:Nat):lk (k::ks) (v::vs) x=if k=x then some v else lk ks vs x:=rfl
theorem lk_no:∀ {ks vs:List Nat} {x:Nat},x ∉ ks->lk ks vs x=none
 | [],vs,x,_=>lk_nil vs x
 | k::ks,[],x,_=>rfl
 | k::ks,v::vs,x,h=>by
   rw [lk_cons,if_neg (fun (e:k=x)=>h (by rw [e];exact List.mem_cons_self))]
   exact lk_no fun hx=>h (List.mem_cons_of_mem _ hx)
theorem lk_app:∀ {a c:List Nat} {b d:List Nat} {x:Nat},a.length=c.length->lk (a++b) (c++d) x=(lk a c x).or (lk b d x)
 | [],[],b,d,x,_=>by rw [lk_nil];rfl
 | k::a,v::c,b,d,x,h=>by
   rw [List.cons_append,List.cons_append,lk_cons,lk_cons]
   split
   ·rfl
   ·exact lk_app (Nat.succ.inj h)
theorem lk_at:∀ {ks vs:List Nat} {i x v:Nat},ks.Pairwise (· < ·)->ks[i]? = some x->vs[i]? = some v->lk ks vs x=some v
 | [],vs,i,x,v,_,h,_=>by simp at h
 | k::ks,[],i,x,v,_,_,h=>by simp at h
 | k::ks,w::vs,0,x,v,hp,h1,h2=>by
   simp at h1 h2
   subst h1;subst h2
   rw [lk_cons,if_pos rfl]
 | k::ks,w::vs,i+1,x,v,hp,h1,h2=>by
   have h1:ks[i]? = some x:=h1
   have h2:vs[i]? = some v:=h2
   rw [List.pairwise_cons] at hp
   have:=hp.1 x (List.mem_of_getElem? h1)
   rw [lk_cons,if_neg (by omega)]
   exact lk_at hp.2 h1 h2
theorem lk_mem:∀ {ks vs:List Nat} {x v:Nat},lk ks vs x=some v->x∈ks
 | [],vs,x,v,h=>by rw [lk_nil] at h;cases h
 | k::ks,[],x,v,h=>by cases h
 | k::ks,w::vs,x,v,h=>by
   rw [lk_cons] at h
   split at h
   ·rename_i e;rw [e];exact List.mem_cons_self
   ·exact List.mem_cons_of_mem _ (lk_mem h)
theorem lk_some {ks vs:List Nat} {x:Nat} (hv:vs.length=ks.length) (h:x∈ks):∃ v,lk ks vs x=some v:=by
 induction ks generalizing vs with
 | nil=>simp at h
 | cons k ks ih=>
   cases vs with
   | nil=>simp at hv
   | cons v vs=>
     rw [lk_cons]
     by_cases e:k=x
     ·exact ⟨v,if_pos e⟩
     ·rw [if_neg e]
      rcases List.mem_cons.1 h with rfl|h
      ·exact absurd rfl e
      ·exact ih (Nat.succ.inj hv) h
section
variable {ks vs:List Nat} {i k v:Nat}
theorem lk_ins (hv:vs.length=ks.length) (hi:i<=ks.length) (hk:k ∉ ks) (x:Nat):lk (insL ks i k) (insL vs i v) x=if x=k then some v else lk ks vs x:=by
 have hl:(ks.take i).length=(vs.take i).length:=by rw [List.length_take,List.length_take];omega
 have h0:lk ks vs x=(lk (ks.take i) (vs.take i) x).or (lk (ks.drop i) (vs.drop i) x):=by
  rw [<-lk_app hl,List.take_append_drop,List.take_append_drop]
 unfold insL
 rw [lk_app hl,lk_cons]
 by_cases e:x=k
 ·subst e
  rw [if_pos rfl,if_pos rfl,lk_no fun h=>hk (List.mem_of_mem_take h)]
  rfl
 ·rw [if_neg (Ne.symm e),if_neg e,h0]
theorem lk_put (hp:ks.Pairwise (· < ·)) (hv:vs.length=ks.length) (hk:ks[i]? = some k) (x:Nat):lk ks (vs.set i v) x=if x=k then some v else lk ks vs x:=by
 have hi:=(List.getElem?_eq_some_iff.1 hk).1
 have hl:(ks.take i).length=(vs.take i).length:=by rw [List.length_take,List.length_take];omega
 have hs:=split_at hk
 obtain ⟨w,hw⟩:∃ w,vs[i]? = some w:=⟨_,List.getElem?_eq_getElem (by omega)⟩
 have hsv:=split_at hw
 by_cases e:x=k
 ·subst e
  rw [if_pos rfl]
  exact lk_at hp hk (by rw [List.getElem?_set_self (by omega)])
 ·rw [if_neg e,lset_app (by omega)]
  have h1:lk ks vs x=lk (ks.take i++k::ks.drop (i+1)) (vs.take i++w::vs.drop (i+1)) x:=by rw [<-hs,← hsv]
  have h2:lk ks (vs.take i++v::vs.drop (i+1)) x=lk (ks.take i++k::ks.drop (i+1)) (vs.take i++v::vs.drop (i+1)) x:=by rw [<-hs]
  rw [h1,h2,lk_app hl,lk_app hl,lk_cons,lk_cons,if_neg (Ne.symm e),if_neg (Ne.symm e)]
theorem lk_del (hp:ks.Pairwise (· < ·)) (hv:vs.length=ks.length) (hk:ks[i]? = some k) (x:Nat):lk (delL ks i) (delL vs i) x=if x=k then none else lk ks vs x:=by
 have hi:=(List.getElem?_eq_some_iff.1 hk).1
 have hl:(ks.take i).length=(vs.take i).length:=by rw [List.length_take,List.length_take];omega
 have hs:=split_at hk
 obtain ⟨w,hw⟩:∃ w,vs[i]? = some w:=⟨_,List.getElem?_eq_getElem (by omega)⟩
 have hsv:=split_at hw
 by_cases e:x=k
 ·subst e
  rw [if_pos rfl]
  refine lk_no fun hx=>?_
  rw [hs,List.pairwise_append,List.pairwise_cons] at hp
  unfold delL at hx
  rcases List.mem_append.1 hx with hx|hx
  ·have:=hp.2.2 x hx x List.mem_cons_self;omega
  ·have:=hp.2.1.1 x hx;omega
 ·rw [if_neg e]
  have h1:lk ks vs x=lk (ks.take i++k::ks.drop (i+1)) (vs.take i++w::vs.drop (i+1)) x:=by rw [<-hs,← hsv]
  unfold delL
  rw [h1,lk_app hl,lk_app hl,lk_cons,if_neg (Ne.symm e)]
theorem sub_len:∀ {S l:List Nat},S.Nodup->(∀ y∈S,y∈l)->S.length<=l.length
 | [],l,_,_=>Nat.zero_le _
 | y::S,l,hn,hs=>by
   rw [List.nodup_cons] at hn
   have hy:=hs y List.mem_cons_self
   have h1:=sub_len (l:=l.erase y) hn.2 fun z hz=>by
    have hne:z≠y:=fun e=>hn.1 (e▸hz)
    exact (List.mem_erase_of_ne hne).2 (hs z (List.mem_cons_of_mem _ hz))
   rw [List.length_erase_of_mem hy] at h1
   have:=List.length_pos_of_mem hy
   rw [List.length_cons]
   omega
end
end Go.A
namespace Go.A
open Go.Proofs
section
variable {α:Type}
def insG (l:List α) (i:Nat) (x:α):List α:=l.take i++x::l.drop i
def delG (l:List α) (i:Nat):List α:=l.take i++l.drop (i+1)
theorem insG_get {l:List α} {i:Nat} {x:α} (h:i<=l.length) (j:Nat):(insG l i x)[j]? = if j<i then l[j]? else if j=i then some x else l[j-1]? := by
 have hl:(l.take i).length=i:=by rw [List.length_take];omega
 unfold insG
 rw [List.getElem?_append,hl]
 by_cases h1:j<i
 ·rw [if_pos h1,if_pos h1,List.getElem?_take,if_pos h1]
 ·rw [if_neg h1,if_neg h1]
  by_cases h2:j=i
  ·subst h2;rw [if_pos rfl,Nat.sub_self];rfl
  ·rw [if_neg h2,show j-i=(j-i-1)+1 by omega,List.getElem?_cons_succ,List.getElem?_drop]
   congr 1
   omega
theorem delG_get {l:List α} {i:Nat} (h:i<l.length) (j:Nat):(delG l i)[j]? = if j<i then l[j]? else l[j+1]? := by
 have hl:(l.take i).length=i:=by rw [List.length_take];omega
 unfold delG
 rw [List.getElem?_append,hl]
 by_cases h1:j<i
 ·rw [if_pos h1,if_pos h1,List.getElem?_take,if_pos h1]
 ·rw [if_neg h1,if_neg h1,List.getElem?_drop]
  congr 1
  omega
theorem insG_len {l:List α} {i:Nat} {x:α} (h:i<=l.length):(insG l i x).length=l.length+1:=by
 unfold insG
 rw [List.length_append,List.length_cons,List.length_take,List.length_drop]
 omega
theorem delG_len {l:List α} {i:Nat} (h:i<l.length):(delG l i).length=l.length-1:=by
 unfold delG
 rw [List.length_append,List.length_take,List.length_drop]
 omega
theorem set_get (l:List α) (i:Nat) (x:α) (j:Nat) (h:i<l.length):(l.set i x)[j]? = if j=i then some x else l[j]? := by
 by_cases e:j=i
 ·subst e;rw [if_pos rfl,List.getElem?_set_self h]
 ·rw [if_neg e,List.getElem?_set_ne (Ne.symm e)]
end
theorem insL_G (l:List Nat) (i x:Nat):insL l i x=insG l i x:=rfl
theorem delL_G (l:List Nat) (i:Nat):delL l i=delG l i:=rfl
theorem nodup_inj {l:List Nat} {i j c:Nat} (h:l.Nodup) (hi:l[i]? = some c) (hj:l[j]? = some c):i=j:=by
 obtain ⟨a1,a2⟩:=List.getElem?_eq_some_iff.1 hi
 obtain ⟨b1,b2⟩:=List.getElem?_eq_some_iff.1 hj
 rcases Nat.lt_trichotomy i j with h1|h1|h1
 ·exact absurd (a2.trans b2.symm) (List.pairwise_iff_getElem.1 h _ _ a1 b1 h1)
 ·exact h1
 ·exact absurd (b2.trans a2.symm) (List.pairwise_iff_getElem.1 h _ _ b1 a1 h1)
theorem nodup_of {l:List Nat} (h:∀ (i j c:Nat),l[i]? = some c->l[j]? = some c->i=j):l.Nodup:=by
 refine List.pairwise_iff_getElem.2 fun i j hi hj hij e=>?_
 have:=h i j l[i] (List.getElem?_eq_getElem hi) (by rw [List.getElem?_eq_getElem hj,e])
 omega
theorem nodup_ins {l:List Nat} {i x:Nat} (h:l.Nodup) (hx:x ∉ l) (hi:i<=l.length):(insL l i x).Nodup:=by
 refine nodup_of fun a b c ha hb=>?_
 rw [insL_G,insG_get hi] at ha hb
 have hno:∀ {j:Nat},l[j]? = some x->False:=fun hj=>hx (List.mem_of_getElem? hj)
 split at ha<;>split at hb
 ·exact nodup_inj h ha hb
 ·split at hb
  ·injection hb with hb;subst hb;exact absurd ha hno
  ·have:=nodup_inj h ha hb;omega
 ·split at ha
  ·injection ha with ha;subst ha;exact absurd hb hno
  ·have:=nodup_inj h ha hb;omega
 ·split at ha<;>split at hb
  ·omega
  ·injection ha with ha;subst ha;exact absurd hb hno
  ·injection hb with hb;subst hb;exact absurd ha hno
  ·have:=nodup_inj h ha hb;omega
theorem nodup_del {l:List Nat} {i:Nat} (h:l.Nodup) (hi:i<l.length):(delL l i).Nodup:=by
 refine nodup_of fun a b c ha hb=>?_
 rw [delL_G,delG_get hi] at ha hb
 split at ha<;>split at hb<;>have:=nodup_inj h ha hb<;>omega
abbrev Lf:=List Nat×List Nat
structure Two (pg:Pgs) (root:Nat) (seps ds:List Nat) (Ls:List Lf):Prop where
 rt:∃ b,pg root=some b/\TInner b seps ds
 sp:seps.Pairwise (· < ·)
 n:Ls.length=ds.length
 lf:∀ (i c:Nat) (L:Lf),ds[i]? = some c->Ls[i]? = some L->∃ b,pg c=some b/\TLeaf b L.1 L.2
 so:∀ (i:Nat) (L:Lf),Ls[i]? = some L->L.1.Pairwise (· < ·)/\15<=L.1.length
 wh:∀ (i:Nat) (L:Lf) (k:Nat),Ls[i]? = some L->k∈L.1->cntL seps k=i
 nd:ds.Nodup
 rn:root ∉ ds
def twoG (seps:List Nat) (Ls:List Lf) (k:Nat):Option Nat:=(Ls[cntL seps k]?).bind fun L=>lk L.1 L.2 k
section
variable {pg:Pgs} {root i j c c2 q mid:Nat} {seps ds:List Nat} {Ls:List Lf} {L L2 A B:Lf} {b b1 b2 b3:List UInt8}
theorem Two.len (h:Two pg root seps ds Ls):ds.length=seps.length+1:=by
 obtain ⟨b,_,hb⟩:=h.rt
 exact hb.n
theorem Two.rne (h:Two pg root seps ds Ls) (hc:ds[i]? = some c):root≠c:=fun e=>h.rn (e▸List.mem_of_getElem? hc)
theorem twoG_at (hL:Ls[i]? = some L) {k:Nat} (hk:cntL seps k=i):twoG seps Ls k=lk L.1 L.2 k:=by
 unfold twoG
 rw [hk,hL]
 rfl
theorem Two.put (h:Two pg root seps ds Ls) (hc:ds[i]? = some c) (hb:TLeaf b A.1 A.2) (ho:A.1.Pairwise (· < ·)) (h15:15<=A.1.length) (hw:∀ k∈A.1,cntL seps k=i):Two (pset pg c (some b)) root seps ds (Ls.set i A):=by
 have hil:=(List.getElem?_eq_some_iff.1 hc).1
 have hi:i<Ls.length:=by rw [h.n];exact hil
 obtain ⟨br,r1,r2⟩:=h.rt
 refine ⟨⟨br,by rw [pset_ne (h.rne hc)];exact r1,r2⟩,h.sp,by rw [List.length_set];exact h.n,fun j d M hd hM=>?_,fun j M hM=>?_,fun j M k hM hk=>?_,h.nd,h.rn⟩
 ·rw [set_get _ _ _ _ hi] at hM
  split at hM
  ·rename_i e;subst e
   rw [hc] at hd
   injection hd with hd;subst hd
   injection hM with hM;subst hM
   exact ⟨b,pset_same _ _ _,hb⟩
  ·rename_i e
   rw [pset_ne (fun (e2:d=c)=>e (nodup_inj h.nd hd (by rw [e2];exact hc)))]
   exact h.lf j d M hd hM
 ·rw [set_get _ _ _ _ hi] at hM
  split at hM
  ·injection hM with hM;subst hM;exact ⟨ho,h15⟩
  ·exact h.so j M hM
 ·rw [set_get _ _ _ _ hi] at hM
  split at hM
  ·rename_i e;injection hM with hM;subst hM;rw [e];exact hw k hk
  ·exact h.wh j M k hM hk
theorem twoG_put (hi:i<Ls.length) (k:Nat):twoG seps (Ls.set i A) k=if cntL seps k=i then lk A.1 A.2 k else twoG seps Ls k:=by
 unfold twoG
 rw [set_get _ _ _ _ hi]
 split<;>rfl
theorem Two.split (h:Two pg root seps ds Ls) (hc:ds[i]? = some c) (hq:pg q=none) (hA:TLeaf b1 A.1 A.2) (hB:TLeaf b2 B.1 B.2) (hr:TInner b3 (insL seps i mid) (insL ds (i+1) q)) (oA:A.1.Pairwise (· < ·)) (oB:B.1.Pairwise (· < ·)) (nA:15<=A.1.length) (nB:15<=B.1.length)
  (wA:∀ k∈A.1,cntL seps k=i/\k<mid) (wB:∀ k∈B.1,cntL seps k=i/\mid<=k) (hm:cntL seps mid=i) :
  Two (pset (pset (pset pg c (some b1)) q (some b2)) root (some b3)) root (insL seps i mid) (insL ds (i+1) q) (insG (Ls.set i A) (i+1) B) ∧
   ∀ k,twoG (insL seps i mid) (insG (Ls.set i A) (i+1) B) k=if cntL seps k=i then (if mid<=k then lk B.1 B.2 k else lk A.1 A.2 k) else twoG seps Ls k:=by
 have hil:=(List.getElem?_eq_some_iff.1 hc).1
 have hi:i<Ls.length:=by rw [h.n];exact hil
 obtain ⟨br,r1,r2⟩:=h.rt
 have hlen:=h.len
 have hqd:q ∉ ds:=fun hm=>by
  obtain ⟨j,hj⟩:=List.mem_iff_getElem?.1 hm
  have hjl:=(List.getElem?_eq_some_iff.1 hj).1
  obtain ⟨M,hM⟩:∃ M,Ls[j]? = some M:=⟨_,List.getElem?_eq_getElem (by rw [h.n];exact hjl)⟩
  obtain ⟨b,e,_⟩:=h.lf j q M hj hM
  rw [hq] at e;cases e
 have hqr:q≠root:=fun e=>by rw [<-e,hq] at r1;cases r1
 have hsl:(Ls.set i A).length=Ls.length:=List.length_set
 have gd:∀ j,(insL ds (i+1) q)[j]? = if j<i+1 then ds[j]? else if j=i+1 then some q else ds[j-1]? := fun j=>insG_get (by omega) j
 have gL:∀ j,(insG (Ls.set i A) (i+1) B)[j]? = if j<i then Ls[j]? else if j=i then some A else if j=i+1 then some B else Ls[j-1]? := fun j=>by
  rw [insG_get (by omega) j,set_get _ _ _ _ hi,set_get _ _ _ _ hi]
  by_cases h1:j<i
  ·rw [if_pos (by omega),if_neg (by omega),if_pos h1]
  ·rw [if_neg h1]
   by_cases h2:j=i
   ·rw [if_pos (by omega),if_pos h2,if_pos h2]
   ·rw [if_neg (by omega),if_neg h2]
    by_cases h3:j=i+1
    ·rw [if_pos h3,if_pos h3]
    ·rw [if_neg h3,if_neg h3,if_neg (by omega)]
 have hdc:∀ {j d:Nat},ds[j]? = some d->j≠i->d≠c:=fun {j d} hd hj e=>hj (nodup_inj h.nd hd (by rw [e];exact hc))
 have hdq:∀ {j d:Nat},ds[j]? = some d->d≠q:=fun hd e=>hqd (e▸List.mem_of_getElem? hd)
 have hcq:c≠q:=hdq hc
 have hs:=cntL_split (k:=mid) h.sp
 rw [hm] at hs
 have low:∀ k,cntL seps k<i->¬ mid<=k:=fun k hk he=>by have:=cntL_mono (l:=seps) he;omega
 have high:∀ k,i<cntL seps k->mid<=k:=fun k hk=>Nat.le_of_not_lt fun he=>by have:=cntL_mono (l:=seps) (Nat.le_of_lt he);omega
 refine ⟨⟨⟨b3,pset_same _ _ _,hr⟩,?_,?_,fun j d M hd hM=>?_,fun j M hM=>?_,fun j M k hM hk=>?_,nodup_ins h.nd hqd (by omega),fun hx=>?_⟩,fun k=>?_⟩
 ·refine pair_ins h.sp (fun y hy=>?_) hs.2
  obtain ⟨a, ha⟩ : ∃ a, a ∈ A.1 := ⟨A.1[0]'(by omega), List.getElem_mem _⟩
  have hsa:=cntL_split (k:=a) h.sp
  rw [(wA a ha).1] at hsa
  have:=hsa.1 y hy
  have:=(wA a ha).2
  omega
 ·rw [insG_len (by omega),hsl,insL_len (by omega),h.n]
 ·rw [gd] at hd
  rw [gL] at hM
  by_cases h1:j<i
  ·rw [if_pos (by omega)] at hd
   rw [if_pos h1] at hM
   rw [pset_ne (Ne.symm (h.rne hd)),pset_ne (hdq hd),pset_ne (hdc hd (by omega))]
   exact h.lf j d M hd hM
  rw [if_neg h1] at hM
  by_cases h2:j=i
  ·subst h2
   rw [if_pos (by omega),hc] at hd
   injection hd with hd;subst hd
   rw [if_pos rfl] at hM
   injection hM with hM;subst hM
   exact ⟨b1,by rw [pset_ne (Ne.symm (h.rne hc)),pset_ne hcq,pset_same],hA⟩
  rw [if_neg h2] at hM
  rw [if_neg (by omega)] at hd
  by_cases h3:j=i+1
  ·rw [if_pos h3] at hd hM
   injection hd with hd;subst hd
   injection hM with hM;subst hM
   exact ⟨b2,by rw [pset_ne hqr,pset_same],hB⟩
  rw [if_neg h3] at hd hM
  rw [pset_ne (Ne.symm (h.rne hd)),pset_ne (hdq hd),pset_ne (hdc hd (by omega))]
  exact h.lf _ d M hd hM
 ·rw [gL] at hM
  split at hM
  ·exact h.so j M hM
  split at hM
  ·injection hM with hM;subst hM;exact ⟨oA,nA⟩
  split at hM
  ·injection hM with hM;subst hM;exact ⟨oB,nB⟩
  ·exact h.so _ M hM
 ·rw [cntL_ins]
  rw [gL] at hM
  split at hM
  ·have:=h.wh j M k hM hk
   rw [if_neg (low k (by omega))];omega
  split at hM
  ·injection hM with hM;subst hM
   have:=wA k hk
   rw [if_neg (by omega)];omega
  split at hM
  ·injection hM with hM;subst hM
   have:=wB k hk
   rw [if_pos this.2];omega
  ·have:=h.wh _ M k hM hk
   rw [if_pos (high k (by omega))];omega
 ·obtain ⟨j,hj⟩:=List.mem_iff_getElem?.1 hx
  rw [gd] at hj
  split at hj
  ·exact h.rn (List.mem_of_getElem? hj)
  split at hj
  ·injection hj with hj;exact hqr hj
  ·exact h.rn (List.mem_of_getElem? hj)
 ·unfold twoG
  rw [cntL_ins,gL]
  by_cases e:cntL seps k=i
  ·rw [if_pos e,e]
   by_cases hk:mid<=k
   ·rw [if_pos hk,if_pos hk,if_neg (by omega),if_neg (by omega),if_pos rfl];rfl
   ·rw [if_neg hk,if_neg hk,if_neg (by omega),if_pos (by omega)];rfl
  ·rw [if_neg e]
   by_cases hlt:cntL seps k<i
   ·rw [if_neg (low k hlt),Nat.add_zero,if_pos hlt]
   ·rw [if_pos (high k (by omega)),if_neg (by omega),if_neg (by omega),if_neg (by omega),Nat.add_sub_cancel]
end
end Go.A
namespace Go.A
open Go.Proofs
theorem pair_gap {l:List Nat} (h:l.Pairwise (· < ·)):∀ {d i a b:Nat},l[i]? = some a->l[i+d]? = some b->a+d<=b
 | 0,i,a,b,ha,hb=>by rw [Nat.add_zero,ha] at hb;injection hb with hb;omega
 | d+1,i,a,b,ha,hb=>by
   have hbl:=(List.getElem?_eq_some_iff.1 hb).1
   obtain ⟨x,hx⟩:∃ x,l[i+d]? = some x:=⟨_,List.getElem?_eq_getElem (by omega)⟩
   have h1:=pair_gap h ha hx
   obtain ⟨p1,p2⟩:=List.getElem?_eq_some_iff.1 hx
   obtain ⟨q1,q2⟩:=List.getElem?_eq_some_iff.1 hb
   have:=List.pairwise_iff_getElem.1 h _ _ p1 q1 (by omega)
   omega
section
variable {pg:Pgs} {root i j c c2 q mid:Nat} {seps ds:List Nat} {Ls:List Lf} {L L2 A B:Lf} {b b1 b2 b3:List UInt8}
theorem Two.wide (h:Two pg root seps ds Ls) (hL:Ls[i]? = some L):∃ a z,a∈L.1/\z∈L.1/\a+14<=z:=by
 obtain ⟨h1,h2⟩:=h.so i L hL
 have ha : L.1[0]? = some (L.1[0]'(by omega)) := List.getElem?_eq_getElem _
 have hz : L.1[0 + 14]? = some (L.1[0 + 14]'(by omega)) := List.getElem?_eq_getElem _
 exact ⟨_,_,List.mem_of_getElem? ha,List.mem_of_getElem? hz,pair_gap h1 ha hz⟩
theorem Two.far (h:Two pg root seps ds Ls):∀ {j s:Nat},seps[j]? = some s->15*(j+1)<=s
 | j,s,hs=>by
   have hjl:=(List.getElem?_eq_some_iff.1 hs).1
   have hlen:=h.len
   obtain ⟨L,hL⟩:∃ L,Ls[j]? = some L:=⟨_,List.getElem?_eq_getElem (by rw [h.n];omega)⟩
   obtain ⟨a,z,ha,hz,haz⟩:=h.wide hL
   have wa:=h.wh j L a hL ha
   have wz:=h.wh j L z hL hz
   have h1:¬ s<=z:=fun e=>by have:=(cntL_lt h.sp hs).1 e;omega
   cases j with
   | zero=>omega
   | succ j=>
     obtain ⟨s',hs'⟩:∃ s',seps[j]? = some s':=⟨_,List.getElem?_eq_getElem (by omega)⟩
     have:=h.far hs'
     have:=(cntL_lt (k:=a) h.sp hs').2 (by omega)
     omega
theorem Two.few (h:Two pg root seps ds Ls) (hk:∀ (i:Nat) (L:Lf) (k:Nat),Ls[i]? = some L->k∈L.1->k<60):seps.length<=3:=by
 refine Nat.le_of_not_lt fun hc=>?_
 have hlen:=h.len
 obtain ⟨L,hL⟩:∃ L,Ls[seps.length]? = some L:=⟨_,List.getElem?_eq_getElem (by rw [h.n];omega)⟩
 obtain ⟨a,z,ha,hz,haz⟩:=h.wide hL
 have wa:=h.wh _ L a hL ha
 have:=hk _ L z hL hz
 obtain ⟨s,hs⟩:∃ s,seps[seps.length-1]? = some s:=⟨_,List.getElem?_eq_getElem (by omega)⟩
 have:=h.far hs
 have:=(cntL_lt (k:=a) h.sp hs).2 (by omega)
 omega
end
def TrAt (pg:Pgs) (root:Nat) (T:Nat->Prop) (M:Nat->Option Nat):Prop:=
 (∃ b ks vs,pg root=some b/\TLeaf b ks vs/\ks.Pairwise (· < ·)/\(∀ q,T q↔q=root)/\∀ k,M k=lk ks vs k) ∨
 ∃ seps ds Ls,Two pg root seps ds Ls/\(∀ q,T q↔q=root\/q∈ds)/\∀ k,M k=twoG seps Ls k
def Fr (T:Nat->Prop) (pg:Pgs) (T':Nat->Prop) (pg':Pgs):Prop:=∀ q,¬ T q->pg q≠none->¬ T' q/\pg' q=pg q
theorem Fr.refl (T:Nat->Prop) (pg:Pgs):Fr T pg T pg:=fun q h _=>⟨h,rfl⟩
theorem Fr.trans {T T' T'':Nat->Prop} {pg pg' pg'':Pgs} (h:Fr T pg T' pg') (k:Fr T' pg' T'' pg''):Fr T pg T'' pg'':=fun q hq hn=>by
 obtain ⟨h1,h2⟩:=h q hq hn
 obtain ⟨k1,k2⟩:=k q h1 (by rw [h2];exact hn)
 exact ⟨k1,k2.trans h2⟩
def upM (M:Nat->Option Nat) (k:Nat) (v:Option Nat):Nat->Option Nat:=fun x=>if x=k then v else M x
section
variable {base σ σ':ASt} {p k t root:Nat} {m:Int} {pg:Pgs} {T:Nat->Prop} {M:Nat->Option Nat} {seps ds:List Nat} {Ls:List Lf}
theorem lk_get {ks vs:List Nat} (hv:vs.length=ks.length) (hp:ks.Pairwise (· < ·)) (key:Nat):(∃ v,lk ks vs key=some v/\ks[lowI ks key]? = some key/\vs[lowI ks key]? = some v)\/lk ks vs key=none/\ks[lowI ks key]? ≠ some key:=by
 by_cases h:key∈ks
 ·have h1:=(low_mem hp).1 h
  have hl:=(List.getElem?_eq_some_iff.1 h1).1
  obtain ⟨v,hv2⟩:∃ v,vs[lowI ks key]? = some v:=⟨_,List.getElem?_eq_getElem (by omega)⟩
  exact .inl ⟨v,lk_at hp h1 hv2,h1,hv2⟩
 ·exact .inr ⟨lk_no h,fun e=>h ((low_mem hp).2 e)⟩
theorem Two.at (h:Two pg root seps ds Ls) (key:Nat):∃ c L b,ds[cntL seps key]? = some c/\Ls[cntL seps key]? = some L/\pg c=some b/\TLeaf b L.1 L.2/\twoG seps Ls key=lk L.1 L.2 key:=by
 have hl:=h.len
 have:=cntL_le seps key
 obtain ⟨c,hc⟩:∃ c,ds[cntL seps key]? = some c:=⟨_,List.getElem?_eq_getElem (by omega)⟩
 obtain ⟨L,hL⟩:∃ L,Ls[cntL seps key]? = some L:=⟨_,List.getElem?_eq_getElem (by rw [h.n];omega)⟩
 obtain ⟨b,h1,h2⟩:=h.lf _ c L hc hL
 exact ⟨c,L,b,hc,hL,h1,h2,twoG_at hL rfl⟩
theorem trget_at (h:PoolAt base σ p m k pg) (ht:base t=some (.obj [.ptr p 0,.int .i64 root])) (hT:TrAt pg root T M) (key:Nat) :
  ACalls Tryz.prog 28 [.ptr t 0,.int .u64 key] σ fun r σ'=>r = .tuple [.int .u64 ((M key).getD 0),.bool (M key).isSome,.int .i64 0]/\PoolAt base σ' p m k pg:=by
 have fin:∀ {ks vs:List Nat} {b:List UInt8} {D:Nat} {P:Nat->Nat},D<=10->P 0=root->(∀ i,i<D->∃ b ks ds,pg (P i)=some b/\TInner b ks ds/\ks.Pairwise (· < ·)/\ds[kidI ks key]? = some (P (i+1)))->pg (P D)=some b->TLeaf b ks vs->ks.Pairwise (· < ·)->M key=lk ks vs key →
   ACalls Tryz.prog 28 [.ptr t 0,.int .u64 key] σ fun r σ'=>r = .tuple [.int .u64 ((M key).getD 0),.bool (M key).isSome,.int .i64 0]/\PoolAt base σ' p m k pg:=fun {ks vs b D P} hD hP hin hq hl hs hM=>by
  rw [hM]
  rcases lk_get hl.n hs key with ⟨v,h1,h2,h3⟩|⟨h1,h2⟩
  ·rw [h1]
   exact trget_ok h ht hD hP hin hq hl hs (v:=v) (fd:=true) (.inl ⟨rfl,h2,h3⟩)
  ·rw [h1]
   exact trget_ok h ht hD hP hin hq hl hs (v:=0) (fd:=false) (.inr ⟨rfl,h2,rfl⟩)
 rcases hT with ⟨b,ks,vs,h1,h2,h3,h4,h5⟩|⟨seps,ds,Ls,h1,h2,h3⟩
 ·exact fin (D:=0) (P:=fun _=>root) (by omega) rfl (fun i hi=>absurd hi (Nat.not_lt_zero _)) h1 h2 h3 (h5 key)
 ·obtain ⟨c,L,b,hc,hL,hb,hl,hg⟩:=h1.at key
  obtain ⟨br,r1,r2⟩:=h1.rt
  refine fin (D:=1) (P:=fun i=>if i=0 then root else c) (by omega) rfl (fun i hi=>?_) hb hl (h1.so _ L hL).1 ((h3 key).trans hg)
  obtain rfl:i=0:=by omega
  exact ⟨br,seps,ds,r1,r2,h1.sp,by rw [kidI_cnt h1.sp];exact hc⟩
end
end Go.A
namespace Go.A
open Go.Proofs
theorem mem_ins {l:List Nat} {i x y:Nat}:y∈insL l i x↔y=x\/y∈l:=by
 unfold insL
 rw [List.mem_append,List.mem_cons]
 constructor
 ·rintro (h|h|h)
  ·exact .inr (List.mem_of_mem_take h)
  ·exact .inl h
  ·exact .inr (List.mem_of_mem_drop h)
 ·rintro (h|h)
  ·exact .inr (.inl h)
  ·rw [<-List.take_append_drop i l,List.mem_append] at h
   exact h.imp id .inr
def PutQ (k:Nat) (pg:Pgs) (root:Nat) (T:Nat->Prop) (M:Nat->Option Nat) (key v:Nat) (k':Nat) (pg':Pgs):Prop:=k'<=k+2/\∃ T',TrAt pg' root T' (upM M key (some v))/\Fr T pg T' pg'
theorem pair_insL {ks:List Nat} {key:Nat} (hp:ks.Pairwise (· < ·)) (hn:key ∉ ks):(insL ks (lowI ks key) key).Pairwise (· < ·):=by
 obtain ⟨h1,h2⟩:=low_split (k:=key) hp
 refine pair_ins hp h1 fun y hy=>?_
 have:=h2 y hy
 have:y≠key:=fun e=>hn (e▸List.mem_of_mem_drop hy)
 omega
theorem halves {l:List Nat} {h mid:Nat} (hp:l.Pairwise (· < ·)) (hm:l[h]? = some mid):(l.take h).Pairwise (· < ·)/\(l.drop h).Pairwise (· < ·)/\(∀ y∈l.take h,y<mid)/\∀ y∈l.drop h,mid<=y:=by
 have hs:=split_at hm
 have hp2:=hp
 rw [hs,List.pairwise_append,List.pairwise_cons] at hp2
 have hd:l.drop h=mid::l.drop (h+1):=by
  obtain ⟨q1,q2⟩:=List.getElem?_eq_some_iff.1 hm
  rw [<-q2]
  exact (List.getElem_cons_drop ..).symm
 refine ⟨hp2.1,by rw [hd];exact List.pairwise_cons.2 hp2.2.1,fun y hy=>hp2.2.2 y hy mid List.mem_cons_self,fun y hy=>?_⟩
 rw [hd] at hy
 rcases List.mem_cons.1 hy with rfl|hy
 ·exact Nat.le_refl _
 ·exact Nat.le_of_lt (hp2.2.1.1 y hy)
theorem lk_halves {ks vs:List Nat} {h mid:Nat} (hp:ks.Pairwise (· < ·)) (hv:vs.length=ks.length) (hm:ks[h]? = some mid) (k:Nat):lk ks vs k=if mid<=k then lk (ks.drop h) (vs.drop h) k else lk (ks.take h) (vs.take h) k:=by
 obtain ⟨_,_,h1,h2⟩:=halves hp hm
 have h0:lk ks vs k=(lk (ks.take h) (vs.take h) k).or (lk (ks.drop h) (vs.drop h) k):=by
  rw [<-lk_app (by rw [List.length_take,List.length_take];omega),List.take_append_drop,List.take_append_drop]
 rw [h0]
 split
 ·rw [lk_no (ks:=ks.take h) fun hx=>by have:=h1 k hx;omega];rfl
 ·rw [lk_no (ks:=ks.drop h) fun hx=>by have:=h2 k hx;omega]
  exact Option.or_none
section
variable {base σ σ':ASt} {p k t root:Nat} {m:Int} {pg:Pgs} {T:Nat->Prop} {M:Nat->Option Nat} {seps ds:List Nat} {Ls:List Lf}
theorem two_new {pg:Pgs} {root q1 q mid:Nat} {A B:Lf} {b1 b2 b3:List UInt8} (h1:pg q1=some b1) (h2:pg q=some b2) (h3:pg root=some b3) (n1:q1≠root) (n2:q≠root) (n3:q1≠q) (hA:TLeaf b1 A.1 A.2) (hB:TLeaf b2 B.1 B.2) (hr:TInner b3 [mid] [q1,q])
  (oA:A.1.Pairwise (· < ·)) (oB:B.1.Pairwise (· < ·)) (nA:15<=A.1.length) (nB:15<=B.1.length) (wA:∀ y∈A.1,y<mid) (wB:∀ y∈B.1,mid<=y) :
  Two pg root [mid] [q1,q] [A,B]/\∀ k,twoG [mid] [A,B] k=if mid<=k then lk B.1 B.2 k else lk A.1 A.2 k:=by
 have c1:∀ k,cntL [mid] k=if mid<=k then 1 else 0:=fun k=>by rw [cntL_cons,cntL_nil,Nat.zero_add]
 refine ⟨⟨⟨b3,h3,hr⟩,List.pairwise_singleton _ _,rfl,fun i c L hc hL=>?_,fun i L hL=>?_,fun i L k hL hk=>?_,?_,?_⟩,fun k=>?_⟩
 ·match i with
  | 0=>injection hc with hc;injection hL with hL;subst hc;subst hL;exact ⟨b1,h1,hA⟩
  | 1=>injection hc with hc;injection hL with hL;subst hc;subst hL;exact ⟨b2,h2,hB⟩
  | i+2=>simp at hc
 ·match i with
  | 0=>injection hL with hL;subst hL;exact ⟨oA,nA⟩
  | 1=>injection hL with hL;subst hL;exact ⟨oB,nB⟩
  | i+2=>simp at hL
 ·rw [c1]
  match i with
  | 0=>injection hL with hL;subst hL;have:=wA k hk;rw [if_neg (by omega)]
  | 1=>injection hL with hL;subst hL;rw [if_pos (wB k hk)]
  | i+2=>simp at hL
 ·refine List.nodup_cons.2 ⟨fun h=>n3 (List.mem_singleton.1 h),List.nodup_cons.2 ⟨by simp,List.nodup_nil⟩⟩
 ·intro h
  simp only [List.mem_cons,List.not_mem_nil,or_false] at h
  rcases h with h|h
  ·exact n1 h.symm
  ·exact n2 h.symm
 ·unfold twoG
  rw [c1]
  split<;>rfl
theorem Two.keys (h:Two pg root seps ds Ls) (hM:∀ k,M k=twoG seps Ls k) (h60:∀ k v,M k=some v->k<60):∀ (i:Nat) (L:Lf) (k:Nat),Ls[i]? = some L->k∈L.1->k<60:=fun i L k hL hk=>by
 have hil:=(List.getElem?_eq_some_iff.1 hL).1
 obtain ⟨c,hc⟩:∃ c,ds[i]? = some c:=⟨_,List.getElem?_eq_getElem (by rw [<-h.n];exact hil)⟩
 obtain ⟨b,_,hb⟩:=h.lf i c L hc hL
 obtain ⟨v,hv⟩:=lk_some hb.n hk
 exact h60 k v (by rw [hM,twoG_at hL (h.wh i L k hL hk)];exact hv)
set_option maxHeartbeats 1000000 in
theorem trput_one {b:List UInt8} {ks vs:List Nat} (h:PoolAt base σ p m k pg) (ht:base t=some (.obj [.ptr p 0,.int .i64 root])) (hq:pg root=some b) (hl:TLeaf b ks vs) (hs:ks.Pairwise (· < ·)) (hT:∀ q,T q↔q=root) (hM:∀ k,M k=lk ks vs k)
  {key v:Nat} (hk:key<60) (hv:v<18446744073709551616) (hroom:(k:Int)+2<=m) :
  ACalls Tryz.prog 31 [.ptr t 0,.int .u64 key,.int .u64 v] σ fun r σ'=>r = .int .i64 0/\∃ k' pg',PutQ k pg root T M key v k' pg'/\PoolAt base σ' p m k' pg':=by
 have hle:=lowI_le ks key
 have hn:=hl.n
 have fr1:∀ b',Fr T pg T (pset pg root (some b')):=fun b' q h1 _=>⟨h1,pset_ne fun e=>h1 ((hT q).2 e)⟩
 have stay:∀ {ks' vs':List Nat},(∀ b',TLeaf b' ks' vs'->ks'.Pairwise (· < ·)/\∀ k,lk ks' vs' k=upM M key (some v) k) →
   ACalls Tryz.prog 62 [.ptr t 0,.int .i64 root,.int .u64 key,.int .u64 v,.int .i64 0] σ (fun r σ'=>r = .tuple [.int .i64 0,.int .u64 0,.int .i64 0]/\∃ b',TLeaf b' ks' vs'/\PoolAt base σ' p m k (pset pg root (some b'))) →
   ACalls Tryz.prog 31 [.ptr t 0,.int .u64 key,.int .u64 v] σ fun r σ'=>r = .int .i64 0/\∃ k' pg',PutQ k pg root T M key v k' pg'/\PoolAt base σ' p m k' pg':=fun {ks' vs'} hq' hc=>by
  refine trPut_stay h ht (hc.mono ?_)
  rintro w σ' ⟨rfl,b',hb',hp⟩
  exact ⟨rfl,k,_,⟨by omega,T,.inl ⟨b',ks',vs',pset_same _ _ _,hb',(hq' b' hb').1,hT,fun x=>((hq' b' hb').2 x).symm⟩,fr1 b'⟩,hp⟩
 rcases lk_get hn hs key with ⟨v0,h1,h2,h3⟩|⟨h1,h2⟩
 ·exact stay (fun b' hb'=>⟨hs,fun x=>by rw [lk_put hs hn h2];unfold upM;rw [hM]⟩) (trput_found (deep:=0) h ht hq hl hs hv (by omega) h2)
 ·have hnm:key ∉ ks:=fun e=>h2 ((low_mem hs).1 e)
  have hins:∀ x,lk (insL ks (lowI ks key) key) (insL vs (lowI ks key) v) x=upM M key (some v) x:=fun x=>by rw [lk_ins hn hle hnm];unfold upM;rw [hM]
  have hp':=pair_insL hs hnm
  by_cases h30:ks.length<30
  ·exact stay (fun b' hb'=>⟨hp',hins⟩) (trput_ins (deep:=0) h ht hq hl hs (by omega) hv (by omega) h2 h30)
  ·have h30:ks.length=30:=by have:=hl.most;omega
   have hlen:(insL ks (lowI ks key) key).length=31:=by rw [insL_len hle];omega
   have hlen2:(insL vs (lowI ks key) v).length=31:=by rw [insL_len (by omega)];omega
   have hku:u64L (insL ks (lowI ks key) key):=u64L_ins hl.ku (by omega)
   have hvu:u64L (insL vs (lowI ks key) v):=u64L_ins hl.vu hv
   have hsp:=trput_split (deep:=0) h ht (by omega) hq hl hs (key:=key) (v:=v) (by omega) hv (by omega) h2 h30
   generalize insL ks (lowI ks key) key=K at *
   generalize insL vs (lowI ks key) v=V at *
   refine (trPut_raise (k':=k+1) (Q:=fun q mid nd pg'=>∃ b1 b2,pg'=pset (pset pg root (some b1)) q (some b2)/\nd = .leaf (K.take 15) (V.take 15)/\TLeaf b2 (K.drop 15) (V.drop 15)/\K[15]? = some mid/\pg q=none) h ht (by omega) (hsp.mono ?_)).mono ?_
   ·rintro w σ' ⟨q,mid,b1,b2,rfl,hmid,hq0,q1,q2,hb1,hb2,hp⟩
    have hqr:root≠q:=fun e=>by rw [e,hq0] at hq;cases hq
    exact ⟨q,mid,.leaf (K.take 15) (V.take 15),b1,_,rfl,⟨q1,q2,hku mid (List.mem_of_getElem? hmid),by rw [pset_ne hqr,pset_same],hb1,⟨by rw [List.length_take,List.length_take];omega,by rw [List.length_take];omega,u64L_take hku,u64L_take hvu⟩⟩,⟨b1,b2,rfl,rfl,hb2,hmid,hq0⟩,hp⟩
   ·rintro w σ' ⟨q,mid,q1,nd,pg',b1',b3,rfl,⟨b1,b2,rfl,rfl,hb2,hmid,hq0⟩,hq1,hb1,hb3,hp⟩
    have hqr:q≠root:=fun e=>by rw [e,hq] at hq0;cases hq0
    have n1:q1≠q:=fun e=>by rw [e,pset_same] at hq1;cases hq1
    have n2:q1≠root:=fun e=>by rw [e,pset_ne (Ne.symm hqr),pset_same] at hq1;cases hq1
    have hq1p:pg q1=none:=by rw [pset_ne n1,pset_ne n2] at hq1;exact hq1
    obtain ⟨o1,o2,w1,w2⟩:=halves hp' hmid
    obtain ⟨g1,g2⟩:=two_new (pg:=pset (pset (pset (pset pg root (some b1)) q (some b2)) q1 (some b1')) root (some b3)) (A:=(K.take 15,V.take 15)) (B:=(K.drop 15,V.drop 15)) (by rw [pset_ne n2,pset_same]) (by rw [pset_ne hqr,pset_ne (Ne.symm n1),pset_same]) (pset_same _ _ _) n2 hqr n1 hb1 hb2 hb3 o1 o2
     (by show 15<=(K.take 15).length;rw [List.length_take];omega) (by show 15<=(K.drop 15).length;rw [List.length_drop];omega) w1 w2
    refine ⟨rfl,k+1+1,_,⟨by omega,fun z=>z=root\/z ∈ [q1,q],.inr ⟨_,_,_,g1,fun z=>Iff.rfl,fun x=>?_⟩,fun z hz hzn=>?_⟩,hp⟩
    ·rw [<-hins x,g2 x]
     exact lk_halves hp' (by omega) hmid x
    ·have z1:z≠root:=fun e=>hz ((hT z).2 e)
     have z2:z≠q:=fun e=>hzn (by rw [e];exact hq0)
     have z3:z≠q1:=fun e=>hzn (by rw [e];exact hq1p)
     refine ⟨fun hx=>?_,by rw [pset_ne z1,pset_ne z3,pset_ne z2,pset_ne z1]⟩
     simp only [List.mem_cons,List.not_mem_nil,or_false] at hx
     rcases hx with hx|hx|hx
     ·exact z1 hx
     ·exact z3 hx
     ·exact z2 hx
end
end Go.A
namespace Go.A
open Go.Proofs
section
variable {base σ σ':ASt} {p k t root:Nat} {m:Int} {pg:Pgs} {T:Nat->Prop} {M:Nat->Option Nat} {seps ds:List Nat} {Ls:List Lf}
set_option maxHeartbeats 1000000 in
theorem trput_two (h:PoolAt base σ p m k pg) (ht:base t=some (.obj [.ptr p 0,.int .i64 root])) (hW:Two pg root seps ds Ls) (hT:∀ q,T q↔q=root\/q∈ds) (hM:∀ k,M k=twoG seps Ls k) (h60:∀ k v,M k=some v->k<60)
  {key v:Nat} (hk:key<60) (hv:v<18446744073709551616) (hroom:(k:Int)+2<=m) :
  ACalls Tryz.prog 31 [.ptr t 0,.int .u64 key,.int .u64 v] σ fun r σ'=>r = .int .i64 0/\∃ k' pg',PutQ k pg root T M key v k' pg'/\PoolAt base σ' p m k' pg':=by
 obtain ⟨c,L,b,hc,hL,hpc,hl,hg⟩:=hW.at key
 obtain ⟨br,r1,r2⟩:=hW.rt
 obtain ⟨hs,h15⟩:=hW.so _ L hL
 have hfew:=hW.few (hW.keys hM h60)
 have hcr:=hW.rne hc
 have hle:=lowI_le L.1 key
 have hn:=hl.n
 have hTc:T c:=(hT c).2 (.inr (List.mem_of_getElem? hc))
 have hTr:T root:=(hT root).2 (.inl rfl)
 have hkc:ds[kidI seps key]? = some c:=by rw [kidI_cnt hW.sp];exact hc
 have hkl:=kidI_cnt (k:=key) hW.sp
 have hwh:∀ y∈L.1,cntL seps y=cntL seps key:=fun y hy=>hW.wh _ L y hL hy
 have hLl:cntL seps key<Ls.length:=(List.getElem?_eq_some_iff.1 hL).1
 have stay:∀ {ks' vs':List Nat},ks'.Pairwise (· < ·)->15<=ks'.length->(∀ y∈ks',cntL seps y=cntL seps key)->(∀ x,lk ks' vs' x=if x=key then some v else lk L.1 L.2 x) →
   (∀ base' σ',PoolAt base' σ' p m k pg->base' t=some (.obj [.ptr p 0,.int .i64 root]) →
    ACalls Tryz.prog 62 [.ptr t 0,.int .i64 c,.int .u64 key,.int .u64 v,.int .i64 1] σ' fun r σ2=>r = .tuple [.int .i64 0,.int .u64 0,.int .i64 0]/\∃ b',TLeaf b' ks' vs'/\PoolAt base' σ2 p m k (pset pg c (some b'))) →
   ACalls Tryz.prog 31 [.ptr t 0,.int .u64 key,.int .u64 v] σ fun r σ'=>r = .int .i64 0/\∃ k' pg',PutQ k pg root T M key v k' pg'/\PoolAt base σ' p m k' pg':=fun {ks' vs'} h1 h2 h3 h4 hcall=>by
  refine trPut_stay h ht (trput_up h ht r1 r2 hW.sp hkc fun base' σ' hp' ht'=>(hcall base' σ' hp' ht').mono ?_)
  rintro w σ2 ⟨rfl,b',hb',hp⟩
  refine ⟨rfl,k,_,⟨by omega,T,.inr ⟨seps,ds,_,hW.put (A:=(ks',vs')) hc hb' h1 h2 h3,hT,fun x=>?_⟩,fun q h1 _=>⟨h1,pset_ne fun e=>h1 (e▸hTc)⟩⟩,hp⟩
  rw [twoG_put hLl]
  unfold upM
  by_cases e:x=key
  ·rw [if_pos e,e,if_pos rfl,h4 key,if_pos rfl]
  ·rw [if_neg e]
   split
   ·rename_i q;rw [h4 x,if_neg e,hM,twoG_at hL q]
   ·exact hM x
 rcases lk_get hn hs key with ⟨v0,h1,h2,h3⟩|⟨h1,h2⟩
 ·exact stay hs h15 hwh (fun x=>lk_put hs hn h2 x) fun base' σ' hp' ht'=>trput_found (deep:=1) hp' ht' hpc hl hs hv (by omega) h2
 ·have hnm:key ∉ L.1:=fun e=>h2 ((low_mem hs).1 e)
  have hins:∀ x,lk (insL L.1 (lowI L.1 key) key) (insL L.2 (lowI L.1 key) v) x=if x=key then some v else lk L.1 L.2 x:=fun x=>lk_ins hn hle hnm x
  have hp':=pair_insL hs hnm
  have hwh':∀ y∈insL L.1 (lowI L.1 key) key,cntL seps y=cntL seps key:=fun y hy=>(mem_ins.1 hy).elim (fun e=>by rw [e]) (hwh y)
  by_cases h30:L.1.length<30
  ·exact stay hp' (by rw [insL_len hle];omega) hwh' hins fun base' σ' hpp ht'=>trput_ins (deep:=1) hpp ht' hpc hl hs (by omega) hv (by omega) h2 h30
  ·have h30:L.1.length=30:=by have:=hl.most;omega
   have hlen:(insL L.1 (lowI L.1 key) key).length=31:=by rw [insL_len hle];omega
   have hlen2:(insL L.2 (lowI L.1 key) v).length=31:=by rw [insL_len (by omega)];omega
   have hku:u64L (insL L.1 (lowI L.1 key) key):=u64L_ins hl.ku (by omega)
   have hsp:=fun (base' σ':ASt) (hpp:PoolAt base' σ' p m k pg) (ht':base' t=some (.obj [.ptr p 0,.int .i64 root]))=>trput_split (deep:=1) hpp ht' (by omega) hpc hl hs (key:=key) (v:=v) (by omega) hv (by omega) h2 h30
   generalize insL L.1 (lowI L.1 key) key=K at *
   generalize insL L.2 (lowI L.1 key) v=V at *
   refine trPut_stay h ht ((trput_up2 (Q:=fun q mid k' pg'=>∃ b1 b2,k'=k+1/\pg'=pset (pset pg c (some b1)) q (some b2)/\TLeaf b1 (K.take 15) (V.take 15)/\TLeaf b2 (K.drop 15) (V.drop 15)/\K[15]? = some mid/\pg q=none) h ht r1 r2 hW.sp hkc (by omega) fun base' σ' hpp ht'=>(hsp base' σ' hpp ht').mono ?_).mono ?_)
   ·rintro w σ2 ⟨q,mid,b1,b2,rfl,hmid,hq0,q1,q2,hb1,hb2,hp⟩
    have hqr:root≠q:=fun e=>by rw [e,hq0] at r1;cases r1
    exact ⟨q,mid,k+1,_,rfl,⟨q1,q2,hku mid (List.mem_of_getElem? hmid),by rw [pset_ne hqr,pset_ne hcr];exact r1⟩,⟨b1,b2,rfl,rfl,hb1,hb2,hmid,hq0⟩,hp⟩
   ·rintro w σ2 ⟨q,mid,k',pg',b3,rfl,⟨b1,b2,rfl,rfl,hb1,hb2,hmid,hq0⟩,hb3,hp⟩
    rw [hkl] at hb3
    obtain ⟨o1,o2,w1,w2⟩:=halves hp' hmid
    have hmm:=hwh' mid (List.mem_of_getElem? hmid)
    obtain ⟨g1,g2⟩:=hW.split (A:=(K.take 15,V.take 15)) (B:=(K.drop 15,V.drop 15)) hc hq0 hb1 hb2 hb3 o1 o2 (by show 15<=(K.take 15).length;rw [List.length_take];omega) (by show 15<=(K.drop 15).length;rw [List.length_drop];omega)
     (fun y hy=>⟨hwh' y (List.mem_of_mem_take hy),w1 y hy⟩) (fun y hy=>⟨hwh' y (List.mem_of_mem_drop hy),w2 y hy⟩) hmm
    refine ⟨rfl,k+1,_,⟨by omega,_,.inr ⟨_,_,_,g1,fun z=>Iff.rfl,fun x=>?_⟩,fun z hz hzn=>?_⟩,hp⟩
    ·rw [g2 x]
     show (if x=key then some v else M x)=_
     have hx:=lk_halves (vs:=V) hp' (by omega) hmid x
     rw [hins x] at hx
     by_cases e:cntL seps x=cntL seps key
     ·rw [if_pos e,← hx,hM,twoG_at hL e]
     ·rw [if_neg e,if_neg (fun q=>e (by rw [q])),hM]
    ·have z1:z≠root:=fun e=>hz (e▸hTr)
     have z2:z≠q:=fun e=>hzn (by rw [e];exact hq0)
     have z3:z≠c:=fun e=>hz (e▸hTc)
     refine ⟨fun hx=>?_,by rw [pset_ne z1,pset_ne z2,pset_ne z3]⟩
     rcases hx with hx|hx
     ·exact z1 hx
     ·rcases mem_ins.1 hx with hx|hx
      ·exact z2 hx
      ·exact hz ((hT z).2 (.inr hx))
theorem trput_at (h:PoolAt base σ p m k pg) (ht:base t=some (.obj [.ptr p 0,.int .i64 root])) (hT:TrAt pg root T M) (h60:∀ k v,M k=some v->k<60) {key v:Nat} (hk:key<60) (hv:v<18446744073709551616) (hroom:(k:Int)+2<=m) :
  ACalls Tryz.prog 31 [.ptr t 0,.int .u64 key,.int .u64 v] σ fun r σ'=>r = .int .i64 0/\∃ k' pg',PutQ k pg root T M key v k' pg'/\PoolAt base σ' p m k' pg':=by
 rcases hT with ⟨b,ks,vs,h1,h2,h3,h4,h5⟩|⟨seps,ds,Ls,h1,h2,h3⟩
 ·exact trput_one h ht h1 h2 h3 h4 h5 hk hv hroom
 ·exact trput_two h ht h1 h2 h3 h60 hk hv hroom
end
end Go.A
namespace Go.A
open Go.Proofs
theorem mem_take_at {l:List Nat} {j y:Nat} (h:y∈l.take j):∃ i,i<j/\l[i]? = some y:=by
 obtain ⟨i,hi⟩:=List.mem_iff_getElem?.1 h
 rw [List.getElem?_take] at hi
 split at hi
 ·exact ⟨i,by assumption,hi⟩
 ·cases hi
theorem mem_drop_at {l:List Nat} {j y:Nat} (h:y∈l.drop j):∃ i,j<=i/\l[i]? = some y:=by
 obtain ⟨i,hi⟩:=List.mem_iff_getElem?.1 h
 rw [List.getElem?_drop] at hi
 exact ⟨j+i,by omega,hi⟩
section
variable {pg pg2:Pgs} {root i j c1 c2 q key s:Nat} {seps ds:List Nat} {Ls:List Lf} {A B:Lf} {b1 b2 b3:List UInt8}
theorem Two.even (h:Two pg root seps ds Ls) (hc1:ds[j]? = some c1) (hc2:ds[j+1]? = some c2) (hs:seps[j]? = some s) (p1:pg2 c1=some b1) (p2:pg2 c2=some b2) (p3:pg2 root=some b3) (p4:∀ q,q≠c1->q≠c2->q≠root->pg2 q=pg q)
  (hA:TLeaf b1 A.1 A.2) (hB:TLeaf b2 B.1 B.2) (hr:TInner b3 (seps.set j key) ds) (oA:A.1.Pairwise (· < ·)) (oB:B.1.Pairwise (· < ·)) (nA:15<=A.1.length) (nB:15<=B.1.length)
  (wA:∀ k∈A.1,(cntL seps k=j\/cntL seps k=j+1)/\k<key) (wB:∀ k∈B.1,(cntL seps k=j\/cntL seps k=j+1)/\key<=k) (hm:cntL seps key=j\/cntL seps key=j+1) :
  Two pg2 root (seps.set j key) ds ((Ls.set j A).set (j+1) B) ∧
   ∀ k,twoG (seps.set j key) ((Ls.set j A).set (j+1) B) k=if cntL seps k=j\/cntL seps k=j+1 then (if key<=k then lk B.1 B.2 k else lk A.1 A.2 k) else twoG seps Ls k:=by
 have hjl:=(List.getElem?_eq_some_iff.1 hc2).1
 have hj:j+1<Ls.length:=by rw [h.n];exact hjl
 have hlen:=h.len
 have gL:∀ i,((Ls.set j A).set (j+1) B)[i]? = if i=j+1 then some B else if i=j then some A else Ls[i]? := fun i=>by
  rw [set_get _ _ _ _ (by rw [List.length_set];exact hj),set_get _ _ _ _ (by omega)]
 have low:∀ k,cntL seps k<j->¬ key<=k:=fun k hk he=>by have:=cntL_mono (l:=seps) he;omega
 have high:∀ k,j+1<cntL seps k->key<=k:=fun k hk=>Nat.le_of_not_lt fun he=>by have:=cntL_mono (l:=seps) (Nat.le_of_lt he);omega
 have cnt:∀ k,cntL (seps.set j key) k=if cntL seps k=j\/cntL seps k=j+1 then j+(if key<=k then 1 else 0) else cntL seps k:=fun k=>by
  have e1:=cntL_set (y:=key) (k:=k) hs
  have e2:=cntL_del (k:=k) hs
  have e3:=cntL_lt (k:=k) h.sp hs
  have l:=low k
  have g:=high k
  by_cases hsk:s<=k
  ·rw [if_pos hsk] at e2
   have:=e3.1 hsk
   split
   ·by_cases hkk:key<=k
    ·rw [if_pos hkk] at e1 ⊢;omega
    ·rw [if_neg hkk] at e1 ⊢;omega
   ·rw [if_pos (g (by omega))] at e1;omega
  ·rw [if_neg hsk] at e2
   have hlt:¬ j<cntL seps k:=fun q=>hsk (e3.2 q)
   split
   ·by_cases hkk:key<=k
    ·rw [if_pos hkk] at e1 ⊢;omega
    ·rw [if_neg hkk] at e1 ⊢;omega
   ·rw [if_neg (l (by omega))] at e1;omega
 have hdj:∀ {i d},ds[i]? = some d->i≠j->i≠j+1->pg2 d=pg d:=fun {i d} hd n1 n2=>p4 d (fun e=>n1 (nodup_inj h.nd hd (by rw [e];exact hc1))) (fun e=>n2 (nodup_inj h.nd hd (by rw [e];exact hc2))) (Ne.symm (h.rne hd))
 refine ⟨⟨⟨b3,p3,hr⟩,?_,by rw [List.length_set,List.length_set];exact h.n,fun i d M hd hM=>?_,fun i M hM=>?_,fun i M k hM hk=>?_,h.nd,h.rn⟩,fun k=>?_⟩
 ·have hsp:=h.sp
  rw [split_at hs,List.pairwise_append,List.pairwise_cons] at hsp
  rw [lset_app (by omega),List.pairwise_append,List.pairwise_cons]
  have hd:∀ y∈seps.drop (j+1),key<y:=fun y hy=>by
   obtain ⟨i,hi,hy⟩:=mem_drop_at hy
   have:=cntL_lt (k:=key) h.sp hy
   exact Nat.lt_of_not_le fun e=>by have:=this.1 e;omega
  have ht:∀ y∈seps.take j,y<key:=fun y hy=>by
   obtain ⟨i,hi,hy⟩:=mem_take_at hy
   obtain ⟨a, ha⟩ : ∃ a, a ∈ A.1 := ⟨A.1[0]'(by omega), List.getElem_mem _⟩
   have hwa:=wA a ha
   have:=(cntL_lt (k:=a) h.sp hy).2 (by omega)
   omega
  refine ⟨hsp.1,⟨hd,hsp.2.1.2⟩,fun y hy z hz=>?_⟩
  rcases List.mem_cons.1 hz with rfl|hz
  ·exact ht y hy
  ·have:=ht y hy;have:=hd z hz;omega
 ·rw [gL] at hM
  split at hM
  ·rename_i e;subst e
   rw [hc2] at hd
   injection hd with hd;subst hd
   injection hM with hM;subst hM
   exact ⟨b2,p2,hB⟩
  split at hM
  ·rename_i e;subst e
   rw [hc1] at hd
   injection hd with hd;subst hd
   injection hM with hM;subst hM
   exact ⟨b1,p1,hA⟩
  ·rename_i n2 n1
   rw [hdj hd n1 n2]
   exact h.lf i d M hd hM
 ·rw [gL] at hM
  split at hM
  ·injection hM with hM;subst hM;exact ⟨oB,nB⟩
  split at hM
  ·injection hM with hM;subst hM;exact ⟨oA,nA⟩
  ·exact h.so i M hM
 ·rw [cnt]
  rw [gL] at hM
  split at hM
  ·injection hM with hM;subst hM
   have:=wB k hk
   rw [if_pos this.1,if_pos this.2];omega
  split at hM
  ·injection hM with hM;subst hM
   have:=wA k hk
   rw [if_pos this.1,if_neg (by omega)];omega
  ·have:=h.wh i M k hM hk
   rw [if_neg (by omega)];exact this
 ·unfold twoG
  rw [cnt,gL]
  by_cases e:cntL seps k=j\/cntL seps k=j+1
  ·rw [if_pos e,if_pos e]
   by_cases hk:key<=k
   ·rw [if_pos hk,if_pos hk,if_pos rfl];rfl
   ·rw [if_neg hk,if_neg hk,if_neg (by omega),if_pos (by omega)];rfl
  ·rw [if_neg e,if_neg e,if_neg (by omega),if_neg (by omega)]
theorem Two.join (h:Two pg root seps ds Ls) (hc1:ds[j]? = some c1) (hc2:ds[j+1]? = some c2) (hs:seps[j]? = some s) (p1:pg2 c1=some b1) (p3:pg2 root=some b3) (p4:∀ q,q≠c1->q≠c2->q≠root->pg2 q=pg q)
  (hA:TLeaf b1 A.1 A.2) (hr:TInner b3 (delL seps j) (delL ds (j+1))) (oA:A.1.Pairwise (· < ·)) (nA:15<=A.1.length) (wA:∀ k∈A.1,cntL seps k=j\/cntL seps k=j+1) :
  Two pg2 root (delL seps j) (delL ds (j+1)) (delG (Ls.set j A) (j+1)) ∧
   ∀ k,twoG (delL seps j) (delG (Ls.set j A) (j+1)) k=if cntL seps k=j\/cntL seps k=j+1 then lk A.1 A.2 k else twoG seps Ls k:=by
 have hjl:=(List.getElem?_eq_some_iff.1 hc2).1
 have hj:j+1<Ls.length:=by rw [h.n];exact hjl
 have hlen:=h.len
 have gd:∀ i,(delL ds (j+1))[i]? = if i<j+1 then ds[i]? else ds[i+1]? := fun i=>delG_get hjl i
 have gL:∀ i,(delG (Ls.set j A) (j+1))[i]? = if i<j then Ls[i]? else if i=j then some A else Ls[i+1]? := fun i=>by
  rw [delG_get (by rw [List.length_set];exact hj),set_get _ _ _ _ (by omega),set_get _ _ _ _ (by omega)]
  by_cases h1:i<j
  ·rw [if_pos (by omega),if_neg (by omega),if_pos h1]
  ·rw [if_neg h1]
   by_cases h2:i=j
   ·rw [if_pos (by omega),if_pos h2,if_pos h2]
   ·rw [if_neg (by omega),if_neg h2,if_neg (by omega)]
 have cnt:∀ k,cntL (delL seps j) k=if cntL seps k<=j then cntL seps k else cntL seps k-1:=fun k=>by
  have e2:=cntL_del (k:=k) hs
  have e3:=cntL_lt (k:=k) h.sp hs
  by_cases hsk:s<=k
  ·rw [if_pos hsk] at e2
   have:=e3.1 hsk
   rw [if_neg (by omega)];omega
  ·rw [if_neg hsk] at e2
   have hlt:¬ j<cntL seps k:=fun q=>hsk (e3.2 q)
   rw [if_pos (by omega)];omega
 have hdj:∀ {i d},ds[i]? = some d->i≠j->i≠j+1->pg2 d=pg d:=fun {i d} hd n1 n2=>p4 d (fun e=>n1 (nodup_inj h.nd hd (by rw [e];exact hc1))) (fun e=>n2 (nodup_inj h.nd hd (by rw [e];exact hc2))) (Ne.symm (h.rne hd))
 refine ⟨⟨⟨b3,p3,hr⟩,pair_del h.sp,?_,fun i d M hd hM=>?_,fun i M hM=>?_,fun i M k hM hk=>?_,nodup_del h.nd hjl,fun hx=>h.rn (delL_mem hx)⟩,fun k=>?_⟩
 ·rw [delG_len (by rw [List.length_set];exact hj),delL_len hjl,List.length_set,h.n]
 ·rw [gd] at hd
  rw [gL] at hM
  by_cases h1:i<j
  ·rw [if_pos (by omega)] at hd
   rw [if_pos h1] at hM
   rw [hdj hd (by omega) (by omega)]
   exact h.lf i d M hd hM
  rw [if_neg h1] at hM
  by_cases h2:i=j
  ·subst h2
   rw [if_pos (by omega),hc1] at hd
   injection hd with hd;subst hd
   rw [if_pos rfl] at hM
   injection hM with hM;subst hM
   exact ⟨b1,p1,hA⟩
  rw [if_neg h2] at hM
  rw [if_neg (by omega)] at hd
  rw [hdj hd (by omega) (by omega)]
  exact h.lf _ d M hd hM
 ·rw [gL] at hM
  split at hM
  ·exact h.so i M hM
  split at hM
  ·injection hM with hM;subst hM;exact ⟨oA,nA⟩
  ·exact h.so _ M hM
 ·rw [cnt]
  rw [gL] at hM
  split at hM
  ·have:=h.wh i M k hM hk
   rw [if_pos (by omega)];exact this
  split at hM
  ·injection hM with hM;subst hM
   have:=wA k hk
   split<;>omega
  ·have:=h.wh _ M k hM hk
   rw [if_neg (by omega)];omega
 ·unfold twoG
  rw [cnt,gL]
  by_cases e:cntL seps k=j\/cntL seps k=j+1
  ·rw [if_pos e]
   have:(if cntL seps k<=j then cntL seps k else cntL seps k-1)=j:=by split<;>omega
   rw [this,if_neg (by omega),if_pos rfl];rfl
  ·rw [if_neg e]
   by_cases hlt:cntL seps k<=j
   ·rw [if_pos hlt,if_pos (by omega)]
   ·rw [if_neg hlt,if_neg (by omega),if_neg (by omega),Nat.sub_add_cancel (by omega)]
end
end Go.A
namespace Go.A
open Go.Proofs
def DropQ (pg:Pgs) (root:Nat) (T:Nat->Prop) (M:Nat->Option Nat) (key:Nat) (pg':Pgs):Prop:=∃ T',TrAt pg' root T' (upM M key none)/\Fr T pg T' pg'
section
variable {base base1 σ σ':ASt} {p k t root n:Nat} {m:Int} {pg pg1:Pgs} {T:Nat->Prop} {M:Nat->Option Nat} {seps ds:List Nat} {Ls:List Lf} {C1 C2:Lf}
set_option maxHeartbeats 1000000 in
theorem trdrop_one {b:List UInt8} {ks vs:List Nat} (h:PoolAt base σ p m k pg) (ht:base t=some (.obj [.ptr p 0,.int .i64 root])) (hq:pg root=some b) (hl:TLeaf b ks vs) (hs:ks.Pairwise (· < ·)) (hT:∀ q,T q↔q=root) (hM:∀ k,M k=lk ks vs k)
  {key v:Nat} (hk:M key=some v) :
  ACalls Tryz.prog 74 [.ptr t 0,.int .u64 key] σ fun r σ'=>r = .tuple [.bool true,.int .i64 0]/\∃ pg',DropQ pg root T M key pg'/\PoolAt base σ' p m k pg':=by
 have hf:=(low_mem hs).1 (lk_mem ((hM key).symm.trans hk))
 refine trDrop_ok h ht ((trdrop_leaf (deep:=0) h ht hq hl hs (by omega) hf).mono ?_)
 rintro w σ' ⟨rfl,b',hb',hp⟩
 refine ⟨_,rfl,_,⟨T,.inl ⟨b',_,_,pset_same _ _ _,hb',pair_del hs,hT,fun x=>?_⟩,fun q h1 _=>⟨h1,pset_ne fun e=>h1 ((hT q).2 e)⟩⟩,hp⟩
 rw [lk_del hs hl.n hf]
 unfold upM
 rw [hM]
set_option maxHeartbeats 1000000 in
theorem mend_law {x y:AV} (hm:InnerM base base1 n x y seps ds) (hO:Only base base1 (nodeB n x y)) (hp:PoolAt base1 σ p m k pg1) (hck:CkT base) (ht:base t=some (.obj [.ptr p 0,.int .i64 root]))
  (hW:Two pg root seps ds Ls) (hT:∀ q,T q↔q=root\/q∈ds) (hM:∀ k,M k=twoG seps Ls k) {key:Nat} (hbig:∀ l:List Nat,(∀ x,M x≠none->x∈l)->32<=l.length)
  {I j c1 c2:Nat} {b1 b2:List UInt8} (hI:I=j/\j+2<=ds.length\/I=j+1/\j+2=ds.length) (hc1:ds[j]? = some c1) (hc2:ds[j+1]? = some c2) (hq1:pg1 c1=some b1) (hq2:pg1 c2=some b2) (hq3:∀ q,q≠c1->q≠c2->pg1 q=pg q)
  (hl1:TLeaf b1 C1.1 C1.2) (hl2:TLeaf b2 C2.1 C2.2) (o1:C1.1.Pairwise (· < ·)) (o2:C2.1.Pairwise (· < ·)) (w1:∀ k∈C1.1,cntL seps k=j) (w2:∀ k∈C2.1,cntL seps k=j+1) (n1:14<=C1.1.length) (n2:14<=C2.1.length) (n3:29<=C1.1.length+C2.1.length) (n4:C1.1.length+C2.1.length<=44)
  (g1:∀ z,cntL seps z=j->lk C1.1 C1.2 z=upM M key none z) (g2:∀ z,cntL seps z=j+1->lk C2.1 C2.2 z=upM M key none z) (gk:cntL seps key=j\/cntL seps key=j+1) :
  ACalls Tryz.prog 112 [.ptr t 0,.ptr n 0,.int .i64 I] σ fun w σ'=>w = .int .i64 0/\∃ (r:Role) (ks' ds':List Nat) (pg2:Pgs) (b2:List UInt8),NodeR r (.inner ks' ds')/\(TN.inner ks' ds').ok/\(∀ b3,TInner b3 ks' ds'->DropQ pg root T M key (pset pg2 root (some b3)))/\pg2 root=some b2/\PoolAt (base.set n (some r)) σ' p m k pg2:=by
 have hlen:=hW.len
 obtain ⟨br,r1,r2⟩:=hW.rt
 have hj2:=(List.getElem?_eq_some_iff.1 hc2).1
 obtain ⟨s,hs⟩:∃ s,seps[j]? = some s:=⟨_,List.getElem?_eq_getElem (by omega)⟩
 have h12:c1≠c2:=fun e=>by have:=nodup_inj hW.nd hc1 (by rw [e];exact hc2);omega
 have hr1:=hW.rne hc1
 have hr2:=hW.rne hc2
 have hne1:C1.1 ≠ []:=fun e=>by rw [e] at n1;simp at n1
 have hne2:C2.1 ≠ []:=fun e=>by rw [e] at n2;simp at n2
 have hmost:=r2.most
 have v1:=hl1.n
 have v2:=hl2.n
 have hKl:(C1.1++C2.1).length=C1.1.length+C2.1.length:=List.length_append
 have hVl:(C1.2++C2.2).length=C1.1.length+C2.1.length:=by rw [List.length_append];omega
 have hKp:(C1.1++C2.1).Pairwise (· < ·):=pair_app (x:=s) o1 o2 (fun y hy=>Nat.lt_of_not_le fun e=>by
   have:=(cntL_lt (k:=y) hW.sp hs).1 e;have:=w1 y hy;omega) (fun y hy=>(cntL_lt (k:=y) hW.sp hs).2 (by have:=w2 y hy;omega))
 have hKw:∀ y∈C1.1++C2.1,cntL seps y=j\/cntL seps y=j+1:=fun y hy=>(List.mem_append.1 hy).imp (w1 y) (w2 y)
 have hKg:∀ z,cntL seps z=j\/cntL seps z=j+1->lk (C1.1++C2.1) (C1.2++C2.2) z=upM M key none z:=fun z hz=>by
  rw [lk_app (by omega)]
  rcases hz with hz|hz
  ·rw [g1 z hz,lk_no (ks:=C2.1) (fun q=>by have:=w2 z q;omega)]
   exact Option.or_none
  ·rw [g2 z hz,lk_no (ks:=C1.1) (fun q=>by have:=w1 z q;omega)]
   rfl
 have hoff:∀ z,¬ (cntL seps z=j\/cntL seps z=j+1)->twoG seps Ls z=upM M key none z:=fun z hz=>by
  unfold upM
  rw [if_neg (fun e=>hz (by rw [e];exact gk)),hM]
 have hTc:∀ q,¬ T q->q≠root/\q≠c1/\q≠c2:=fun q hq=>⟨fun e=>hq ((hT q).2 (.inl e)),fun e=>hq ((hT q).2 (.inr (e▸List.mem_of_getElem? hc1))),fun e=>hq ((hT q).2 (.inr (e▸List.mem_of_getElem? hc2)))⟩
 by_cases hsum:C1.1.length+C2.1.length<=30
 ·have hds3:3<=ds.length:=by
   refine Nat.le_of_not_lt fun hc=>?_
   have hb:=hbig (key::(C1.1++C2.1)) fun z hz=>?_
   ·rw [List.length_cons] at hb;omega
   ·by_cases e:z=key
    ·exact e▸List.mem_cons_self
    ·have hzz:cntL seps z=j\/cntL seps z=j+1:=by have:=cntL_le seps z;omega
     have:=hKg z hzz
     unfold upM at this
     rw [if_neg e] at this
     cases hc:M z with
     | none=>exact absurd hc hz
     | some v=>exact List.mem_cons_of_mem _ (lk_mem (this.trans hc))
  refine (trmend_one hm hO hp hck ht hI hlen hmost hc1 hc2 h12 hq1 hq2 hl1 hl2 hne2 hsum).mono ?_
  rintro w σ' ⟨rfl,r,b',hr,hb',hp'⟩
  refine ⟨rfl,r,_,_,_,br,hr,⟨by rw [delL_len (by omega),delL_len (by omega)];omega,by rw [delL_len (by omega)];omega,by rw [delL_len (by omega)];omega,u64L_del r2.ku,u32L_del r2.du⟩,fun b3 hb3=>?_,by rw [pset_ne hr2,pset_ne hr1,hq3 root hr1 hr2];exact r1,hp'⟩
  obtain ⟨j1,j2⟩:=hW.join (pg2:=pset (pset (pset pg1 c1 (some b')) c2 none) root (some b3)) (A:=(C1.1++C2.1,C1.2++C2.2)) hc1 hc2 hs (by rw [pset_ne (Ne.symm hr1),pset_ne h12,pset_same]) (pset_same _ _ _) (fun q a1 a2 a3=>by rw [pset_ne a3,pset_ne a2,pset_ne a1];exact hq3 q a1 a2) hb' hb3 hKp (by show 15<=(C1.1++C2.1).length;omega) hKw
  refine ⟨_,.inr ⟨_,_,_,j1,fun q=>Iff.rfl,fun z=>?_⟩,fun q a1 a2=>?_⟩
  ·rw [j2 z]
   split
   ·rename_i e;exact (hKg z e).symm
   ·rename_i e;exact (hoff z e).symm
  ·obtain ⟨t1,t2,t3⟩:=hTc q a1
   refine ⟨fun hx=>a1 ((hT q).2 (hx.imp id fun hx=>delL_mem hx)),?_⟩
   rw [pset_ne t1,pset_ne t3,pset_ne t2,hq3 q t2 t3]
 ·obtain ⟨h,hh⟩:∃ h,h=(C1.1.length+C2.1.length) / 2:=⟨_,rfl⟩
  refine (trmend_two hm hO hp hck ht hI hlen hmost hc1 hc2 h12 hq1 hq2 hl1 hl2 hne1 hne2 (by omega) hh).mono ?_
  rintro w σ' ⟨rfl,mid,r,b1',b2',hmid,hr,hb1',hb2',hp'⟩
  have hku:mid<18446744073709551616:=(List.mem_append.1 (List.mem_of_getElem? hmid)).elim (hl1.ku mid) (hl2.ku mid)
  refine ⟨rfl,r,_,_,_,br,hr,⟨by rw [List.length_set];omega,r2.two,r2.most,u64L_set r2.ku hku,r2.du⟩,fun b3 hb3=>?_,by rw [pset_ne hr2,pset_ne hr1,hq3 root hr1 hr2];exact r1,hp'⟩
  obtain ⟨x1,x2,x3,x4⟩:=halves hKp hmid
  obtain ⟨j1,j2⟩:=hW.even (pg2:=pset (pset (pset pg1 c1 (some b1')) c2 (some b2')) root (some b3)) (A:=((C1.1++C2.1).take h,(C1.2++C2.2).take h)) (B:=((C1.1++C2.1).drop h,(C1.2++C2.2).drop h)) hc1 hc2 hs (by rw [pset_ne (Ne.symm hr1),pset_ne h12,pset_same]) (by rw [pset_ne (Ne.symm hr2),pset_same]) (pset_same _ _ _)
   (fun q a1 a2 a3=>by rw [pset_ne a3,pset_ne a2,pset_ne a1];exact hq3 q a1 a2) hb1' hb2' hb3 x1 x2 (by show 15<=((C1.1++C2.1).take h).length;rw [List.length_take];omega) (by show 15<=((C1.1++C2.1).drop h).length;rw [List.length_drop];omega)
   (fun y hy=>⟨hKw y (List.mem_of_mem_take hy),x3 y hy⟩) (fun y hy=>⟨hKw y (List.mem_of_mem_drop hy),x4 y hy⟩) (hKw mid (List.mem_of_getElem? hmid))
  refine ⟨T,.inr ⟨_,_,_,j1,hT,fun z=>?_⟩,fun q a1 a2=>?_⟩
  ·rw [j2 z]
   split
   ·rename_i e
    rw [<-hKg z e]
    exact lk_halves hKp (by omega) hmid z
   ·rename_i e;exact (hoff z e).symm
  ·obtain ⟨t1,t2,t3⟩:=hTc q a1
   exact ⟨a1,by rw [pset_ne t1,pset_ne t3,pset_ne t2,hq3 q t2 t3]⟩
end
end Go.A
namespace Go.A
open Go.Proofs
section
variable {base base1 σ σ':ASt} {p k t root n:Nat} {m:Int} {pg pg1:Pgs} {T:Nat->Prop} {M:Nat->Option Nat} {seps ds:List Nat} {Ls:List Lf} {C1 C2:Lf}
set_option maxHeartbeats 1000000 in
theorem trdrop_two (h:PoolAt base σ p m k pg) (ht:base t=some (.obj [.ptr p 0,.int .i64 root])) (hW:Two pg root seps ds Ls) (hT:∀ q,T q↔q=root\/q∈ds) (hM:∀ k,M k=twoG seps Ls k) {key v:Nat} (hbig:∀ l:List Nat,(∀ x,M x≠none->x∈l)->32<=l.length) (hk:M key=some v) :
  ACalls Tryz.prog 74 [.ptr t 0,.int .u64 key] σ fun r σ'=>r = .tuple [.bool true,.int .i64 0]/\∃ pg',DropQ pg root T M key pg'/\PoolAt base σ' p m k pg':=by
 obtain ⟨c,L,b,hc,hL,hpc,hl,hg⟩:=hW.at key
 obtain ⟨br,r1,r2⟩:=hW.rt
 obtain ⟨hs,h15⟩:=hW.so _ L hL
 have hmem:key∈L.1:=lk_mem (hg.symm.trans ((hM key).symm.trans hk))
 have hf:=(low_mem hs).1 hmem
 have hcr:=hW.rne hc
 have hTc:T c:=(hT c).2 (.inr (List.mem_of_getElem? hc))
 have hkc:ds[kidI seps key]? = some c:=by rw [kidI_cnt hW.sp];exact hc
 have hkl:=kidI_cnt (k:=key) hW.sp
 have hwh:∀ y∈L.1,cntL seps y=cntL seps key:=fun y hy=>hW.wh _ L y hL hy
 have hil:=(List.getElem?_eq_some_iff.1 hf).1
 have hdl:(delL L.1 (lowI L.1 key)).length=L.1.length-1:=delL_len hil
 have hpd:(delL L.1 (lowI L.1 key)).Pairwise (· < ·):=pair_del hs
 have hwd:∀ y∈delL L.1 (lowI L.1 key),cntL seps y=cntL seps key:=fun y hy=>hwh y (delL_mem hy)
 have hgd:∀ x,lk (delL L.1 (lowI L.1 key)) (delL L.2 (lowI L.1 key)) x=if x=key then none else lk L.1 L.2 x:=fun x=>lk_del hs hl.n hf x
 have hLl:cntL seps key<Ls.length:=(List.getElem?_eq_some_iff.1 hL).1
 have hdrop:=fun (base' σ':ASt) (hpp:PoolAt base' σ' p m k pg) (ht':base' t=some (.obj [.ptr p 0,.int .i64 root]))=>trdrop_leaf (deep:=1) hpp ht' hpc hl hs (by omega) hf
 have hlen:=hW.len
 have h2:=r2.two
 generalize delL L.1 (lowI L.1 key)=ks' at *
 generalize delL L.2 (lowI L.1 key)=vs' at *
 have hup:∀ x,cntL seps x=cntL seps key->lk ks' vs' x=upM M key none x:=fun x hx=>by
  rw [hgd]
  unfold upM
  rw [hM,twoG_at hL hx]
 by_cases h16:16<=L.1.length
 ·refine trDrop_ok h ht ((trdrop_up (Q:=fun pg'=>DropQ pg root T M key pg') h ht r1 r2 hW.sp hkc fun base' σ' hpp ht'=>(hdrop base' σ' hpp ht').mono ?_).mono ?_)
  ·rintro w σ2 ⟨rfl,b',hb',hp⟩
   rw [decide_eq_false (by omega)]
   refine ⟨rfl,_,⟨T,.inr ⟨seps,ds,_,hW.put (A:=(ks',vs')) hc hb' hpd (by show 15<=ks'.length;omega) hwd,hT,fun x=>?_⟩,fun q h1 _=>⟨h1,pset_ne fun e=>h1 (e▸hTc)⟩⟩,hp⟩
   rw [twoG_put hLl]
   split
   ·rename_i e;exact (hup x e).symm
   ·rename_i e
    unfold upM
    rw [if_neg (fun q=>e (by rw [q]))]
    exact hM x
  ·rintro w σ2 ⟨rfl,hq⟩
   exact ⟨_,rfl,hq⟩
 ·have h15:L.1.length=15:=by omega
  refine trDrop_ok h ht ((trdrop_mend (Q1:=fun pg'=>∃ b',TLeaf b' ks' vs'/\pg'=pset pg c (some b')) (Q:=fun ks2 ds2 pg2=>∀ b3,TInner b3 ks2 ds2->DropQ pg root T M key (pset pg2 root (some b3))) h ht r1 r2 hW.sp hkc (fun base' σ' hpp ht'=>(hdrop base' σ' hpp ht').mono ?_) ?_).mono ?_)
  ·rintro w σ2 ⟨rfl,b',hb',hp⟩
   rw [decide_eq_true (by omega)]
   exact ⟨rfl,_,⟨b',hb',rfl⟩,hp⟩
  ·rintro n x y base1 σ1 pg' hm hO ⟨b',hb',rfl⟩ hp
   rw [hkl]
   have nb:∀ {i c2},ds[i]? = some c2->i≠cntL seps key->∃ b2 L2,pset pg c (some b') c2=some b2/\TLeaf b2 L2.1 L2.2/\Ls[i]? = some L2:=fun {i c2} hd hi=>by
    obtain ⟨L2,hL2⟩:∃ L2,Ls[i]? = some L2:=⟨_,List.getElem?_eq_getElem (by rw [hW.n];exact (List.getElem?_eq_some_iff.1 hd).1)⟩
    obtain ⟨b2,a1,a2⟩:=hW.lf i c2 L2 hd hL2
    exact ⟨b2,L2,by rw [pset_ne fun e=>hi (nodup_inj hW.nd hd (by rw [e];exact hc))];exact a1,a2,hL2⟩
   have oth:∀ {i L2},Ls[i]? = some L2->i≠cntL seps key->∀ z,cntL seps z=i->lk L2.1 L2.2 z=upM M key none z:=fun {i L2} hL2 hi z hz=>by
    unfold upM
    rw [if_neg (fun e=>hi (by rw [<-hz,e])),hM,twoG_at hL2 hz]
   by_cases hlast:cntL seps key+1<ds.length
   ·obtain ⟨c2,hc2⟩:∃ c2,ds[cntL seps key+1]? = some c2:=⟨_,List.getElem?_eq_getElem hlast⟩
    obtain ⟨b2,L2,a1,a2,a3⟩:=nb hc2 (by omega)
    obtain ⟨s1,s2⟩:=hW.so _ L2 a3
    have:=a2.most
    exact mend_law (C1:=(ks',vs')) (C2:=L2) hm hO hp h.ck ht hW hT hM hbig (.inl ⟨rfl,by omega⟩) hc hc2 (pset_same _ _ _) a1 (fun q q1 q2=>pset_ne q1) hb' a2 hpd s1 hwd (fun z hz=>hW.wh _ L2 z a3 hz) (by show 14<=ks'.length;omega) (by omega) (by show 29<=ks'.length+_;omega) (by show ks'.length+_<=44;omega)
     hup (fun z hz=>oth a3 (by omega) z hz) (.inl rfl)
   ·have hle:=cntL_le seps key
    obtain ⟨j,hj⟩:∃ j,cntL seps key=j+1:=⟨cntL seps key-1,by omega⟩
    obtain ⟨c2,hc2⟩:∃ c2,ds[j]? = some c2:=⟨_,List.getElem?_eq_getElem (by omega)⟩
    obtain ⟨b2,L2,a1,a2,a3⟩:=nb hc2 (by omega)
    obtain ⟨s1,s2⟩:=hW.so _ L2 a3
    have:=a2.most
    rw [hj] at hc hwd hup oth ⊢
    exact mend_law (C1:=L2) (C2:=(ks',vs')) hm hO hp h.ck ht hW hT hM hbig (.inr ⟨rfl,by omega⟩) hc2 hc a1 (pset_same _ _ _) (fun q q1 q2=>pset_ne q2) a2 hb' s1 hpd (fun z hz=>hW.wh _ L2 z a3 hz) hwd (by omega) (by show 14<=ks'.length;omega) (by show 29<=_+ks'.length;omega) (by show _+ks'.length<=44;omega)
     (fun z hz=>oth a3 (by omega) z hz) hup (.inr hj)
  ·rintro w σ2 ⟨pr,ks2,ds2,pg2,b3,rfl,hQ,hb3,hp⟩
   exact ⟨pr,rfl,_,hQ b3 hb3,hp⟩
theorem trdrop_at (h:PoolAt base σ p m k pg) (ht:base t=some (.obj [.ptr p 0,.int .i64 root])) (hT:TrAt pg root T M) {key v:Nat} (hbig:∀ l:List Nat,(∀ x,M x≠none->x∈l)->32<=l.length) (hk:M key=some v) :
  ACalls Tryz.prog 74 [.ptr t 0,.int .u64 key] σ fun r σ'=>r = .tuple [.bool true,.int .i64 0]/\∃ pg',DropQ pg root T M key pg'/\PoolAt base σ' p m k pg':=by
 rcases hT with ⟨b,ks,vs,h1,h2,h3,h4,h5⟩|⟨seps,ds,Ls,h1,h2,h3⟩
 ·exact trdrop_one h ht h1 h2 h3 h4 h5 hk
 ·exact trdrop_two h ht h1 h2 h3 hbig hk
end
end Go.A
namespace Go.A
open Go.Proofs
/-! 23: tabular/seq.encode -/
def c23_14:ACode := .seq (.ops [ oq 33 (.bin .lss (.t 32) (.t 31))]) (.seq (.cond (.t 33) .skip (.exit 0)) (.seq (.block 1 (.seq (.ops [ oq 34 (.mv (.t 32)),oq 35 (.ia 1 (.t 30) (.t 32)),oq 36 (.ld none (.t 35)),oq 4 (.mv (.t 34)),oq 5 (.mv (.t 36))]) (.ops [ oq 37 (.mv (.t 0)),oq 38 (.mv (.t 4)),oq 39 (.bin .mul (.v (.int .i64 8)) (.t 38)),oq 40 (.bin .add (.v (.int .i64 8)) (.t 39)),oq 41 (.slfrom (false,1) (.t 37) (.t 40)),oq 42 (.mv (.t 5)),oe 43 (.call 55 [(.t 41),(.t 42)])]))) (.ops [ oq 44 (.bin .add (.t 32) (.v (.int .i64 1))),oq 32 (.mv (.t 44))])))
def c23_35:ACode := .seq (.ops [ oq 53 (.bin .lss (.t 52) (.t 51))]) (.seq (.cond (.t 53) .skip (.exit 2)) (.seq (.block 3 (.seq (.ops [ oq 54 (.mv (.t 52)),oq 55 (.ia 1 (.t 50) (.t 52)),oq 56 (.ld none (.t 55)),oq 6 (.mv (.t 54)),oq 7 (.mv (.t 56))]) (.seq (.ops [ oq 57 (.mv (.t 0)),oq 58 (.mv (.t 6)),oq 59 (.bin .mul (.v (.int .i64 8)) (.t 58)),oq 60 (.bin .add (.v (.int .i64 8)) (.t 59)),oq 61 (.slfrom (false,1) (.t 57) (.t 60)),oq 62 (.mv (.t 7)),oq 63 (.conv .u32 (.t 62)),oe 64 (.call 25 [(.t 61),(.t 63)])]) (.ops [ oq 65 (.mv (.t 0)),oq 66 (.mv (.t 6)),oq 67 (.bin .mul (.v (.int .i64 8)) (.t 66)),oq 68 (.bin .add (.v (.int .i64 12)) (.t 67)),oq 69 (.slfrom (false,1) (.t 65) (.t 68)),oq 70 (.mv (.t 1)),oq 71 (.nc (.t 70)),oq 72 (.fa 4 (.t 71)),oq 73 (.ld none (.t 72)),oq 74 (.mv (.t 6)),oq 75 (.ia 1 (.t 73) (.t 74)),oq 76 (.ld none (.t 75)),oq 77 (.conv .u32 (.t 76)),oe 78 (.call 25 [(.t 69),(.t 77)])])))) (.ops [ oq 79 (.bin .add (.t 52) (.v (.int .i64 1))),oq 52 (.mv (.t 79))])))
def c23_42:ACode := .seq (.ops [ oq 8 (.mv (.t 0)),oq 9 (.mv (.t 1)),oe 10 (.call 54 [(.t 9)]),oq 11 (.conv .u8 (.t 10)),oq 12 (.ia 1 (.t 8) (.v (.int .i64 1))),oz (.store 1 (.t 12) (.t 11))]) (.seq (.ops [ oq 13 (.mv (.t 0)),oq 14 (.slfrom (false,1) (.t 13) (.v (.int .i64 4))),oq 15 (.mv (.t 1)),oq 16 (.nc (.t 15)),oq 17 (.fa 1 (.t 16)),oq 18 (.ld none (.t 17)),oq 19 (.conv .u32 (.t 18)),oe 20 (.call 25 [(.t 14),(.t 19)])]) (.seq (.seq (.ops [ oq 21 (.mv (.t 1)),oq 22 (.nc (.t 21)),oq 23 (.fa 0 (.t 22)),oq 24 (.ld none (.t 23))]) (.cond (.t 24) (.seq (.ops [ oq 25 (.mv (.t 0)),oq 26 (.ia 1 (.t 25) (.v (.int .i64 0))),oz (.store 1 (.t 26) (.v (.int .u8 1)))]) (.seq (.seq (.ops [ oq 27 (.mv (.t 1)),oq 28 (.nc (.t 27)),oq 29 (.fa 2 (.t 28)),oq 30 (.ld none (.t 29)),oq 31 (.len (.t 30)),oq 32 (.mv (.v (.int .i64 0)))]) (.block 0 (.loop c23_14))) .ret)) .skip)) (.seq (.ops [ oq 45 (.mv (.t 0)),oq 46 (.ia 1 (.t 45) (.v (.int .i64 0))),oz (.store 1 (.t 46) (.v (.int .u8 2)))]) (.seq (.ops [ oq 47 (.mv (.t 1)),oq 48 (.nc (.t 47)),oq 49 (.fa 3 (.t 48)),oq 50 (.ld none (.t 49)),oq 51 (.len (.t 50)),oq 52 (.mv (.v (.int .i64 0)))]) (.block 2 (.loop c23_35))))))
@[go_sem] def c23_14_wp:=wp_of c23_14.eq_1
@[go_sem] def c23_35_wp:=wp_of c23_35.eq_1
@[go_sem] def c23_42_wp:=wp_of c23_42.eq_1
def c23:AFn:=⟨80,[],c23_42⟩
theorem c23_ok:compF Tryz.prog Tryz.f23=some c23:=by kernel_rfl
theorem a23 {args:List AV} {σ:ASt} {R:AV->ASt->Prop} (hl:args.length<=80) (h:c23_42.wp Tryz.prog (RetQ [] R) (init args) σ):ACalls Tryz.prog 23 args σ R:=acalls_of Tryz.func23 c23_ok hl h
/-! 54: (*tabular/seq.node).size -/
def c54_3:ACode := .seq (.ops [ oq 2 (.mv (.v (.int .i64 0)))]) (.seq (.ops [ oq 3 (.mv (.t 0)),oq 4 (.nc (.t 3)),oq 5 (.fa 2 (.t 4)),oq 6 (.ld none (.t 5)),oq 7 (.len (.t 6)),oq 8 (.mv (.t 0)),oq 9 (.nc (.t 8)),oq 10 (.fa 3 (.t 9)),oq 11 (.ld none (.t 10)),oq 12 (.len (.t 11)),oq 13 (.bin .add (.t 7) (.t 12)),oq 2 (.mv (.t 13))]) .ret)
@[go_sem] def c54_3_wp:=wp_of c54_3.eq_1
def c54:AFn:=⟨14,[.t 2],c54_3⟩
theorem c54_ok:compF Tryz.prog Tryz.f54=some c54:=by kernel_rfl
theorem a54 {args:List AV} {σ:ASt} {R:AV->ASt->Prop} (hl:args.length<=14) (h:c54_3.wp Tryz.prog (RetQ [.t 2] R) (init args) σ):ACalls Tryz.prog 54 args σ R:=acalls_of Tryz.func54 c54_ok hl h
/-! 65: (*tabular/seq.node).most -/
def c65_9:ACode := .seq (.ops [ oq 2 (.mv (.v (.int .i64 0)))]) (.seq (.seq (.ops [ oq 3 (.mv (.t 0)),oq 4 (.nc (.t 3)),oq 5 (.fa 0 (.t 4)),oq 6 (.ld none (.t 5))]) (.cond (.t 6) (.seq (.ops [ oq 2 (.mv (.v (.int .i64 48)))]) .ret) .skip)) (.seq (.ops [ oq 2 (.mv (.v (.int .i64 40)))]) .ret))
@[go_sem] def c65_9_wp:=wp_of c65_9.eq_1
def c65:AFn:=⟨7,[.t 2],c65_9⟩
theorem c65_ok:compF Tryz.prog Tryz.f65=some c65:=by kernel_rfl
theorem a65 {args:List AV} {σ:ASt} {R:AV->ASt->Prop} (hl:args.length<=7) (h:c65_9.wp Tryz.prog (RetQ [.t 2] R) (init args) σ):ACalls Tryz.prog 65 args σ R:=acalls_of Tryz.func65 c65_ok hl h
end Go.A
section
attribute [local go_sem] reduceCtorEq Nat.reduceEqDiff Nat.reduceAdd Nat.reduceSub Nat.reduceMul Nat.reduceLeDiff Int.reduceLT Int.reduceLE Int.reduceEq Int.reduceNeg Int.reduceAdd Int.reduceSub Int.reduceMul true_imp_iff forall_const Nat.mul_one Int.reduceToNat Nat.reducePow Int.reducePow Bool.true_and Bool.false_and Bool.and_false
attribute [local go_sem ↓] reduceIte
namespace Go.A
open Go.Proofs
inductive SN where
 | leaf (up:Nat) (ids:List Nat)
 | inner (up:Nat) (ds cs:List Nat)
structure SLeaf (b:List UInt8) (up:Nat) (ids:List Nat):Prop where
 len:b.length=504
 b0:b[0]? = some 1
 b1:b[1]? = some (UInt8.ofNat ids.length)
 ub:bat b 4 4=le32 up
 most:ids.length<=48
 uu:up<4294967296
 iu:u64L ids
 i:∀ (i x:Nat),ids[i]? = some x->bat b (8+8*i) 8=le64 x
structure SInner (b:List UInt8) (up:Nat) (ds cs:List Nat):Prop where
 len:b.length=504
 b0:b[0]? = some 2
 b1:b[1]? = some (UInt8.ofNat ds.length)
 ub:bat b 4 4=le32 up
 n:cs.length=ds.length
 most:ds.length<=40
 uu:up<4294967296
 du:u32L ds
 cu:u32L cs
 d:∀ (i x:Nat),ds[i]? = some x->bat b (8+8*i) 4=le32 x
 c:∀ (i x:Nat),cs[i]? = some x->bat b (12+8*i) 4=le32 x
def SNodeR (r:Role):SN->Prop
 | .leaf up ids=>∃ k1,r = .obj [.bool true,.int .i64 up,.sl k1 (kv .u64 ids),.sl .full [],.sl .full []]
 | .inner up ds cs=>∃ k1 k2 k3,r = .obj [.bool false,.int .i64 up,.sl k1 [],.sl k2 (kv .i64 ds),.sl k3 (kv .i64 cs)]
def SN.size:SN->Nat
 | .leaf _ ids=>ids.length
 | .inner _ ds _=>ds.length
section
variable {σ:ASt} {X n c up:Nat} {b:List UInt8} {ids ds cs:List Nat} {r:Role} {nd:SN}
theorem sqsize_ok (hn:σ n=some r) (hr:SNodeR r nd) (hz:nd.size<=1000):ACalls Tryz.prog 54 [.ptr n 0] σ fun v σ'=>v = .int .i64 nd.size/\σ'=σ:=by
 cases nd with
 | leaf up ids=>
   obtain ⟨k1,rfl⟩:=hr
   have hkl:=kv_len .u64 ids
   have hz:ids.length<=1000:=hz
   show ACalls _ _ _ _ fun v σ'=>v = .int .i64 (ids.length:Nat)/\σ'=σ
   generalize kv .u64 ids=KS at *
   refine a54 (by simp) ?_
   simp (disch:=first|assumption|omega|(simp only [List.length_append,List.length_cons,List.length_nil];omega)) only [go_sem,hn,hkl]
   exact retC_by (.refl _) (.refl _) ⟨rfl,rfl⟩
 | inner up ds cs=>
   obtain ⟨k1,k2,k3,rfl⟩:=hr
   have hkl:=kv_len .i64 ds
   have hz:ds.length<=1000:=hz
   show ACalls _ _ _ _ fun v σ'=>v = .int .i64 (ds.length:Nat)/\σ'=σ
   generalize kv .i64 ds=KS at *
   refine a54 (by simp) ?_
   simp (disch:=first|assumption|omega|(simp only [List.length_append,List.length_cons,List.length_nil];omega)) only [go_sem,hn,hkl,Int.zero_add]
   exact retC_by (.refl _) (.refl _) ⟨rfl,rfl⟩
theorem sqmost_ok {ld:Bool} {xs:List AV} (hn:σ n=some (.obj (.bool ld::xs))):ACalls Tryz.prog 65 [.ptr n 0] σ fun v σ'=>v = .int .i64 (if ld then 48 else 40)/\σ'=σ:=by
 refine a65 (by simp) ?_
 cases ld
 ·simp (disch:=first|assumption|omega|(simp only [List.length_append,List.length_cons,List.length_nil];omega)) only [go_sem,hn]
  exact retC_by (.refl _) (.refl _) ⟨rfl,rfl⟩
 ·simp (disch:=first|assumption|omega|(simp only [List.length_append,List.length_cons,List.length_nil];omega)) only [go_sem,hn]
  exact retC_by (.refl _) (.refl _) ⟨rfl,rfl⟩
set_option maxHeartbeats 1000000 in
theorem sqenc_leaf (hX:σ X=some (.obj (bytesAV b))) (hb:b.length=504) (hc:504<=c) (hn:σ n=some r) (hr:SNodeR r (.leaf up ids)) (hnX:n≠X) (hm:ids.length<=48) (huu:up<4294967296) (hiu:u64L ids) :
  ACalls Tryz.prog 23 [.msl X 0 504 c,.ptr n 0] σ fun r σ'=>r = .tuple []/\∃ b',SLeaf b' up ids/\σ'=σ.set X (some (.obj (bytesAV b'))):=by
 have hsz:=sqsize_ok hn hr (by show ids.length<=1000;omega)
 obtain ⟨k1,rfl⟩:=hr
 have hkl:=kv_len .u64 ids
 have hkg:=fun (i n:Nat) (h:ids[i]? = some n)=>kv_get (k := .u64) h
 generalize kv .u64 ids=KS at *
 have w1:IntKind.wrap .u8 (ids.length:Int)=((UInt8.ofNat ids.length).toNat:Int):=w_ofNat _
 have w2:IntKind.wrap .u32 (up:Int)=(up:Int):=by rw [IntKind.wrap_u32];omega
 have p1:=put_byte (b:=b) (o:=1) (UInt8.ofNat ids.length)
 obtain ⟨b1,hb1⟩:∃ b1,b1=spl b 1 [UInt8.ofNat ids.length]:=⟨_,rfl⟩
 have l1:b1.length=504:=by rw [hb1,spl_len (by simp only [List.length_singleton];omega)];exact hb
 have x1:b1[1]? = some (UInt8.ofNat ids.length):=by rw [hb1];exact get_same (by omega)
 rw [<-hb1] at p1
 have c2:=mput32_ok (σ:=σ.set X (some (.obj (bytesAV b1)))) (B:=X) (o:=4) (n:=504-4) (c:=c-4) (v:=up) (ASt.set_same _ _ _) (by omega) (by omega) huu
 obtain ⟨b2,hb2⟩:∃ b2,b2=spl b1 4 (le32 up):=⟨_,rfl⟩
 have l2:b2.length=504:=by rw [hb2,spl_len (by rw [le32_len];omega)];exact l1
 have y1:b2[1]? = some (UInt8.ofNat ids.length):=by rw [hb2,get_else (by rw [le32_len];omega) (by omega)];exact x1
 have y4:bat b2 4 4=le32 up:=by rw [hb2];exact bat_same (by rw [le32_len];omega)
 rw [<-hb2,ASt.set_set] at c2
 have p3:=put_byte (b:=b2) (o:=0) 1
 obtain ⟨b3,hb3⟩:∃ b3,b3=spl b2 0 [1]:=⟨_,rfl⟩
 have l3:b3.length=504:=by rw [hb3,spl_len (by simp only [List.length_singleton];omega)];exact l2
 have z1:b3[1]? = some (UInt8.ofNat ids.length):=by rw [hb3,get_else (by simp only [List.length_singleton];omega) (by simp)];exact y1
 have z0:b3[0]? = some 1:=by rw [hb3];exact get_same (by omega)
 have z4:bat b3 4 4=le32 up:=by rw [hb3,bat_else (by simp only [List.length_singleton];omega) (by simp)];exact y4
 rw [<-hb3] at p3
 clear hb1 hb2 hb3
 have hs4:slV (false,1) (.msl X 0 504 c) 4 504=some (.msl X 4 (504-4) (c-4)):=slV_page (o:=4) (by omega) hc
 have hB0:1+1<=(bytesAV b).length:=by rw [kbytes_len];omega
 have hB2:0+1<=(bytesAV b2).length:=by rw [kbytes_len];omega
 generalize hM0:bytesAV b=M0 at *
 generalize hM2:bytesAV b2=M2 at *
 have e1u:((1:UInt8).toNat:Int)=1:=rfl
 rw [e1u] at p3
 have i1:(1:Int).toNat=1:=rfl
 have i0:(0:Int).toNat=0:=rfl
 rw [List.take_zero,List.nil_append] at p3
 have hszz:(SN.leaf up ids).size=ids.length:=rfl
 rw [hszz] at hsz
 generalize hL:ids.length=L at *
 refine a23 (by simp) ?_
 simp (disch:=first|assumption|omega|(simp only [List.length_append,List.length_cons,List.length_nil];omega)) only [go_sem]
 refine hsz.mono ?_
 rintro r0 σ0 ⟨rfl,rfl⟩
 simp (disch:=first|assumption|omega|(simp only [List.length_append,List.length_cons,List.length_nil];omega)) only [go_sem,hn,hkl,w1,hX,hB0,p1,i0,i1,hs4,w2,hnX,Nat.zero_add]
 refine c2.mono ?_
 rintro r0 σ1 ⟨rfl,rfl⟩
 simp (disch:=first|assumption|omega|(simp only [List.length_append,List.length_cons,List.length_nil];omega)) only [go_sem,hn,hkl,hnX,hB2,p3,i0,i1,Nat.zero_add]
 obtain ⟨J,hJ⟩:∃ J:Nat->AFr->ASt->Prop,J=fun i a1 s2=>i<=L/\(a1 0 = .msl X 0 504 c/\a1 30 = .sl k1 KS/\a1 31 = .int .i64 L/\a1 32 = .int .i64 i)/\∃ b',b'.length=504/\b'[0]? = some 1/\b'[1]? = some (UInt8.ofNat L)/\bat b' 4 4=le32 up ∧
   (∀ (j x:Nat),j<i->ids[j]? = some x->bat b' (8+8*j) 8=le64 x)/\s2=σ0.set X (some (.obj (bytesAV b'))):=⟨_,rfl⟩
 refine wp_loop_on J (fun i=>L-i) 0 ?_ ?_
 ·rw [hJ]
  refine ⟨Nat.zero_le _,?_,b3,l3,z0,z1,z4,fun j k hj=>absurd hj (Nat.not_lt_zero _),rfl⟩
  simp (disch:=first|assumption|omega|(simp only [List.length_append,List.length_cons,List.length_nil];omega)) only [go_sem]
 intro i a1 s2 hj
 rw [hJ] at hj
 obtain ⟨hi,hf,b',hb',h0,h1,h4,hk,rfl⟩:=hj
 by_cases hlt:i<L
 ·have hlt':(i:Int)<(L:Int):=by omega
  obtain ⟨k,hk1⟩:∃ k,ids[i]? = some k:=⟨_,List.getElem?_eq_getElem (by omega)⟩
  have hg1:=hkg i k hk1
  have hs1:slV (false,1) (.msl X 0 504 c) (8+8*(i:Int)) 504=some (.msl X (8+8*i) (504-(8+8*i)) (c-(8+8*i))):=slV_page (o:=8+8*i) (by omega) hc
  have ku:=hiu k (List.mem_of_getElem? hk1)
  have c1:=mput64_ok (σ:=σ0.set X (some (.obj (bytesAV b')))) (B:=X) (o:=8+8*i) (n:=504-(8+8*i)) (c:=c-(8+8*i)) (v:=k) (ASt.set_same _ _ _) (by omega) (by omega) (by omega) ku
  obtain ⟨b4,hb4⟩:∃ b4,b4=spl b' (8+8*i) (le64 k):=⟨_,rfl⟩
  have l4:b4.length=504:=by rw [hb4,spl_len (by rw [le64_len];omega)];exact hb'
  rw [<-hb4,ASt.set_set] at c1
  have f4:∀ o n,o+n<=8+8*i\/8+8*i+8<=o->bat b4 o n=bat b' o n:=fun o n h=>by rw [hb4];exact bat_else (by rw [le64_len];omega) h
  have q4:bat b4 (8+8*i) 8=le64 k:=by rw [hb4];exact bat_same (by rw [le64_len];omega)
  have y0:b4[0]? = some 1:=by rw [hb4,get_else (by rw [le64_len];omega) (by omega)];exact h0
  have y1:b4[1]? = some (UInt8.ofNat L):=by rw [hb4,get_else (by rw [le64_len];omega) (by omega)];exact h1
  clear hb4
  simp (disch:=first|assumption|omega|(simp only [List.length_append,List.length_cons,List.length_nil];omega)) only [go_sem,hf,hlt',hg1,hs1,Int.toNat_natCast]
  refine c1.mono ?_
  rintro r σ1 ⟨rfl,rfl⟩
  simp (disch:=first|assumption|omega|(simp only [List.length_append,List.length_cons,List.length_nil];omega)) only [go_sem,hf]
  refine ⟨i+1,by omega,?_⟩
  rw [hJ]
  refine ⟨by omega,?_,b4,l4,y0,y1,by rw [f4 _ _ (by omega)];exact h4,fun j k' hj hk'=>?_,rfl⟩
  ·simp (disch:=first|assumption|omega|(simp only [List.length_append,List.length_cons,List.length_nil];omega)) only [go_sem,hf]
  ·by_cases hji:j=i
   ·subst hji
    rw [hk1] at hk'
    rw [<-Option.some.inj hk']
    exact q4
   ·rw [f4 _ _ (by omega)]
    exact hk j k' (by omega) hk'
 ·have hlt':¬ (i:Int)<(L:Int):=by omega
  obtain rfl:i=L:=by omega
  have hfin:SLeaf b' up ids:=⟨hb',h0,by rw [hL];exact h1,h4,by rw [hL];exact hm,huu,hiu,fun j k hk'=>hk j k (by have:=(List.getElem?_eq_some_iff.1 hk').1;omega) hk'⟩
  simp (disch:=first|assumption|omega|(simp only [List.length_append,List.length_cons,List.length_nil];omega)) only [go_sem,hf,hlt']
  exact retC_by (.refl _) (.refl _) ⟨rfl,b',hfin,rfl⟩
set_option maxHeartbeats 1000000 in
theorem sqenc_inner (hX:σ X=some (.obj (bytesAV b))) (hb:b.length=504) (hc:504<=c) (hn:σ n=some r) (hr:SNodeR r (.inner up ds cs)) (hnX:n≠X) (hcs:cs.length=ds.length) (hm:ds.length<=40) (huu:up<4294967296) (hdu:u32L ds) (hcu:u32L cs) :
  ACalls Tryz.prog 23 [.msl X 0 504 c,.ptr n 0] σ fun r σ'=>r = .tuple []/\∃ b',SInner b' up ds cs/\σ'=σ.set X (some (.obj (bytesAV b'))):=by
 have hsz:=sqsize_ok hn hr (by show ds.length<=1000;omega)
 obtain ⟨k1,k2,k3,rfl⟩:=hr
 have hkl:=kv_len .i64 ds
 have hcl:=kv_len .i64 cs
 have hkg:=fun (i n:Nat) (h:ds[i]? = some n)=>kv_get (k := .i64) h
 have hcg:=fun (i n:Nat) (h:cs[i]? = some n)=>kv_get (k := .i64) h
 generalize kv .i64 ds=KS at *
 generalize kv .i64 cs=CS at *
 have w1:IntKind.wrap .u8 (ds.length:Int)=((UInt8.ofNat ds.length).toNat:Int):=w_ofNat _
 have w2:IntKind.wrap .u32 (up:Int)=(up:Int):=by rw [IntKind.wrap_u32];omega
 have p1:=put_byte (b:=b) (o:=1) (UInt8.ofNat ds.length)
 obtain ⟨b1,hb1⟩:∃ b1,b1=spl b 1 [UInt8.ofNat ds.length]:=⟨_,rfl⟩
 have l1:b1.length=504:=by rw [hb1,spl_len (by simp only [List.length_singleton];omega)];exact hb
 have x1:b1[1]? = some (UInt8.ofNat ds.length):=by rw [hb1];exact get_same (by omega)
 rw [<-hb1] at p1
 have c2:=mput32_ok (σ:=σ.set X (some (.obj (bytesAV b1)))) (B:=X) (o:=4) (n:=504-4) (c:=c-4) (v:=up) (ASt.set_same _ _ _) (by omega) (by omega) huu
 obtain ⟨b2,hb2⟩:∃ b2,b2=spl b1 4 (le32 up):=⟨_,rfl⟩
 have l2:b2.length=504:=by rw [hb2,spl_len (by rw [le32_len];omega)];exact l1
 have y1:b2[1]? = some (UInt8.ofNat ds.length):=by rw [hb2,get_else (by rw [le32_len];omega) (by omega)];exact x1
 have y4:bat b2 4 4=le32 up:=by rw [hb2];exact bat_same (by rw [le32_len];omega)
 rw [<-hb2,ASt.set_set] at c2
 have p3:=put_byte (b:=b2) (o:=0) 2
 obtain ⟨b3,hb3⟩:∃ b3,b3=spl b2 0 [2]:=⟨_,rfl⟩
 have l3:b3.length=504:=by rw [hb3,spl_len (by simp only [List.length_singleton];omega)];exact l2
 have z1:b3[1]? = some (UInt8.ofNat ds.length):=by rw [hb3,get_else (by simp only [List.length_singleton];omega) (by simp)];exact y1
 have z0:b3[0]? = some 2:=by rw [hb3];exact get_same (by omega)
 have z4:bat b3 4 4=le32 up:=by rw [hb3,bat_else (by simp only [List.length_singleton];omega) (by simp)];exact y4
 rw [<-hb3] at p3
 clear hb1 hb2 hb3
 have hs4:slV (false,1) (.msl X 0 504 c) 4 504=some (.msl X 4 (504-4) (c-4)):=slV_page (o:=4) (by omega) hc
 have hB0:1+1<=(bytesAV b).length:=by rw [kbytes_len];omega
 have hB2:0+1<=(bytesAV b2).length:=by rw [kbytes_len];omega
 generalize hM0:bytesAV b=M0 at *
 generalize hM2:bytesAV b2=M2 at *
 have e1u:((2:UInt8).toNat:Int)=2:=rfl
 rw [e1u] at p3
 have i1:(1:Int).toNat=1:=rfl
 have i0:(0:Int).toNat=0:=rfl
 rw [List.take_zero,List.nil_append] at p3
 have hszz:(SN.inner up ds cs).size=ds.length:=rfl
 rw [hszz] at hsz
 generalize hL:ds.length=L at *
 refine a23 (by simp) ?_
 simp (disch:=first|assumption|omega|(simp only [List.length_append,List.length_cons,List.length_nil];omega)) only [go_sem]
 refine hsz.mono ?_
 rintro r0 σ0 ⟨rfl,rfl⟩
 simp (disch:=first|assumption|omega|(simp only [List.length_append,List.length_cons,List.length_nil];omega)) only [go_sem,hn,hkl,w1,hX,hB0,p1,i0,i1,hs4,w2,hnX,Nat.zero_add]
 refine c2.mono ?_
 rintro r0 σ1 ⟨rfl,rfl⟩
 simp (disch:=first|assumption|omega|(simp only [List.length_append,List.length_cons,List.length_nil];omega)) only [go_sem,hn,hkl,hnX,hB2,p3,i0,i1,Nat.zero_add]
 obtain ⟨J,hJ⟩:∃ J:Nat->AFr->ASt->Prop,J=fun i a1 s2=>i<=L/\(a1 0 = .msl X 0 504 c/\a1 1 = .ptr n 0/\a1 50 = .sl k2 KS/\a1 51 = .int .i64 L/\a1 52 = .int .i64 i)/\∃ b',b'.length=504/\b'[0]? = some 2/\b'[1]? = some (UInt8.ofNat L)/\bat b' 4 4=le32 up ∧
   (∀ (j x:Nat),j<i->ds[j]? = some x->bat b' (8+8*j) 4=le32 x)/\(∀ (j x:Nat),j<i->cs[j]? = some x->bat b' (12+8*j) 4=le32 x)/\s2=σ0.set X (some (.obj (bytesAV b'))):=⟨_,rfl⟩
 refine wp_loop_on J (fun i=>L-i) 0 ?_ ?_
 ·rw [hJ]
  refine ⟨Nat.zero_le _,?_,b3,l3,z0,z1,z4,fun j k hj=>absurd hj (Nat.not_lt_zero _),fun j k hj=>absurd hj (Nat.not_lt_zero _),rfl⟩
  simp (disch:=first|assumption|omega|(simp only [List.length_append,List.length_cons,List.length_nil];omega)) only [go_sem]
 intro i a1 s2 hj
 rw [hJ] at hj
 obtain ⟨hi,hf,b',hb',h0,h1,h4,hk,hkc,rfl⟩:=hj
 by_cases hlt:i<L
 ·have hlt':(i:Int)<(L:Int):=by omega
  obtain ⟨k,hk1⟩:∃ k,ds[i]? = some k:=⟨_,List.getElem?_eq_getElem (by omega)⟩
  obtain ⟨w,hw1⟩:∃ k,cs[i]? = some k:=⟨_,List.getElem?_eq_getElem (by omega)⟩
  have hg1:=hkg i k hk1
  have hg2:=hcg i w hw1
  have hcll:(i:Int)<(cs.length:Int):=by omega
  have hs1:slV (false,1) (.msl X 0 504 c) (8+8*(i:Int)) 504=some (.msl X (8+8*i) (504-(8+8*i)) (c-(8+8*i))):=slV_page (o:=8+8*i) (by omega) hc
  have hs2:slV (false,1) (.msl X 0 504 c) (12+8*(i:Int)) 504=some (.msl X (12+8*i) (504-(12+8*i)) (c-(12+8*i))):=slV_page (o:=12+8*i) (by omega) hc
  have ku:=hdu k (List.mem_of_getElem? hk1)
  have cu:=hcu w (List.mem_of_getElem? hw1)
  have c1:=mput32_ok (σ:=σ0.set X (some (.obj (bytesAV b')))) (B:=X) (o:=8+8*i) (n:=504-(8+8*i)) (c:=c-(8+8*i)) (v:=k) (ASt.set_same _ _ _) (by omega) (by omega) ku
  obtain ⟨b4,hb4⟩:∃ b4,b4=spl b' (8+8*i) (le32 k):=⟨_,rfl⟩
  have l4:b4.length=504:=by rw [hb4,spl_len (by rw [le32_len];omega)];exact hb'
  rw [<-hb4,ASt.set_set] at c1
  have c3:=mput32_ok (σ:=σ0.set X (some (.obj (bytesAV b4)))) (B:=X) (o:=12+8*i) (n:=504-(12+8*i)) (c:=c-(12+8*i)) (v:=w) (ASt.set_same _ _ _) (by omega) (by omega) cu
  obtain ⟨b5,hb5⟩:∃ b5,b5=spl b4 (12+8*i) (le32 w):=⟨_,rfl⟩
  have l5:b5.length=504:=by rw [hb5,spl_len (by rw [le32_len];omega)];exact l4
  rw [<-hb5,ASt.set_set] at c3
  have f4:∀ o n,o+n<=8+8*i\/8+8*i+4<=o->bat b4 o n=bat b' o n:=fun o n h=>by rw [hb4];exact bat_else (by rw [le32_len];omega) h
  have f5:∀ o n,o+n<=12+8*i\/12+8*i+4<=o->bat b5 o n=bat b4 o n:=fun o n h=>by rw [hb5];exact bat_else (by rw [le32_len];omega) h
  have q4:bat b4 (8+8*i) 4=le32 k:=by rw [hb4];exact bat_same (by rw [le32_len];omega)
  have q5:bat b5 (12+8*i) 4=le32 w:=by rw [hb5];exact bat_same (by rw [le32_len];omega)
  have y0:b5[0]? = some 2:=by rw [hb5,get_else (by rw [le32_len];omega) (by omega),hb4,get_else (by rw [le32_len];omega) (by omega)];exact h0
  have y1:b5[1]? = some (UInt8.ofNat L):=by rw [hb5,get_else (by rw [le32_len];omega) (by omega),hb4,get_else (by rw [le32_len];omega) (by omega)];exact h1
  clear hb4 hb5
  have du':(k:Int)<=4294967295:=by omega
  have du2:(w:Int)<=4294967295:=by omega
  simp (disch:=first|assumption|omega|(simp only [List.length_append,List.length_cons,List.length_nil];omega)) only [go_sem,hf,hlt',hg1,hs1,Int.toNat_natCast]
  refine c1.mono ?_
  rintro r σ1 ⟨rfl,rfl⟩
  simp (disch:=first|assumption|omega|(simp only [List.length_append,List.length_cons,List.length_nil];omega)) only [go_sem,hf,hn,hnX,hcl,hcll,hg2,hs2,Int.toNat_natCast]
  refine c3.mono ?_
  rintro r σ1 ⟨rfl,rfl⟩
  simp (disch:=first|assumption|omega|(simp only [List.length_append,List.length_cons,List.length_nil];omega)) only [go_sem,hf]
  refine ⟨i+1,by omega,?_⟩
  rw [hJ]
  refine ⟨by omega,?_,b5,l5,y0,y1,by rw [f5 _ _ (by omega),f4 _ _ (by omega)];exact h4,fun j k' hj hk'=>?_,fun j k' hj hk'=>?_,rfl⟩
  ·simp (disch:=first|assumption|omega|(simp only [List.length_append,List.length_cons,List.length_nil];omega)) only [go_sem,hf]
  ·by_cases hji:j=i
   ·subst hji
    rw [hk1] at hk'
    rw [<-Option.some.inj hk',f5 _ _ (by omega)]
    exact q4
   ·rw [f5 _ _ (by omega),f4 _ _ (by omega)]
    exact hk j k' (by omega) hk'
  ·by_cases hji:j=i
   ·subst hji
    rw [hw1] at hk'
    rw [<-Option.some.inj hk']
    exact q5
   ·rw [f5 _ _ (by omega),f4 _ _ (by omega)]
    exact hkc j k' (by omega) hk'
 ·have hlt':¬ (i:Int)<(L:Int):=by omega
  obtain rfl:i=L:=by omega
  have hfin:SInner b' up ds cs:=⟨hb',h0,by rw [hL];exact h1,h4,by rw [hL];exact hcs,by rw [hL];exact hm,huu,hdu,hcu,fun j k hk'=>hk j k (by have:=(List.getElem?_eq_some_iff.1 hk').1;omega) hk',fun j k hk'=>hkc j k (by have:=(List.getElem?_eq_some_iff.1 hk').1;omega) hk'⟩
  simp (disch:=first|assumption|omega|(simp only [List.length_append,List.length_cons,List.length_nil];omega)) only [go_sem,hf,hlt']
  exact retC_by (.refl _) (.refl _) ⟨rfl,b',hfin,rfl⟩
end
end Go.A
namespace Go.A
open Go.Proofs
/-! 77: tabular/seq.decode -/
def c77_24:ACode := .seq (.ops [ oq 39 (.bin .lss (.t 38) (.t 37))]) (.seq (.cond (.t 39) .skip (.exit 0)) (.seq (.block 1 (.seq (.ops [ oq 40 (.mv (.t 38)),oq 6 (.mv (.t 40))]) (.seq (.ops [ oq 41 (.mv (.t 5)),oq 42 (.nc (.t 41)),oq 43 (.fa 0 (.t 42)),oq 44 (.ld none (.t 43))]) (.cond (.t 44) (.ops [ oq 45 (.mv (.t 5)),oq 46 (.mv (.t 5)),oq 47 (.nc (.t 46)),oq 48 (.fa 2 (.t 47)),oq 49 (.ld none (.t 48)),oq 50 (.mv (.t 0)),oq 51 (.mv (.t 6)),oq 52 (.bin .mul (.v (.int .i64 8)) (.t 51)),oq 53 (.bin .add (.v (.int .i64 8)) (.t 52)),oq 54 (.slfrom (false,1) (.t 50) (.t 53)),⟨some 55,none,.e (.call 103 [(.t 54)]),[⟨none,.ld none (.t 48),49⟩]⟩,oq 56 (.bslv 1 [(.t 55)]),oe 57 (.app 33 1 8 [(.int .u64 0)] (.t 49) (.t 56)),oq 58 (.nc (.t 45)),oq 59 (.fa 2 (.t 58)),oz (.store 1 (.t 59) (.t 57))]) (.seq (.ops [ oq 60 (.mv (.t 5)),oq 61 (.mv (.t 5)),oq 62 (.nc (.t 61)),oq 63 (.fa 3 (.t 62)),oq 64 (.ld none (.t 63)),oq 65 (.mv (.t 0)),oq 66 (.mv (.t 6)),oq 67 (.bin .mul (.v (.int .i64 8)) (.t 66)),oq 68 (.bin .add (.v (.int .i64 8)) (.t 67)),oq 69 (.slfrom (false,1) (.t 65) (.t 68)),⟨some 70,none,.e (.call 102 [(.t 69)]),[⟨none,.ld none (.t 63),64⟩]⟩,oq 71 (.conv .i64 (.t 70)),oq 72 (.bslv 1 [(.t 71)]),oe 73 (.app 3 1 8 [(.int .i64 0)] (.t 64) (.t 72)),oq 74 (.nc (.t 60)),oq 75 (.fa 3 (.t 74)),oz (.store 1 (.t 75) (.t 73))]) (.ops [ oq 76 (.mv (.t 5)),oq 77 (.mv (.t 5)),oq 78 (.nc (.t 77)),oq 79 (.fa 4 (.t 78)),oq 80 (.ld none (.t 79)),oq 81 (.mv (.t 0)),oq 82 (.mv (.t 6)),oq 83 (.bin .mul (.v (.int .i64 8)) (.t 82)),oq 84 (.bin .add (.v (.int .i64 12)) (.t 83)),oq 85 (.slfrom (false,1) (.t 81) (.t 84)),⟨some 86,none,.e (.call 102 [(.t 85)]),[⟨none,.ld none (.t 79),80⟩]⟩,oq 87 (.conv .i64 (.t 86)),oq 88 (.bslv 1 [(.t 87)]),oe 89 (.app 3 1 8 [(.int .i64 0)] (.t 80) (.t 88)),oq 90 (.nc (.t 76)),oq 91 (.fa 4 (.t 90)),oz (.store 1 (.t 91) (.t 89))])))))) (.ops [ oq 92 (.bin .add (.t 38) (.v (.int .i64 1))),oq 38 (.mv (.t 92))])))
def c77_34:ACode := .seq (.ops [ oq 2 (.mv (.v .nilp)),oq 3 (.mv (.v (.int .i64 0)))]) (.seq (.ops [ oq 7 (.mv (.t 0)),oq 8 (.ia 1 (.t 7) (.v (.int .i64 1))),oq 9 (.ld none (.t 8)),oq 10 (.conv .i64 (.t 9)),oq 4 (.mv (.t 10))]) (.seq (.ops [ oq 11 (.mv (.t 0)),oq 12 (.ia 1 (.t 11) (.v (.int .i64 0))),oq 13 (.ld none (.t 12)),oq 14 (.bin .eql (.t 13) (.v (.int .u8 1))),oq 15 (.mv (.t 0)),oq 16 (.slfrom (false,1) (.t 15) (.v (.int .i64 4))),⟨some 17,none,.e (.call 102 [(.t 16)]),[⟨none,.ld none (.t 12),13⟩]⟩,oq 18 (.conv .i64 (.t 17)),oq 19 (.build [(.bool false),(.int .i64 0),(.sl .full []),(.sl .full []),(.sl .full [])] [(0,1,(.t 14)),(1,1,(.t 18))]),oe 20 (.box (.t 19)),oq 5 (.mv (.t 20))]) (.seq (.seq (.ops [ oq 21 (.mv (.t 0)),oq 22 (.ia 1 (.t 21) (.v (.int .i64 0))),oq 23 (.ld none (.t 22)),oq 24 (.bin .lss (.t 23) (.v (.int .u8 1))),oq 25 (.mv (.t 24)),⟨some 26,some (25,false),.q (.mv (.t 0)),[]⟩,⟨some 27,some (25,false),.q (.ia 1 (.t 26) (.v (.int .i64 0))),[]⟩,⟨some 28,some (25,false),.q (.ld none (.t 27)),[]⟩,⟨some 29,some (25,false),.q (.bin .gtr (.t 28) (.v (.int .u8 2))),[]⟩,oq 30 (.pick (.t 25) (.v (.bool true)) (.t 29)),oq 31 (.mv (.t 30)),⟨some 32,some (31,false),.q (.mv (.t 4)),[]⟩,⟨some 33,some (31,false),.q (.mv (.t 5)),[]⟩,⟨some 34,some (31,false),.e (.call 65 [(.t 33)]),[]⟩,⟨some 35,some (31,false),.q (.bin .gtr (.t 32) (.t 34)),[]⟩,oq 36 (.pick (.t 31) (.v (.bool true)) (.t 35))]) (.cond (.t 36) (.seq (.ops [ oq 2 (.mv (.v .nilp)),oq 3 (.mv (.v (.int .i64 3)))]) .ret) .skip)) (.seq (.seq (.ops [ oq 37 (.mv (.t 4)),oq 38 (.mv (.v (.int .i64 0)))]) (.block 0 (.loop c77_24))) (.seq (.ops [ oq 93 (.mv (.t 5)),oq 2 (.mv (.t 93)),oq 3 (.mv (.v (.int .i64 0)))]) .ret)))))
@[go_sem] def c77_24_wp:=wp_of c77_24.eq_1
@[go_sem] def c77_34_wp:=wp_of c77_34.eq_1
def c77:AFn:=⟨94,[.t 2,.t 3],c77_34⟩
theorem c77_ok:compF Tryz.prog Tryz.f77=some c77:=by kernel_rfl
theorem a77 {args:List AV} {σ:ASt} {R:AV->ASt->Prop} (hl:args.length<=94) (h:c77_34.wp Tryz.prog (RetQ [.t 2,.t 3] R) (init args) σ):ACalls Tryz.prog 77 args σ R:=acalls_of Tryz.func77 c77_ok hl h
end Go.A
namespace Go.A
open Go.Proofs
structure LeafS (σ0 σ:ASt) (n:Nat) (x:AV) (up:Nat) (ids:List Nat):Prop where
 kept:Kept σ0 σ
 new:σ0 n=none
 hn:σ n=some (.obj [.bool true,.int .i64 up,x,.sl .full [],.sl .full []])
 hx:OwnR σ0 σ .u64 x ids
 nx:blkV x≠some n
structure InnerS (σ0 σ:ASt) (n:Nat) (y z:AV) (up:Nat) (ds cs:List Nat):Prop where
 kept:Kept σ0 σ
 new:σ0 n=none
 hn:σ n=some (.obj [.bool false,.int .i64 up,.sl .full [],y,z])
 hy:OwnR σ0 σ .i64 y ds
 hz:OwnR σ0 σ .i64 z cs
 ny:blkV y≠some n
 nz:blkV z≠some n
 yz:∀ x,blkV y=some x->blkV z≠some x
section
variable {σ:ASt} {X n c up:Nat} {b:List UInt8} {ids ds cs:List Nat} {r:Role} {nd:SN}
set_option maxHeartbeats 2000000 in
theorem sqdec_leaf (hX:σ X=some (.obj (bytesAV b))) (hc:504<=c) (ht:SLeaf b up ids) :
  ACalls Tryz.prog 77 [.msl X 0 504 c] σ fun r σ'=>∃ n x,r = .tuple [.ptr n 0,.int .i64 0]/\LeafS σ σ' n x up ids:=by
 obtain ⟨hb,h0,h1,hub,hm,huu,hiu,hi⟩:=ht
 have g0:(bytesAV b)[0]? = some (.int .u8 1):=by rw [bytesAV_get,h0];rfl
 have g1:(bytesAV b)[1]? = some (.int .u8 (ids.length:Int)):=by rw [bytesAV_get,h1];show some (AV.int .u8 ((UInt8.ofNat ids.length).toNat:Int))=_;rw [byte_small (by omega)]
 have hXb:=hX
 have hs4:slV (false,1) (.msl X 0 504 c) 4 504=some (.msl X 4 (504-4) (c-4)):=slV_page (o:=4) (by omega) hc
 have cu:=mu32_ok (c:=c-4) (n:=504-4) (o:=4) hXb hub (by omega) huu
 generalize hM:bytesAV b=M at hX g0 g1
 generalize hL:ids.length=L at *
 have hL':¬ (48:Int)<(L:Int):=by omega
 have w2:IntKind.wrap .i64 (up:Int)=(up:Int):=by rw [IntKind.wrap_i64];omega
 have z0:(0:Int).toNat=0:=rfl
 have z1:(1:Int).toNat=1:=rfl
 refine a77 (by simp) ?_
 simp (disch:=first|assumption|omega|(simp only [List.length_append,List.length_cons,List.length_nil];omega)) only [go_sem,hX,g0,g1,z0,z1,hs4,Nat.zero_add]
 refine cu.mono ?_
 rintro r0 σ0 ⟨rfl,rfl⟩
 simp (disch:=first|assumption|omega|(simp only [List.length_append,List.length_cons,List.length_nil];omega)) only [go_sem,hX,g0,w2]
 refine boxC_by rfl fun n hn=>?_
 have hXn:X≠n:=fun e=>by rw [e,hn] at hX;cases hX
 have hX2:=(ASt.set_ne (σ:=σ0) (r:=some (.obj [.bool true,.int .i64 up,.sl .full [],.sl .full [],.sl .full []])) hXn).trans hX
 have hmo:=sqmost_ok (ASt.set_same σ0 n (some (.obj [.bool true,.int .i64 up,.sl .full [],.sl .full [],.sl .full []])))
 simp (disch:=first|assumption|omega|(simp only [List.length_append,List.length_cons,List.length_nil];omega)) only [go_sem,hX2,g0,z0,w2,Nat.zero_add]
 refine hmo.mono ?_
 rintro r0 σ1 ⟨rfl,rfl⟩
 simp (disch:=first|assumption|omega|(simp only [List.length_append,List.length_cons,List.length_nil];omega)) only [go_sem,hL']
 obtain ⟨J,hJ⟩:∃ J:Nat->AFr->ASt->Prop,J=fun i a1 s2=>i<=L/\(a1 0 = .msl X 0 504 c/\a1 5 = .ptr n 0/\a1 37 = .int .i64 L/\a1 38 = .int .i64 i)/\∃ x,LeafS σ0 s2 n x up (ids.take i):=⟨_,rfl⟩
 refine wp_loop_on J (fun i=>L-i) 0 ?_ ?_
 ·rw [hJ]
  refine ⟨Nat.zero_le _,?_,.sl .full [],⟨(Kept.refl σ0).set hn,hn,ASt.set_same _ _ _,OwnR.nil _ _ _,(by intro h;cases h)⟩⟩
  simp (disch:=first|assumption|omega|(simp only [List.length_append,List.length_cons,List.length_nil];omega)) only [go_sem]
 intro i a1 s2 hj
 rw [hJ] at hj
 obtain ⟨hi',hf,x,hm2⟩:=hj
 have hs2n:=hm2.hn
 have hs2X:=hm2.kept _ _ hXb
 by_cases hlt:i<L
 ·have hlt':(i:Int)<(L:Int):=by omega
  obtain ⟨k,hk1⟩:∃ k,ids[i]? = some k:=⟨_,List.getElem?_eq_getElem (by omega)⟩
  have hs1:slV (false,1) (.msl X 0 504 c) (8+8*(i:Int)) 504=some (.msl X (8+8*i) (504-(8+8*i)) (c-(8+8*i))):=slV_page (o:=8+8*i) (by omega) hc
  have ku:=hiu k (List.mem_of_getElem? hk1)
  have c1:=mu64_ok (c:=c-(8+8*i)) (n:=504-(8+8*i)) hs2X (hi i k hk1) (by omega) (by omega) ku
  have tk:=take_snoc hk1
  have hlk:(ids.take i).length<=10000:=by rw [List.length_take];omega
  obtain ⟨xc0,xl0,xa0⟩:=hm2.hx.cell
  simp (disch:=first|assumption|omega|(simp only [List.length_append,List.length_cons,List.length_nil];omega)) only [go_sem,hf,hlt',hs2n,hs1]
  refine c1.mono ?_
  rintro r s3 ⟨rfl,rfl⟩
  simp (disch:=first|assumption|omega|(simp only [List.length_append,List.length_cons,List.length_nil];omega)) only [go_sem,hs2n]
  refine hm2.hx.app (fun z hz=>hm2.kept.gone hz) hlk fun x' X1 r hx1 hor hown=>?_
  have hX1σ:σ0 X1=none:=by
   rcases hor with h|h
   ·exact (hm2.hx.blk h).2
   ·exact hm2.kept.gone h
  have hX1n:n≠X1:=by
   rcases hor with h|h
   ·exact fun e=>hm2.nx (by rw [e];exact h)
   ·exact fun e=>by rw [<-e,hs2n] at h;cases h
  rw [tk] at hown
  have m3:LeafS σ0 ((s3.set X1 (some r)).set n (some (.obj [.bool true,.int .i64 up,x',.sl .full [],.sl .full []]))) n x' up (ids.take (i+1)):=
   ⟨(hm2.kept.set hX1σ).set hm2.new,hm2.new,ASt.set_same _ _ _,hown.set (by rw [hx1];intro h;exact hX1n (Option.some.inj h).symm),by rw [hx1];intro h;exact hX1n (Option.some.inj h).symm⟩
  obtain ⟨xc,xl,xa⟩:=hown.cell
  simp (disch:=first|assumption|omega|(simp only [List.length_append,List.length_cons,List.length_nil];omega)) only [go_sem,hf,hs2n,xc,xl]
  refine ⟨i+1,by omega,?_⟩
  rw [hJ]
  refine ⟨by omega,?_,x',m3⟩
  simp (disch:=first|assumption|omega|(simp only [List.length_append,List.length_cons,List.length_nil];omega)) only [go_sem,hf]
 ·have hlt':¬ (i:Int)<(L:Int):=by omega
  obtain rfl:i=L:=by omega
  rw [List.take_of_length_le (by omega)] at hm2
  simp (disch:=first|assumption|omega|(simp only [List.length_append,List.length_cons,List.length_nil];omega)) only [go_sem,hf,hlt']
  exact retC_by (.refl _) (.refl _) ⟨n,x,rfl,hm2⟩
set_option maxHeartbeats 2000000 in
theorem sqdec_inner (hX:σ X=some (.obj (bytesAV b))) (hc:504<=c) (ht:SInner b up ds cs) :
  ACalls Tryz.prog 77 [.msl X 0 504 c] σ fun r σ'=>∃ n y z,r = .tuple [.ptr n 0,.int .i64 0]/\InnerS σ σ' n y z up ds cs:=by
 obtain ⟨hb,h0,h1,hub,hn0,hm,huu,hdu,hcu,hd,hcs⟩:=ht
 have g0:(bytesAV b)[0]? = some (.int .u8 2):=by rw [bytesAV_get,h0];rfl
 have g1:(bytesAV b)[1]? = some (.int .u8 (ds.length:Int)):=by rw [bytesAV_get,h1];show some (AV.int .u8 ((UInt8.ofNat ds.length).toNat:Int))=_;rw [byte_small (by omega)]
 have hXb:=hX
 have hs4:slV (false,1) (.msl X 0 504 c) 4 504=some (.msl X 4 (504-4) (c-4)):=slV_page (o:=4) (by omega) hc
 have cu:=mu32_ok (c:=c-4) (n:=504-4) (o:=4) hXb hub (by omega) huu
 generalize hM:bytesAV b=M at hX g0 g1
 generalize hL:ds.length=L at *
 have hL':¬ (40:Int)<(L:Int):=by omega
 have w2:IntKind.wrap .i64 (up:Int)=(up:Int):=by rw [IntKind.wrap_i64];omega
 have z0:(0:Int).toNat=0:=rfl
 have z1:(1:Int).toNat=1:=rfl
 refine a77 (by simp) ?_
 simp (disch:=first|assumption|omega|(simp only [List.length_append,List.length_cons,List.length_nil];omega)) only [go_sem,hX,g0,g1,z0,z1,hs4,Nat.zero_add]
 refine cu.mono ?_
 rintro r0 σ0 ⟨rfl,rfl⟩
 simp (disch:=first|assumption|omega|(simp only [List.length_append,List.length_cons,List.length_nil];omega)) only [go_sem,hX,g0,w2]
 refine boxC_by rfl fun n hn=>?_
 have hXn:X≠n:=fun e=>by rw [e,hn] at hX;cases hX
 have hX2:=(ASt.set_ne (σ:=σ0) (r:=some (.obj [.bool false,.int .i64 up,.sl .full [],.sl .full [],.sl .full []])) hXn).trans hX
 have hmo:=sqmost_ok (ASt.set_same σ0 n (some (.obj [.bool false,.int .i64 up,.sl .full [],.sl .full [],.sl .full []])))
 simp (disch:=first|assumption|omega|(simp only [List.length_append,List.length_cons,List.length_nil];omega)) only [go_sem,hX2,g0,z0,w2,Nat.zero_add]
 refine hmo.mono ?_
 rintro r0 σ1 ⟨rfl,rfl⟩
 simp (disch:=first|assumption|omega|(simp only [List.length_append,List.length_cons,List.length_nil];omega)) only [go_sem,hL']
 obtain ⟨J,hJ⟩:∃ J:Nat->AFr->ASt->Prop,J=fun i a1 s2=>i<=L/\(a1 0 = .msl X 0 504 c/\a1 5 = .ptr n 0/\a1 37 = .int .i64 L/\a1 38 = .int .i64 i)/\∃ y z,InnerS σ0 s2 n y z up (ds.take i) (cs.take i):=⟨_,rfl⟩
 refine wp_loop_on J (fun i=>L-i) 0 ?_ ?_
 ·rw [hJ]
  refine ⟨Nat.zero_le _,?_,.sl .full [],.sl .full [],⟨(Kept.refl σ0).set hn,hn,ASt.set_same _ _ _,OwnR.nil _ _ _,OwnR.nil _ _ _,(by intro h;cases h),(by intro h;cases h),(by intro x h;cases h)⟩⟩
  simp (disch:=first|assumption|omega|(simp only [List.length_append,List.length_cons,List.length_nil];omega)) only [go_sem]
 intro i a1 s2 hj
 rw [hJ] at hj
 obtain ⟨hi',hf,y,z,hm2⟩:=hj
 have hs2n:=hm2.hn
 have hs2X:=hm2.kept _ _ hXb
 by_cases hlt:i<L
 ·have hlt':(i:Int)<(L:Int):=by omega
  obtain ⟨k,hk1⟩:∃ k,ds[i]? = some k:=⟨_,List.getElem?_eq_getElem (by omega)⟩
  obtain ⟨v,hv1⟩:∃ k,cs[i]? = some k:=⟨_,List.getElem?_eq_getElem (by omega)⟩
  have hs1:slV (false,1) (.msl X 0 504 c) (8+8*(i:Int)) 504=some (.msl X (8+8*i) (504-(8+8*i)) (c-(8+8*i))):=slV_page (o:=8+8*i) (by omega) hc
  have hs2:slV (false,1) (.msl X 0 504 c) (12+8*(i:Int)) 504=some (.msl X (12+8*i) (504-(12+8*i)) (c-(12+8*i))):=slV_page (o:=12+8*i) (by omega) hc
  have ku:=hdu k (List.mem_of_getElem? hk1)
  have vu:=hcu v (List.mem_of_getElem? hv1)
  have c1:=mu32_ok (c:=c-(8+8*i)) (n:=504-(8+8*i)) hs2X (hd i k hk1) (by omega) ku
  have tk:=take_snoc hk1
  have tv:=take_snoc hv1
  have hlk:(ds.take i).length<=10000:=by rw [List.length_take];omega
  have hlv:(cs.take i).length<=10000:=by rw [List.length_take];omega
  have wk:IntKind.wrap .i64 (k:Int)=(k:Int):=by rw [IntKind.wrap_i64];omega
  have wv:IntKind.wrap .i64 (v:Int)=(v:Int):=by rw [IntKind.wrap_i64];omega
  obtain ⟨yc0,yl0,ya0⟩:=hm2.hy.cell
  obtain ⟨zc0,zl0,za0⟩:=hm2.hz.cell
  simp (disch:=first|assumption|omega|(simp only [List.length_append,List.length_cons,List.length_nil];omega)) only [go_sem,hf,hlt',hs2n,hs1,yc0,zc0]
  refine c1.mono ?_
  rintro r s3 ⟨rfl,rfl⟩
  simp (disch:=first|assumption|omega|(simp only [List.length_append,List.length_cons,List.length_nil];omega)) only [go_sem,hs2n,wk]
  refine hm2.hy.app (fun z hz=>hm2.kept.gone hz) hlk fun y' X1 r hx1 hor hown=>?_
  have hX1σ:σ0 X1=none:=by
   rcases hor with h|h
   ·exact (hm2.hy.blk h).2
   ·exact hm2.kept.gone h
  have hX1n:n≠X1:=by
   rcases hor with h|h
   ·exact fun e=>hm2.ny (by rw [e];exact h)
   ·exact fun e=>by rw [<-e,hs2n] at h;cases h
  have hX1z:blkV z≠some X1:=by
   rcases hor with h|h
   ·exact hm2.yz _ h
   ·intro hy
    obtain ⟨⟨q,h2⟩,_⟩:=hm2.hz.blk hy
    rw [h] at h2;cases h2
  rw [tk] at hown
  have m3:InnerS σ0 ((s3.set X1 (some r)).set n (some (.obj [.bool false,.int .i64 up,.sl .full [],y',z]))) n y' z up (ds.take (i+1)) (cs.take i):=by
   refine ⟨(hm2.kept.set hX1σ).set hm2.new,hm2.new,ASt.set_same _ _ _,hown.set (by rw [hx1];intro h;exact hX1n (Option.some.inj h).symm),(hm2.hz.set hX1z).set hm2.nz,by rw [hx1];intro h;exact hX1n (Option.some.inj h).symm,hm2.nz,?_⟩
   intro w hw
   rw [hx1] at hw
   rw [<-Option.some.inj hw]
   exact hX1z
  have hn3:=m3.hn
  have hX3:=m3.kept _ _ hXb
  obtain ⟨yc,yl,ya⟩:=hown.cell
  simp (disch:=first|assumption|omega|(simp only [List.length_append,List.length_cons,List.length_nil];omega)) only [go_sem,hf,hs2n,yc,yl,zc0,hs2]
  generalize (s3.set X1 (some r)).set n (some (.obj [.bool false,.int .i64 up,.sl .full [],y',z]))=s4 at *
  have c2:=mu32_ok (c:=c-(12+8*i)) (n:=504-(12+8*i)) hX3 (hcs i v hv1) (by omega) vu
  refine c2.mono ?_
  rintro r2 s5 ⟨rfl,rfl⟩
  simp (disch:=first|assumption|omega|(simp only [List.length_append,List.length_cons,List.length_nil];omega)) only [go_sem,hn3,wv]
  refine m3.hz.app (fun z hz=>m3.kept.gone hz) hlv fun z' Y1 q hy1 hoy howny=>?_
  have hY1σ:σ0 Y1=none:=by
   rcases hoy with h|h
   ·exact (m3.hz.blk h).2
   ·exact m3.kept.gone h
  have hY1n:n≠Y1:=by
   rcases hoy with h|h
   ·exact fun e=>m3.nz (by rw [e];exact h)
   ·exact fun e=>by rw [<-e,hn3] at h;cases h
  have hY1x:blkV y'≠some Y1:=by
   rcases hoy with h|h
   ·intro hx
    exact m3.yz _ hx h
   ·intro hx
    obtain ⟨⟨q,h2⟩,_⟩:=m3.hy.blk hx
    rw [h] at h2;cases h2
  rw [tv] at howny
  have m5:InnerS σ0 ((s5.set Y1 (some q)).set n (some (.obj [.bool false,.int .i64 up,.sl .full [],y',z']))) n y' z' up (ds.take (i+1)) (cs.take (i+1)):=by
   refine ⟨(m3.kept.set hY1σ).set m3.new,m3.new,ASt.set_same _ _ _,(m3.hy.set hY1x).set m3.ny,howny.set (by rw [hy1];intro h;exact hY1n (Option.some.inj h).symm),m3.ny,by rw [hy1];intro h;exact hY1n (Option.some.inj h).symm,?_⟩
   intro w hw hw2
   rw [hy1] at hw2
   rw [<-Option.some.inj hw2] at hw
   exact hY1x hw
  obtain ⟨zc,zl,za⟩:=howny.cell
  simp (disch:=first|assumption|omega|(simp only [List.length_append,List.length_cons,List.length_nil];omega)) only [go_sem,hf,hn3,zc,zl]
  refine ⟨i+1,by omega,?_⟩
  rw [hJ]
  refine ⟨by omega,?_,y',z',m5⟩
  simp (disch:=first|assumption|omega|(simp only [List.length_append,List.length_cons,List.length_nil];omega)) only [go_sem,hf]
 ·have hlt':¬ (i:Int)<(L:Int):=by omega
  obtain rfl:i=L:=by omega
  rw [List.take_of_length_le (by omega),List.take_of_length_le (by omega)] at hm2
  simp (disch:=first|assumption|omega|(simp only [List.length_append,List.length_cons,List.length_nil];omega)) only [go_sem,hf,hlt']
  exact retC_by (.refl _) (.refl _) ⟨n,y,z,rfl,hm2⟩
end
end Go.A
namespace Go.A
open Go.Proofs
/-! 35: (*tabular/seq.Seq).load -/
def c35_12:ACode := .seq (.ops [ oq 4 (.mv (.v .nilp)),oq 5 (.mv (.v (.int .i64 0)))]) (.seq (.ops [ oq 9 (.mv (.t 0)),oq 10 (.nc (.t 9)),oq 11 (.fa 0 (.t 10)),oq 12 (.ld none (.t 11)),oq 13 (.mv (.t 1)),oe 14 (.call 76 [(.t 12),(.t 13)]),oq 8 (.mv (.t 14)),oq 15 (.ext 0 (.t 8)),oq 16 (.ext 1 (.t 8)),oq 6 (.mv (.t 15)),oq 7 (.mv (.t 16))]) (.seq (.seq (.ops [ oq 17 (.mv (.t 7)),oq 18 (.bin .neq (.t 17) (.v (.int .i64 0)))]) (.cond (.t 18) (.seq (.ops [ oq 19 (.mv (.t 7)),oq 4 (.mv (.v .nilp)),oq 5 (.mv (.t 19))]) .ret) .skip)) (.dfr 22 (.t 6) 20 (.seq (.ops [ oq 21 (.mv (.t 6)),oe 22 (.call 78 [(.t 21)]),oe 23 (.call 77 [(.t 22)]),oq 24 (.ext 0 (.t 23)),oq 25 (.ext 1 (.t 23)),oq 4 (.mv (.t 24)),oq 5 (.mv (.t 25))]) .ret))))
@[go_sem] def c35_12_wp:=wp_of c35_12.eq_1
def c35:AFn:=⟨26,[.t 4,.t 5],c35_12⟩
theorem c35_ok:compF Tryz.prog Tryz.f35=some c35:=by kernel_rfl
theorem a35 {args:List AV} {σ:ASt} {R:AV->ASt->Prop} (hl:args.length<=26) (h:c35_12.wp Tryz.prog (RetQ [.t 4,.t 5] R) (init args) σ):ACalls Tryz.prog 35 args σ R:=acalls_of Tryz.func35 c35_ok hl h
/-! 66: (*tabular/seq.Seq).store -/
def c66_14:ACode := .seq (.ops [ oq 6 (.mv (.v (.int .i64 0)))]) (.seq (.ops [ oq 10 (.mv (.t 0)),oq 11 (.nc (.t 10)),oq 12 (.fa 0 (.t 11)),oq 13 (.ld none (.t 12)),oq 14 (.mv (.t 1)),oe 15 (.call 76 [(.t 13),(.t 14)]),oq 9 (.mv (.t 15)),oq 16 (.ext 0 (.t 9)),oq 17 (.ext 1 (.t 9)),oq 7 (.mv (.t 16)),oq 8 (.mv (.t 17))]) (.seq (.seq (.ops [ oq 18 (.mv (.t 8)),oq 19 (.bin .neq (.t 18) (.v (.int .i64 0)))]) (.cond (.t 19) (.seq (.ops [ oq 20 (.mv (.t 8)),oq 6 (.mv (.t 20))]) .ret) .skip)) (.dfr 22 (.t 7) 21 (.seq (.ops [ oq 22 (.mv (.t 7)),oe 23 (.call 24 [(.t 22)]),oq 24 (.mv (.t 2)),oe 25 (.call 23 [(.t 23),(.t 24)])]) (.seq (.ops [ oq 6 (.mv (.v (.int .i64 0)))]) .ret)))))
@[go_sem] def c66_14_wp:=wp_of c66_14.eq_1
def c66:AFn:=⟨26,[.t 6],c66_14⟩
theorem c66_ok:compF Tryz.prog Tryz.f66=some c66:=by kernel_rfl
theorem a66 {args:List AV} {σ:ASt} {R:AV->ASt->Prop} (hl:args.length<=26) (h:c66_14.wp Tryz.prog (RetQ [.t 6] R) (init args) σ):ACalls Tryz.prog 66 args σ R:=acalls_of Tryz.func66 c66_ok hl h
end Go.A
namespace Go.A
open Go.Proofs
def SPg (b:List UInt8):SN->Prop
 | .leaf up ids=>SLeaf b up ids
 | .inner up ds cs=>SInner b up ds cs
def SN.ok:SN->Prop
 | .leaf up ids=>ids.length<=48/\up<4294967296/\u64L ids
 | .inner up ds cs=>cs.length=ds.length/\ds.length<=40/\up<4294967296/\u32L ds/\u32L cs
theorem SPg.len {b:List UInt8} {nd:SN} (h:SPg b nd):b.length=504:=by
 cases nd with
 | leaf=>exact SLeaf.len h
 | inner=>exact SInner.len h
theorem sqenc_ok {σ:ASt} {X n c:Nat} {b:List UInt8} {nd:SN} {r:Role} (hX:σ X=some (.obj (bytesAV b))) (hb:b.length=504) (hc:504<=c) (hn:σ n=some r) (hr:SNodeR r nd) (hnX:n≠X) (ho:nd.ok) :
  ACalls Tryz.prog 23 [.msl X 0 504 c,.ptr n 0] σ fun r σ'=>r = .tuple []/\∃ b',SPg b' nd/\σ'=σ.set X (some (.obj (bytesAV b'))):=by
 cases nd with
 | leaf up ids=>exact sqenc_leaf hX hb hc hn hr hnX ho.1 ho.2.1 ho.2.2
 | inner up ds cs=>exact sqenc_inner hX hb hc hn hr hnX ho.1 ho.2.1 ho.2.2.1 ho.2.2.2.1 ho.2.2.2.2
section
variable {base base' σ σ':ASt} {p k page fa xa c t root n s:Nat} {m:Int} {pg:Pgs} {dirty:Bool} {b:List UInt8} {nd:SN}
set_option maxHeartbeats 1000000 in
theorem sqload_leafM {up:Nat} {ids:List Nat} (h:PoolAt base σ p m k pg) (ht:base s=some (.obj [.ptr p 0,.int .i64 root,.ptr t 0])) (hq:pg page=some b) (hl:SLeaf b up ids) :
  ACalls Tryz.prog 35 [.ptr s 0,.int .i64 page] σ fun r σ'=>∃ n x base',r = .tuple [.ptr n 0,.int .i64 0]/\LeafS base base' n x up ids/\Only base base' (nodeB n x (.sl .full []))/\PoolAt base' σ' p m k pg:=by
 have hts:=h.at ht
 refine a35 (by simp) ?_
 simp (disch:=first|assumption|omega|(simp only [List.length_append,List.length_cons,List.length_nil];omega)) only [go_sem,hts]
 refine (plpin_ok h hq).mono ?_
 rintro v σ1 ⟨fa,xa,c,dirty,rfl,hxa,hck,hc,h1⟩
 have hX:=h1.at (ASt.set_same base xa (some (.obj (bytesAV b))))
 have hbt:=plbytes_ok h1
 have hdec:=sqdec_leaf hX hc hl
 simp (disch:=first|assumption|omega|(simp only [List.length_append,List.length_cons,List.length_nil];omega)) only [go_sem]
 refine hbt.mono ?_
 rintro v σ2 ⟨rfl,rfl⟩
 simp (disch:=first|assumption|omega|(simp only [List.length_append,List.length_cons,List.length_nil];omega)) only [go_sem]
 refine hdec.mono ?_
 rintro v σ3 ⟨n,x,rfl,hm⟩
 have hP:∀ z,nodeB n x (.sl .full []) z->σ2 z=none:=by
  rintro z (rfl|hz|hz)
  ·exact hm.new
  ·exact (hm.hx.blk hz).2
  ·cases hz
 have hPx:¬ nodeB n x (.sl .full []) xa:=fun hp=>by rw [hP _ hp] at hX;cases hX
 have h3:=h1.grow (P:=nodeB n x (.sl .full [])) hm.kept hP
 have hbx:addB (base.set xa (some (.obj (bytesAV b)))) σ3 (nodeB n x (.sl .full [])) xa=some (.obj (bytesAV b)):=by rw [addB_out hPx];exact ASt.set_same _ _ _
 have hun:=plunpin_d h3 hbx hl.len (.inr hq) hck
 rw [addB_drop hxa hPx,pset_id hq] at hun
 have hin:∀ z,nodeB n x (.sl .full []) z->base z=none:=fun z hz=>by
  cases hc2:base z with
  | none=>rfl
  | some r=>
    have:z≠xa:=fun e=>hPx (e▸hz)
    have:=h1.at ((ASt.set_ne (σ:=base) (r:=some (.obj (bytesAV b))) this).trans hc2)
    rw [hP z hz] at this;cases this
 have hm2:LeafS base (addB base σ3 (nodeB n x (.sl .full []))) n x up ids:=by
  refine ⟨fun z r hz=>?_,hin n (.inl rfl),by rw [addB_in (.inl rfl)];exact hm.hn,?_,hm.nx⟩
  ·rw [addB_out (fun hp=>by rw [hin z hp] at hz;cases hz)];exact hz
  ·rcases hm.hx with ⟨rfl,rfl⟩|⟨X,cc,R,rfl,q1,q2,q3⟩
   ·exact .inl ⟨rfl,rfl⟩
   ·exact .inr ⟨X,cc,R,rfl,by rw [addB_in (.inr (.inl rfl))];exact q1,hin X (.inr (.inl rfl)),q3⟩
 simp (disch:=first|assumption|omega|(simp only [List.length_append,List.length_cons,List.length_nil];omega)) only [go_sem]
 refine hun.mono ?_
 rintro v σ4 ⟨rfl,h4⟩
 exact retC_by (.refl _) (.refl _) ⟨n,x,_,rfl,hm2,fun z hz=>addB_out hz,h4⟩
set_option maxHeartbeats 1000000 in
theorem sqload_innerM {up:Nat} {ds cs:List Nat} (h:PoolAt base σ p m k pg) (ht:base s=some (.obj [.ptr p 0,.int .i64 root,.ptr t 0])) (hq:pg page=some b) (hl:SInner b up ds cs) :
  ACalls Tryz.prog 35 [.ptr s 0,.int .i64 page] σ fun r σ'=>∃ n y z base',r = .tuple [.ptr n 0,.int .i64 0]/\InnerS base base' n y z up ds cs/\Only base base' (nodeB n y z)/\PoolAt base' σ' p m k pg:=by
 have hts:=h.at ht
 refine a35 (by simp) ?_
 simp (disch:=first|assumption|omega|(simp only [List.length_append,List.length_cons,List.length_nil];omega)) only [go_sem,hts]
 refine (plpin_ok h hq).mono ?_
 rintro v σ1 ⟨fa,xa,c,dirty,rfl,hxa,hck,hc,h1⟩
 have hX:=h1.at (ASt.set_same base xa (some (.obj (bytesAV b))))
 have hbt:=plbytes_ok h1
 have hdec:=sqdec_inner hX hc hl
 simp (disch:=first|assumption|omega|(simp only [List.length_append,List.length_cons,List.length_nil];omega)) only [go_sem]
 refine hbt.mono ?_
 rintro v σ2 ⟨rfl,rfl⟩
 simp (disch:=first|assumption|omega|(simp only [List.length_append,List.length_cons,List.length_nil];omega)) only [go_sem]
 refine hdec.mono ?_
 rintro v σ3 ⟨n,y,z,rfl,hm⟩
 have hP:∀ q,nodeB n y z q->σ2 q=none:=by
  rintro q (rfl|hz|hz)
  ·exact hm.new
  ·exact (hm.hy.blk hz).2
  ·exact (hm.hz.blk hz).2
 have hPx:¬ nodeB n y z xa:=fun hp=>by rw [hP _ hp] at hX;cases hX
 have h3:=h1.grow (P:=nodeB n y z) hm.kept hP
 have hbx:addB (base.set xa (some (.obj (bytesAV b)))) σ3 (nodeB n y z) xa=some (.obj (bytesAV b)):=by rw [addB_out hPx];exact ASt.set_same _ _ _
 have hun:=plunpin_d h3 hbx hl.len (.inr hq) hck
 rw [addB_drop hxa hPx,pset_id hq] at hun
 have hin:∀ q,nodeB n y z q->base q=none:=fun q hz=>by
  cases hc2:base q with
  | none=>rfl
  | some r=>
    have:q≠xa:=fun e=>hPx (e▸hz)
    have:=h1.at ((ASt.set_ne (σ:=base) (r:=some (.obj (bytesAV b))) this).trans hc2)
    rw [hP q hz] at this;cases this
 have hm2:InnerS base (addB base σ3 (nodeB n y z)) n y z up ds cs:=by
  refine ⟨fun q r hz=>?_,hin n (.inl rfl),by rw [addB_in (.inl rfl)];exact hm.hn,?_,?_,hm.ny,hm.nz,hm.yz⟩
  ·rw [addB_out (fun hp=>by rw [hin q hp] at hz;cases hz)];exact hz
  ·rcases hm.hy with ⟨rfl,rfl⟩|⟨X,cc,R,rfl,q1,q2,q3⟩
   ·exact .inl ⟨rfl,rfl⟩
   ·exact .inr ⟨X,cc,R,rfl,by rw [addB_in (.inr (.inl rfl))];exact q1,hin X (.inr (.inl rfl)),q3⟩
  ·rcases hm.hz with ⟨rfl,rfl⟩|⟨X,cc,R,rfl,q1,q2,q3⟩
   ·exact .inl ⟨rfl,rfl⟩
   ·exact .inr ⟨X,cc,R,rfl,by rw [addB_in (.inr (.inr rfl))];exact q1,hin X (.inr (.inr rfl)),q3⟩
 simp (disch:=first|assumption|omega|(simp only [List.length_append,List.length_cons,List.length_nil];omega)) only [go_sem]
 refine hun.mono ?_
 rintro v σ4 ⟨rfl,h4⟩
 exact retC_by (.refl _) (.refl _) ⟨n,y,z,_,rfl,hm2,fun z hz=>addB_out hz,h4⟩
theorem LeafS.soft {x:AV} {up:Nat} {ids:List Nat} (h:LeafS base base' n x up ids) (hcb:CkT base) (hp:PoolAt base' σ p m k pg):∃ σ2 r,GDrop σ σ2/\SNodeR r (.leaf up ids)/\σ2 n=some r/\PoolAt (base.set n (some r)) σ2 p m k pg:=by
 obtain ⟨σ2,h1,h2,h3⟩:=node_soft (y := .sl .full []) (ky := .u64) (ly := []) (cs' := [.bool true,.int .i64 up,.sl (kkOf x) (kv .u64 ids),.sl .full [],.sl .full []]) h.kept h.new h.hn h.hx (OwnR.nil _ _ _) h.nx (by intro h;cases h) hcb hp fun σ2 f1 f2 => .cons (.refl _) (.cons (.refl _) (.cons f1 (.cons (.refl _) (.cons (.refl _) .nil))))
 exact ⟨σ2,_,h1,⟨_,rfl⟩,h2,h3⟩
theorem InnerS.soft {y z:AV} {up:Nat} {ds cs:List Nat} (h:InnerS base base' n y z up ds cs) (hcb:CkT base) (hp:PoolAt base' σ p m k pg):∃ σ2 r,GDrop σ σ2/\SNodeR r (.inner up ds cs)/\σ2 n=some r/\PoolAt (base.set n (some r)) σ2 p m k pg:=by
 obtain ⟨σ2,h1,h2,h3⟩:=node_soft (cs' := [.bool false,.int .i64 up,.sl .full [],.sl (kkOf y) (kv .i64 ds),.sl (kkOf z) (kv .i64 cs)]) h.kept h.new h.hn h.hy h.hz h.ny h.nz hcb hp fun σ2 f1 f2 => .cons (.refl _) (.cons (.refl _) (.cons (.refl _) (.cons f1 (.cons f2 .nil))))
 exact ⟨σ2,_,h1,⟨_,_,_,rfl⟩,h2,h3⟩
theorem sqload_ok (h:PoolAt base σ p m k pg) (ht:base s=some (.obj [.ptr p 0,.int .i64 root,.ptr t 0])) (hq:pg page=some b) (hl:SPg b nd) :
  ACalls Tryz.prog 35 [.ptr s 0,.int .i64 page] σ fun r σ'=>∃ n q,r = .tuple [.ptr n 0,.int .i64 0]/\base n=none/\SNodeR q nd/\PoolAt (base.set n (some q)) σ' p m k pg:=by
 cases nd with
 | leaf up ids=>
   refine (sqload_leafM h ht hq hl).post ?_
   rintro v σ1 ⟨n,x,base',rfl,hm,_,hp⟩
   obtain ⟨σ2,r,h1,h2,h3,h4⟩:=hm.soft h.ck hp
   exact ⟨_,σ2,h1.wkv (.refl _),n,r,rfl,hm.new,h2,h4⟩
 | inner up ds cs=>
   refine (sqload_innerM h ht hq hl).post ?_
   rintro v σ1 ⟨n,y,z,base',rfl,hm,_,hp⟩
   obtain ⟨σ2,r,h1,h2,h3,h4⟩:=hm.soft h.ck hp
   exact ⟨_,σ2,h1.wkv (.refl _),n,r,rfl,hm.new,h2,h4⟩
theorem sqload_i (h:PoolAt base σ p m k pg) (ht:base s=some (.obj [.ptr p 0,.int .i64 root,.ptr t 0])) (hq:pg page=some b) (hl:SPg b nd) :
  ACalls Tryz.prog 35 [.ptr s 0,.int .i64 page] σ fun r σ'=>∃ cs,r = .tuple [.imm cs,.int .i64 0]/\SNodeR (.obj cs) nd/\PoolAt base σ' p m k pg:=by
 refine (sqload_ok h ht hq hl).post ?_
 rintro v σ1 ⟨n,q,rfl,hn,hr,hp⟩
 obtain ⟨cs,rfl⟩:∃ cs,q = .obj cs:=by
  cases nd with
  | leaf=>obtain ⟨_,rfl⟩:=hr;exact ⟨_,rfl⟩
  | inner=>obtain ⟨_,_,_,rfl⟩:=hr;exact ⟨_,rfl⟩
 have hσ:=hp.at (ASt.set_same base n (some (.obj cs)))
 have hd:Drop σ1 (σ1.set n none):=fun z=>by
  by_cases hz:z=n
  ·rw [hz,ASt.set_same];exact .inr rfl
  ·rw [ASt.set_ne hz];exact .inl rfl
 have h2:=hp.set (x:=n) none (.inl (by rw [ASt.set_same];simp)) (ck_ne h.ck hn)
 rw [set_none_id hn] at h2
 exact ⟨_,_,WkV.fz hd (.tuple (.cons (.ptr 0 hσ (ASt.set_same _ _ _)) (.cons (.refl _) .nil))),cs,rfl,hr,h2⟩
set_option maxHeartbeats 1000000 in
theorem sqstore_ok {b0:List UInt8} (h:PoolAt base σ p m k pg) (ht:base s=some (.obj [.ptr p 0,.int .i64 root,.ptr t 0])) (hq:pg page=some b0) (hn:∃ r,base n=some r/\SNodeR r nd) (ho:nd.ok) :
  ACalls Tryz.prog 66 [.ptr s 0,.int .i64 page,.ptr n 0] σ fun r σ'=>r = .int .i64 0/\∃ b',SPg b' nd/\PoolAt base σ' p m k (pset pg page (some b')):=by
 have hts:=h.at ht
 have hb0:=h.slen hq
 obtain ⟨rn,hn1,hn2⟩:=hn
 refine a66 (by simp) ?_
 simp (disch:=first|assumption|omega|(simp only [List.length_append,List.length_cons,List.length_nil];omega)) only [go_sem,hts]
 refine (plpin_ok h hq).mono ?_
 rintro v σ1 ⟨fa,xa,c,dirty,rfl,hxa,hck,hc,h1⟩
 have hnx:n≠xa:=fun e=>by rw [e,hxa] at hn1;cases hn1
 simp (disch:=first|assumption|omega|(simp only [List.length_append,List.length_cons,List.length_nil];omega)) only [go_sem]
 refine (pledit_ok h1).mono ?_
 rintro v σ2 ⟨rfl,h2⟩
 have hX:=h2.at (ASt.set_same base xa (some (.obj (bytesAV b0))))
 have hN:=h2.at ((ASt.set_ne (σ:=base) (r:=some (.obj (bytesAV b0))) hnx).trans hn1)
 simp (disch:=first|assumption|omega|(simp only [List.length_append,List.length_cons,List.length_nil];omega)) only [go_sem]
 refine (sqenc_ok hX hb0 hc hN hn2 hnx ho).mono ?_
 rintro v σ3 ⟨rfl,b',hb',rfl⟩
 have h3:=h2.set (x:=xa) (some (.obj (bytesAV b'))) (.inl (by rw [ASt.set_same];simp)) hck
 rw [ASt.set_set] at h3
 have hun:=plunpin_d h3 (ASt.set_same _ _ _) hb'.len (.inl rfl) hck
 rw [set_none_id hxa] at hun
 simp (disch:=first|assumption|omega|(simp only [List.length_append,List.length_cons,List.length_nil];omega)) only [go_sem]
 refine hun.mono ?_
 rintro v σ4 ⟨rfl,h4⟩
 exact retC_by (.refl _) (.refl _) ⟨rfl,b',hb',h4⟩
end
end Go.A
namespace Go.A
open Go.Proofs
/-! 70: (*tabular/seq.Seq).fresh -/
def c70_17:ACode := .seq (.ops [ oq 4 (.mv (.v (.int .i64 0))),oq 5 (.mv (.v (.int .i64 0)))]) (.seq (.ops [ oq 10 (.mv (.t 0)),oq 11 (.nc (.t 10)),oq 12 (.fa 0 (.t 11)),oq 13 (.ld none (.t 12)),oe 14 (.call 21 [(.t 13)]),oq 9 (.mv (.t 14)),oq 15 (.ext 0 (.t 9)),oq 16 (.ext 1 (.t 9)),oq 6 (.mv (.t 15)),oq 7 (.mv (.t 16))]) (.seq (.seq (.ops [ oq 17 (.mv (.t 7)),oq 18 (.bin .neq (.t 17) (.v (.int .i64 0)))]) (.cond (.t 18) (.seq (.ops [ oq 19 (.mv (.t 7)),oq 4 (.mv (.v (.int .i64 0))),oq 5 (.mv (.t 19))]) .ret) .skip)) (.seq (.ops [ oq 20 (.mv (.t 6)),oe 21 (.call 27 [(.t 20)]),oq 8 (.mv (.t 21))]) (.seq (.ops [ oq 22 (.mv (.t 6)),oe 23 (.call 24 [(.t 22)]),oq 24 (.mv (.t 1)),oe 25 (.call 23 [(.t 23),(.t 24)])]) (.seq (.ops [ oq 26 (.mv (.t 6)),oe 27 (.call 22 [(.t 26)])]) (.seq (.ops [ oq 28 (.mv (.t 8)),oq 29 (.mv (.t 0)),oq 30 (.mv (.t 8)),oq 31 (.mv (.t 1)),oq 32 (.mv (.t 1)),oe 33 (.call 54 [(.t 32)]),oe 34 (.call 94 [(.t 29),(.t 30),(.t 31),(.v (.int .i64 0)),(.t 33)]),oq 4 (.mv (.t 28)),oq 5 (.mv (.t 34))]) .ret))))))
@[go_sem] def c70_17_wp:=wp_of c70_17.eq_1
def c70:AFn:=⟨35,[.t 4,.t 5],c70_17⟩
theorem c70_ok:compF Tryz.prog Tryz.f70=some c70:=by kernel_rfl
theorem a70 {args:List AV} {σ:ASt} {R:AV->ASt->Prop} (hl:args.length<=35) (h:c70_17.wp Tryz.prog (RetQ [.t 4,.t 5] R) (init args) σ):ACalls Tryz.prog 70 args σ R:=acalls_of Tryz.func70 c70_ok hl h
/-! 94: (*tabular/seq.Seq).adopt -/
def c94_31:ACode := .seq (.seq (.ops [ oq 16 (.mv (.t 11)),oq 17 (.mv (.t 4)),oq 18 (.bin .lss (.t 16) (.t 17))]) (.cond (.t 18) .skip (.exit 0))) (.seq (.block 1 (.seq (.seq (.ops [ oq 21 (.mv (.t 2)),oq 22 (.nc (.t 21)),oq 23 (.fa 0 (.t 22)),oq 24 (.ld none (.t 23))]) (.cond (.t 24) (.seq (.seq (.ops [ oq 25 (.mv (.t 0)),oq 26 (.nc (.t 25)),oq 27 (.fa 2 (.t 26)),oq 28 (.ld none (.t 27)),oq 29 (.mv (.t 2)),oq 30 (.nc (.t 29)),oq 31 (.fa 2 (.t 30)),oq 32 (.ld none (.t 31)),oq 33 (.mv (.t 11)),oq 34 (.ia 1 (.t 32) (.t 33)),oq 35 (.ld none (.t 34)),oq 36 (.mv (.t 1)),oq 37 (.conv .u64 (.t 36)),oe 38 (.call 31 [(.t 28),(.t 35),(.t 37)]),oq 12 (.mv (.t 38))]) (.seq (.ops [ oq 39 (.mv (.t 12)),oq 40 (.bin .neq (.t 39) (.v (.int .i64 0)))]) (.cond (.t 40) (.seq (.ops [ oq 41 (.mv (.t 12)),oq 10 (.mv (.t 41))]) .ret) .skip))) (.exit 1)) .skip)) (.seq (.ops [ oq 43 (.mv (.t 0)),oq 44 (.nc (.t 43)),oq 45 (.fa 0 (.t 44)),oq 46 (.ld none (.t 45)),oq 47 (.mv (.t 2)),oq 48 (.nc (.t 47)),oq 49 (.fa 3 (.t 48)),oq 50 (.ld none (.t 49)),oq 51 (.mv (.t 11)),oq 52 (.ia 1 (.t 50) (.t 51)),oq 53 (.ld none (.t 52)),oe 54 (.call 76 [(.t 46),(.t 53)]),oq 42 (.mv (.t 54)),oq 55 (.ext 0 (.t 42)),oq 56 (.ext 1 (.t 42)),oq 13 (.mv (.t 55)),oq 14 (.mv (.t 56))]) (.seq (.seq (.ops [ oq 57 (.mv (.t 14)),oq 58 (.bin .neq (.t 57) (.v (.int .i64 0)))]) (.cond (.t 58) (.seq (.ops [ oq 59 (.mv (.t 14)),oq 10 (.mv (.t 59))]) .ret) .skip)) (.seq (.ops [ oq 60 (.mv (.t 13)),oe 61 (.call 24 [(.t 60)]),oq 62 (.slfrom (false,1) (.t 61) (.v (.int .i64 4))),oq 63 (.mv (.t 1)),oq 64 (.conv .u32 (.t 63)),oe 65 (.call 25 [(.t 62),(.t 64)])]) (.ops [ oq 66 (.mv (.t 13)),oe 67 (.call 22 [(.t 66)])])))))) (.ops [ oq 19 (.mv (.t 11)),oq 20 (.bin .add (.t 19) (.v (.int .i64 1))),oq 11 (.mv (.t 20))]))
def c94_38:ACode := .seq (.ops [ oq 10 (.mv (.v (.int .i64 0)))]) (.seq (.seq (.ops [ oq 15 (.mv (.t 3)),oq 11 (.mv (.t 15))]) (.block 0 (.loop c94_31))) (.seq (.ops [ oq 10 (.mv (.v (.int .i64 0)))]) .ret))
@[go_sem] def c94_31_wp:=wp_of c94_31.eq_1
@[go_sem] def c94_38_wp:=wp_of c94_38.eq_1
def c94:AFn:=⟨68,[.t 10],c94_38⟩
theorem c94_ok:compF Tryz.prog Tryz.f94=some c94:=by kernel_rfl
theorem a94 {args:List AV} {σ:ASt} {R:AV->ASt->Prop} (hl:args.length<=68) (h:c94_38.wp Tryz.prog (RetQ [.t 10] R) (init args) σ):ACalls Tryz.prog 94 args σ R:=acalls_of Tryz.func94 c94_ok hl h
end Go.A
namespace Go.A
open Go.Proofs
def adL (M:Nat->Option Nat) (l:List Nat) (v:Nat):Nat->Option Nat:=fun x=>if x∈l then some v else M x
theorem adL_nil (M:Nat->Option Nat) (v:Nat):adL M [] v=M:=by
 funext x
 exact if_neg (by simp)
theorem adL_snoc (M:Nat->Option Nat) (l:List Nat) (k v:Nat):upM (adL M l v) k (some v)=adL M (l ++ [k]) v:=by
 funext x
 unfold upM adL
 by_cases h:x=k
 ·rw [if_pos h,if_pos (by rw [h];simp)]
 ·rw [if_neg h]
  by_cases h2:x∈l
  ·rw [if_pos h2,if_pos (by simp [h2])]
  ·rw [if_neg h2,if_neg (by simp [h2,h])]
theorem TrAt.frame {pg pg':Pgs} {root:Nat} {T:Nat->Prop} {M:Nat->Option Nat} (h:TrAt pg root T M) (he:∀ x,T x->pg' x=pg x):TrAt pg' root T M:=by
 rcases h with ⟨b,ks,vs,h1,h2,h3,h4,h5⟩|⟨seps,ds,Ls,⟨⟨b,r1,r2⟩,q2,q3,q4,q5,q6,q7,q8⟩,h2,h3⟩
 ·exact .inl ⟨b,ks,vs,by rw [he root ((h4 root).2 rfl)];exact h1,h2,h3,h4,h5⟩
 ·refine .inr ⟨seps,ds,Ls,⟨⟨b,by rw [he root ((h2 root).2 (.inl rfl))];exact r1,r2⟩,q2,q3,fun i c L hc hL=>?_,q5,q6,q7,q8⟩,h2,h3⟩
  obtain ⟨b,e1,e2⟩:=q4 i c L hc hL
  exact ⟨b,by rw [he c ((h2 c).2 (.inr (List.mem_of_getElem? hc)))];exact e1,e2⟩
theorem TrAt.some {pg:Pgs} {root:Nat} {T:Nat->Prop} {M:Nat->Option Nat} (h:TrAt pg root T M) {x:Nat} (hx:T x):∃ b,pg x=some b:=by
 rcases h with ⟨b,ks,vs,h1,h2,h3,h4,h5⟩|⟨seps,ds,Ls,h1,h2,h3⟩
 ·rw [(h4 x).1 hx];exact ⟨b,h1⟩
 ·rcases (h2 x).1 hx with rfl|hx
  ·obtain ⟨b,r1,_⟩:=h1.rt;exact ⟨b,r1⟩
  ·obtain ⟨i,hi⟩:=List.mem_iff_getElem?.1 hx
   obtain ⟨L,hL⟩:∃ L,Ls[i]? = .some L:=⟨_,List.getElem?_eq_getElem (by rw [h1.n];exact (List.getElem?_eq_some_iff.1 hi).1)⟩
   obtain ⟨b,e,_⟩:=h1.lf i x L hi hL
   exact ⟨b,e⟩
section
variable {base base' σ σ':ASt} {p k page t root troot n s up:Nat} {m:Int} {pg:Pgs} {T:Nat->Prop} {M:Nat->Option Nat} {ids:List Nat} {r:Role}
set_option maxHeartbeats 1000000 in
theorem sqadopt_leaf (h:PoolAt base σ p m k pg) (hs:base s=some (.obj [.ptr p 0,.int .i64 root,.ptr t 0])) (ht:base t=some (.obj [.ptr p 0,.int .i64 troot])) (hn:base n=some r) (hr:SNodeR r (.leaf up ids)) (hT:TrAt pg troot T M) (h60:∀ k v,M k=some v->k<60) (hi60:∀ x∈ids,x<60) (hpage:page<60000)
  {a z:Nat} (haz:a<=z) (hz:z<=ids.length) (hl:ids.length<=1000) (hroom:(k:Int)+2*(z-a:Nat)<=m) :
  ACalls Tryz.prog 94 [.ptr s 0,.int .i64 page,.ptr n 0,.int .i64 a,.int .i64 z] σ fun w σ'=>w = .int .i64 0/\∃ k' pg' T',k'<=k+2*(z-a)/\TrAt pg' troot T' (adL M ((ids.take z).drop a) page)/\Fr T pg T' pg'/\PoolAt base σ' p m k' pg':=by
 obtain ⟨k1,rfl⟩:=hr
 have hkl:=kv_len .u64 ids
 have hkg:=fun (i n:Nat) (h:ids[i]? = some n)=>kv_get (k := .u64) h
 have wp:IntKind.wrap .u64 (page:Int)=(page:Int):=by rw [IntKind.wrap_u64];omega
 generalize kv .u64 ids=KS at *
 obtain ⟨K,hK⟩:∃ K:AV->ASt->Prop,K=fun w σ'=>w = .int .i64 0/\∃ k' pg' T',k'<=k+2*(z-a)/\TrAt pg' troot T' (adL M ((ids.take z).drop a) page)/\Fr T pg T' pg'/\PoolAt base σ' p m k' pg':=⟨_,rfl⟩
 suffices hS:ACalls Tryz.prog 94 [.ptr s 0,.int .i64 page,.ptr n 0,.int .i64 a,.int .i64 z] σ K by rw [hK] at hS;exact hS
 refine a94 (by simp) ?_
 simp (disch:=first|assumption|omega|(simp only [List.length_append,List.length_cons,List.length_nil];omega)) only [go_sem]
 obtain ⟨J,hJ⟩:∃ J:Nat->AFr->ASt->Prop,J=fun i a1 s2=>(a<=i/\i<=z)/\(a1 0 = .ptr s 0/\a1 1 = .int .i64 page/\a1 2 = .ptr n 0/\a1 4 = .int .i64 z/\a1 11 = .int .i64 i)/\∃ k' pg' T',k'<=k+2*(i-a)/\TrAt pg' troot T' (adL M ((ids.take i).drop a) page)/\Fr T pg T' pg'/\PoolAt base s2 p m k' pg':=⟨_,rfl⟩
 refine wp_loop_on J (fun i=>z-i) a ?_ ?_
 ·rw [hJ]
  refine ⟨⟨Nat.le_refl _,haz⟩,?_,k,pg,T,by omega,?_,Fr.refl T pg,h⟩
  ·simp (disch:=first|assumption|omega|(simp only [List.length_append,List.length_cons,List.length_nil];omega)) only [go_sem]
  ·rw [List.drop_of_length_le (by rw [List.length_take];omega),adL_nil];exact hT
 intro i a1 s2 hj
 rw [hJ] at hj
 obtain ⟨⟨hi1,hi2⟩,hf,k',pg',T',hk',hT',hF,hp⟩:=hj
 have hs2:=hp.at hs
 have hn2:=hp.at hn
 by_cases hlt:i<z
 ·have hlt':(i:Int)<(z:Int):=by omega
  obtain ⟨x,hx⟩:∃ x,ids[i]? = some x:=⟨_,List.getElem?_eq_getElem (by omega)⟩
  have hg:=hkg i x hx
  have hil:(i:Int)<(ids.length:Int):=by omega
  have h60':∀ q v,adL M ((ids.take i).drop a) page q=some v->q<60:=fun q v hq=>by
   unfold adL at hq
   split at hq
   ·rename_i e
    exact hi60 q (List.mem_of_mem_take (List.mem_of_mem_drop e))
   ·exact h60 q v hq
  have hput:=trput_at hp ht hT' h60' (key:=x) (v:=page) (hi60 x (List.mem_of_getElem? hx)) (by omega) (by omega)
  simp (disch:=first|assumption|omega|(simp only [List.length_append,List.length_cons,List.length_nil];omega)) only [go_sem,hf,hlt',hs2,hn2,hkl,hg,hil,wp,Int.toNat_natCast]
  refine hput.mono ?_
  rintro w s3 ⟨rfl,k2,pg2,⟨hk2,T2,hT2,hF2⟩,hp2⟩
  rw [adL_snoc] at hT2
  have hsn:(ids.take i).drop a ++ [x]=(ids.take (i+1)).drop a:=by
   rw [<-take_snoc hx,List.drop_append_of_le_length (by rw [List.length_take];omega)]
  rw [hsn] at hT2
  simp (disch:=first|assumption|omega|(simp only [List.length_append,List.length_cons,List.length_nil];omega)) only [go_sem,hf]
  refine ⟨i+1,by omega,?_⟩
  rw [hJ]
  refine ⟨⟨by omega,by omega⟩,?_,k2,pg2,T2,by omega,hT2,hF.trans hF2,hp2⟩
  simp (disch:=first|assumption|omega|(simp only [List.length_append,List.length_cons,List.length_nil];omega)) only [go_sem,hf]
 ·have hlt':¬ (i:Int)<(z:Int):=by omega
  obtain rfl:i=z:=by omega
  simp (disch:=first|assumption|omega|(simp only [List.length_append,List.length_cons,List.length_nil];omega)) only [go_sem,hf,hlt']
  rw [hK]
  exact retC_by (.refl _) (.refl _) ⟨rfl,k',pg',T',hk',hT',hF,hp⟩
set_option maxHeartbeats 1000000 in
theorem sqfresh_leaf (h:PoolAt base σ p m k pg) (hs:base s=some (.obj [.ptr p 0,.int .i64 root,.ptr t 0])) (ht:base t=some (.obj [.ptr p 0,.int .i64 troot])) (hn:base n=some r) (hr:SNodeR r (.leaf up ids)) (ho:(SN.leaf up ids).ok) (hT:TrAt pg troot T M) (h60:∀ k v,M k=some v->k<60) (hi60:∀ x∈ids,x<60)
  (hroom:(k:Int)+1+2*ids.length<=m) :
  ACalls Tryz.prog 70 [.ptr s 0,.ptr n 0] σ fun w σ'=>∃ (q:Nat) (b':List UInt8) (k':Nat) (pg':Pgs) (T':Nat->Prop),w = .tuple [.int .i64 q,.int .i64 0]/\(pg q=none/\1<=q/\q<60000)/\(pg' q=some b'/\SLeaf b' up ids/\¬ T' q)/\k'<=k+1+2*ids.length/\TrAt pg' troot T' (adL M ids q)/\Fr T pg T' pg'/\PoolAt base σ' p m k' pg':=by
 have hss:=h.at hs
 refine a70 (by simp) ?_
 simp (disch:=first|assumption|omega|(simp only [List.length_append,List.length_cons,List.length_nil];omega)) only [go_sem,hss]
 refine (pltake_ok h (by omega)).mono ?_
 rintro v σ1 ⟨q,fa,xa,c,dirty,rfl,hpq,hq1,hq2,hxa,hck,hc,h1⟩
 have hnx:n≠xa:=fun e=>by rw [e,hxa] at hn;cases hn
 have hpage:=plpage_ok h1
 simp (disch:=first|assumption|omega|(simp only [List.length_append,List.length_cons,List.length_nil];omega)) only [go_sem]
 refine hpage.mono ?_
 rintro v σ1' ⟨rfl,rfl⟩
 simp (disch:=first|assumption|omega|(simp only [List.length_append,List.length_cons,List.length_nil];omega)) only [go_sem]
 refine (pledit_ok h1).mono ?_
 rintro v σ2 ⟨rfl,h2⟩
 have hX:=h2.at (ASt.set_same base xa (some (.obj (bytesAV (List.replicate 504 0)))))
 have hN:=h2.at ((ASt.set_ne (σ:=base) (r:=some (.obj (bytesAV (List.replicate 504 0)))) hnx).trans hn)
 simp (disch:=first|assumption|omega|(simp only [List.length_append,List.length_cons,List.length_nil];omega)) only [go_sem]
 refine (sqenc_ok hX List.length_replicate hc hN hr hnx ho).mono ?_
 rintro v σ3 ⟨rfl,b',hb',rfl⟩
 have h3:=h2.set (x:=xa) (some (.obj (bytesAV b'))) (.inl (by rw [ASt.set_same];simp)) hck
 rw [ASt.set_set] at h3
 have hpp:pset (pset pg q (some (List.replicate 504 0))) q (some b')=pset pg q (some b'):=by
  funext z
  unfold pset
  split<;>rfl
 have hun:=plunpin_ok h3 (ASt.set_same _ _ _) (SPg.len hb') (.inl rfl) hck
 rw [set_none_id hxa,hpp] at hun
 simp (disch:=first|assumption|omega|(simp only [List.length_append,List.length_cons,List.length_nil];omega)) only [go_sem]
 refine hun.mono ?_
 rintro v σ4 ⟨rfl,h4⟩
 have hTq:¬ T q:=fun e=>by
  obtain ⟨b,hb⟩:=hT.some e
  rw [hpq] at hb;cases hb
 have hT4:TrAt (pset pg q (some b')) troot T M:=hT.frame fun x hx=>pset_ne fun e=>hTq (e▸hx)
 have hF4:Fr T pg T (pset pg q (some b')):=fun x h1 h2=>⟨h1,pset_ne fun e=>h2 (by rw [e];exact hpq)⟩
 have hlen:ids.length<=48:=ho.1
 have hsz:=sqsize_ok (h4.at hn) hr (by show ids.length<=1000;omega)
 have hszz:(SN.leaf up ids).size=ids.length:=rfl
 rw [hszz] at hsz
 have had:=sqadopt_leaf (page:=q) h4 hs ht hn hr hT4 h60 hi60 hq2 (a:=0) (z:=ids.length) (by omega) (Nat.le_refl _) (by omega) (by omega)
 rw [List.take_of_length_le (Nat.le_refl _),List.drop_zero,Nat.sub_zero] at had
 simp (disch:=first|assumption|omega|(simp only [List.length_append,List.length_cons,List.length_nil];omega)) only [go_sem]
 refine hsz.mono ?_
 rintro v σ5 ⟨rfl,rfl⟩
 simp (disch:=first|assumption|omega|(simp only [List.length_append,List.length_cons,List.length_nil];omega)) only [go_sem]
 refine had.mono ?_
 rintro v σ6 ⟨rfl,k',pg',T',hk',hT',hF',h6⟩
 obtain ⟨f1,f2⟩:=hF' q hTq (by rw [pset_same];simp)
 rw [pset_same] at f2
 simp (disch:=first|assumption|omega|(simp only [List.length_append,List.length_cons,List.length_nil];omega)) only [go_sem]
 exact retC_by (.refl _) (.refl _) ⟨q,b',k',pg',T',rfl,⟨hpq,hq1,hq2⟩,⟨f2,hb',f1⟩,hk',hT',hF4.trans hF',h6⟩
end
end Go.A
namespace Go.A
open Go.Proofs
/-! 29: (*tabular/seq.Seq).down -/
def c29_24:ACode := .seq (.seq (.ops [ oq 34 (.mv (.t 11)),oq 35 (.mv (.t 9)),oq 36 (.nc (.t 35)),oq 37 (.fa 3 (.t 36)),oq 38 (.ld none (.t 37)),oq 39 (.len (.t 38)),oq 40 (.bin .sub (.t 39) (.v (.int .i64 1))),oq 41 (.bin .lss (.t 34) (.t 40)),oq 42 (.mv (.t 41)),⟨some 43,some (42,true),.q (.mv (.t 1)),[]⟩,⟨some 44,some (42,true),.q (.mv (.t 9)),[]⟩,⟨some 45,some (42,true),.q (.nc (.t 44)),[]⟩,⟨some 46,some (42,true),.q (.fa 4 (.t 45)),[]⟩,⟨some 47,some (42,true),.q (.ld none (.t 46)),[]⟩,⟨some 48,some (42,true),.q (.mv (.t 11)),[]⟩,⟨some 49,some (42,true),.q (.ia 1 (.t 47) (.t 48)),[]⟩,⟨some 50,some (42,true),.q (.ld none (.t 49)),[]⟩,⟨some 51,some (42,true),.q (.bin .geq (.t 43) (.t 50)),[]⟩,oq 52 (.pick (.t 42) (.t 51) (.v (.bool false)))]) (.cond (.t 52) .skip (.exit 2))) (.block 3 (.seq (.ops [ oq 53 (.mv (.t 1)),oq 54 (.mv (.t 9)),oq 55 (.nc (.t 54)),oq 56 (.fa 4 (.t 55)),oq 57 (.ld none (.t 56)),oq 58 (.mv (.t 11)),oq 59 (.ia 1 (.t 57) (.t 58)),oq 60 (.ld none (.t 59)),oq 61 (.bin .sub (.t 53) (.t 60)),oq 1 (.mv (.t 61))]) (.ops [ oq 62 (.mv (.t 11)),oq 63 (.bin .add (.t 62) (.v (.int .i64 1))),oq 11 (.mv (.t 63))])))
def c29_41:ACode := .seq (.ops [ oq 17 (.bin .lss (.t 16) (.v (.int .i64 20)))]) (.seq (.cond (.t 17) .skip (.exit 0)) (.seq (.block 1 (.seq (.ops [ oq 19 (.mv (.t 0)),oq 20 (.mv (.t 8)),oe 21 (.call 35 [(.t 19),(.t 20)]),oq 18 (.mv (.t 21)),oq 22 (.ext 0 (.t 18)),oq 23 (.ext 1 (.t 18)),oq 9 (.mv (.t 22)),oq 10 (.mv (.t 23))]) (.seq (.seq (.ops [ oq 24 (.mv (.t 10)),oq 25 (.bin .neq (.t 24) (.v (.int .i64 0)))]) (.cond (.t 25) (.seq (.ops [ oq 26 (.mv (.t 10)),oq 4 (.mv (.v .nilp)),oq 5 (.mv (.v (.int .i64 0))),oq 6 (.mv (.v (.int .i64 0))),oq 7 (.mv (.t 26))]) .ret) .skip)) (.seq (.seq (.ops [ oq 27 (.mv (.t 9)),oq 28 (.nc (.t 27)),oq 29 (.fa 0 (.t 28)),oq 30 (.ld none (.t 29))]) (.cond (.t 30) (.seq (.ops [ oq 31 (.mv (.t 9)),oq 32 (.mv (.t 8)),oq 33 (.mv (.t 1)),oq 4 (.mv (.t 31)),oq 5 (.mv (.t 32)),oq 6 (.mv (.t 33)),oq 7 (.mv (.v (.int .i64 0)))]) .ret) .skip)) (.seq (.ops [ oq 11 (.mv (.v (.int .i64 0)))]) (.seq (.block 2 (.loop c29_24)) (.seq (.seq (.ops [ oq 64 (.mv (.t 9)),oq 65 (.nc (.t 64)),oq 66 (.fa 3 (.t 65)),oq 67 (.ld none (.t 66)),oq 68 (.len (.t 67)),oq 69 (.bin .eql (.t 68) (.v (.int .i64 0)))]) (.cond (.t 69) (.exit 0) .skip)) (.ops [ oq 70 (.mv (.t 9)),oq 71 (.nc (.t 70)),oq 72 (.fa 3 (.t 71)),oq 73 (.ld none (.t 72)),oq 74 (.mv (.t 11)),oq 75 (.ia 1 (.t 73) (.t 74)),oq 76 (.ld none (.t 75)),oq 8 (.mv (.t 76))])))))))) (.ops [ oq 77 (.bin .add (.t 16) (.v (.int .i64 1))),oq 16 (.mv (.t 77))])))
def c29_49:ACode := .seq (.ops [ oq 4 (.mv (.v .nilp)),oq 5 (.mv (.v (.int .i64 0))),oq 6 (.mv (.v (.int .i64 0))),oq 7 (.mv (.v (.int .i64 0)))]) (.seq (.ops [ oq 12 (.mv (.t 0)),oq 13 (.nc (.t 12)),oq 14 (.fa 1 (.t 13)),oq 15 (.ld none (.t 14)),oq 8 (.mv (.t 15))]) (.seq (.seq (.ops [ oq 16 (.mv (.v (.int .i64 0)))]) (.block 0 (.loop c29_41))) (.seq (.ops [ oq 4 (.mv (.v .nilp)),oq 5 (.mv (.v (.int .i64 0))),oq 6 (.mv (.v (.int .i64 0))),oq 7 (.mv (.v (.int .i64 3)))]) .ret)))
@[go_sem] def c29_24_wp:=wp_of c29_24.eq_1
@[go_sem] def c29_41_wp:=wp_of c29_41.eq_1
@[go_sem] def c29_49_wp:=wp_of c29_49.eq_1
def c29:AFn:=⟨78,[.t 4,.t 5,.t 6,.t 7],c29_49⟩
theorem c29_ok:compF Tryz.prog Tryz.f29=some c29:=by kernel_rfl
theorem a29 {args:List AV} {σ:ASt} {R:AV->ASt->Prop} (hl:args.length<=78) (h:c29_49.wp Tryz.prog (RetQ [.t 4,.t 5,.t 6,.t 7] R) (init args) σ):ACalls Tryz.prog 29 args σ R:=acalls_of Tryz.func29 c29_ok hl h
/-! 33: (*tabular/seq.Seq).Len -/
def c33_11:ACode := .seq (.ops [ oq 2 (.mv (.v (.int .i64 0))),oq 3 (.mv (.v (.int .i64 0)))]) (.seq (.ops [ oq 7 (.mv (.t 0)),oq 8 (.mv (.t 0)),oq 9 (.nc (.t 8)),oq 10 (.fa 1 (.t 9)),oq 11 (.ld none (.t 10)),oe 12 (.call 35 [(.t 7),(.t 11)]),oq 6 (.mv (.t 12)),oq 13 (.ext 0 (.t 6)),oq 14 (.ext 1 (.t 6)),oq 4 (.mv (.t 13)),oq 5 (.mv (.t 14))]) (.seq (.seq (.ops [ oq 15 (.mv (.t 5)),oq 16 (.bin .neq (.t 15) (.v (.int .i64 0)))]) (.cond (.t 16) (.seq (.ops [ oq 17 (.mv (.t 5)),oq 2 (.mv (.v (.int .i64 0))),oq 3 (.mv (.t 17))]) .ret) .skip)) (.seq (.ops [ oq 18 (.mv (.t 4)),oe 19 (.call 71 [(.t 18)]),oq 2 (.mv (.t 19)),oq 3 (.mv (.v (.int .i64 0)))]) .ret)))
@[go_sem] def c33_11_wp:=wp_of c33_11.eq_1
def c33:AFn:=⟨20,[.t 2,.t 3],c33_11⟩
theorem c33_ok:compF Tryz.prog Tryz.f33=some c33:=by kernel_rfl
theorem a33 {args:List AV} {σ:ASt} {R:AV->ASt->Prop} (hl:args.length<=20) (h:c33_11.wp Tryz.prog (RetQ [.t 2,.t 3] R) (init args) σ):ACalls Tryz.prog 33 args σ R:=acalls_of Tryz.func33 c33_ok hl h
/-! 71: (*tabular/seq.node).count -/
def c71_17:ACode := .seq (.ops [ oq 21 (.bin .lss (.t 20) (.t 19))]) (.seq (.cond (.t 21) .skip (.exit 0)) (.seq (.block 1 (.seq (.ops [ oq 22 (.ia 1 (.t 18) (.t 20)),oq 23 (.ld none (.t 22)),oq 5 (.mv (.t 23))]) (.ops [ oq 24 (.mv (.t 3)),oq 25 (.mv (.t 5)),oq 26 (.bin .add (.t 24) (.t 25)),oq 3 (.mv (.t 26))]))) (.ops [ oq 27 (.bin .add (.t 20) (.v (.int .i64 1))),oq 20 (.mv (.t 27))])))
def c71_26:ACode := .seq (.ops [ oq 2 (.mv (.v (.int .i64 0)))]) (.seq (.seq (.ops [ oq 6 (.mv (.t 0)),oq 7 (.nc (.t 6)),oq 8 (.fa 0 (.t 7)),oq 9 (.ld none (.t 8))]) (.cond (.t 9) (.seq (.ops [ oq 10 (.mv (.t 0)),oq 11 (.nc (.t 10)),oq 12 (.fa 2 (.t 11)),oq 13 (.ld none (.t 12)),oq 14 (.len (.t 13)),oq 2 (.mv (.t 14))]) .ret) .skip)) (.seq (.ops [ oq 3 (.mv (.v (.int .i64 0)))]) (.seq (.seq (.ops [ oq 15 (.mv (.t 0)),oq 16 (.nc (.t 15)),oq 17 (.fa 4 (.t 16)),oq 18 (.ld none (.t 17)),oq 19 (.len (.t 18)),oq 20 (.mv (.v (.int .i64 0)))]) (.block 0 (.loop c71_17))) (.seq (.ops [ oq 28 (.mv (.t 3)),oq 2 (.mv (.t 28))]) .ret))))
@[go_sem] def c71_17_wp:=wp_of c71_17.eq_1
@[go_sem] def c71_26_wp:=wp_of c71_26.eq_1
def c71:AFn:=⟨29,[.t 2],c71_26⟩
theorem c71_ok:compF Tryz.prog Tryz.f71=some c71:=by kernel_rfl
theorem a71 {args:List AV} {σ:ASt} {R:AV->ASt->Prop} (hl:args.length<=29) (h:c71_26.wp Tryz.prog (RetQ [.t 2] R) (init args) σ):ACalls Tryz.prog 71 args σ R:=acalls_of Tryz.func71 c71_ok hl h
end Go.A
namespace Go.A
open Go.Proofs
section
variable {base base' σ σ':ASt} {p k page t root troot n s up:Nat} {m:Int} {pg:Pgs} {ids ds cs:List Nat} {r:Role}
theorem sqcount_leaf (hn:σ n=some r) (hr:SNodeR r (.leaf up ids)):ACalls Tryz.prog 71 [.ptr n 0] σ fun v σ'=>v = .int .i64 ids.length/\σ'=σ:=by
 obtain ⟨k1,rfl⟩:=hr
 have hkl:=kv_len .u64 ids
 generalize kv .u64 ids=KS at *
 refine a71 (by simp) ?_
 simp (disch:=first|assumption|omega|(simp only [List.length_append,List.length_cons,List.length_nil];omega)) only [go_sem,hn,hkl]
 exact retC_by (.refl _) (.refl _) ⟨rfl,rfl⟩
theorem sum_take_le:∀ (l:List Nat) (i:Nat),(l.take i).sum<=l.sum
 | [],i=>by rw [List.take_nil];exact Nat.le_refl _
 | x::l,0=>Nat.zero_le _
 | x::l,i+1=>by
   rw [List.take_succ_cons,List.sum_cons,List.sum_cons]
   have:=sum_take_le l i
   omega
theorem sqcount_inner (hn:σ n=some r) (hr:SNodeR r (.inner up ds cs)) (hsum:cs.sum<=100000) (hl:cs.length<=1000):ACalls Tryz.prog 71 [.ptr n 0] σ fun v σ'=>v = .int .i64 (cs.sum:Nat)/\σ'=σ:=by
 obtain ⟨k1,k2,k3,rfl⟩:=hr
 have hkl:=kv_len .i64 cs
 have hkg:=fun (i n:Nat) (h:cs[i]? = some n)=>kv_get (k := .i64) h
 generalize kv .i64 cs=CS at *
 refine a71 (by simp) ?_
 simp (disch:=first|assumption|omega|(simp only [List.length_append,List.length_cons,List.length_nil];omega)) only [go_sem,hn,hkl]
 obtain ⟨J,hJ⟩:∃ J:Nat->AFr->ASt->Prop,J=fun i a1 s2=>i<=cs.length/\(a1 3 = .int .i64 ((cs.take i).sum:Nat)/\a1 18 = .sl k3 CS/\a1 19 = .int .i64 cs.length/\a1 20 = .int .i64 i)/\s2=σ:=⟨_,rfl⟩
 refine wp_loop_on J (fun i=>cs.length-i) 0 ?_ ?_
 ·rw [hJ]
  refine ⟨Nat.zero_le _,?_,rfl⟩
  have e0:((cs.take 0).sum:Nat)=0:=rfl
  rw [e0]
  simp (disch:=first|assumption|omega|(simp only [List.length_append,List.length_cons,List.length_nil];omega)) only [go_sem]
 intro i a1 s2 hj
 rw [hJ] at hj
 obtain ⟨hi,hf,rfl⟩:=hj
 by_cases hlt:i<cs.length
 ·have hlt':(i:Int)<(cs.length:Int):=by omega
  obtain ⟨x,hx⟩:∃ x,cs[i]? = some x:=⟨_,List.getElem?_eq_getElem hlt⟩
  have hg:=hkg i x hx
  have hs:=take_snoc hx
  have h1:(cs.take (i+1)).sum=(cs.take i).sum+x:=by rw [<-hs,List.sum_append,List.sum_singleton]
  have h2:=sum_take_le cs (i+1)
  have w1:IntKind.wrap .i64 (((cs.take i).sum:Nat)+(x:Int))=(((cs.take (i+1)).sum:Nat):Int):=by rw [IntKind.wrap_i64];omega
  generalize hZ:(cs.take (i+1)).sum=Z at *
  generalize (cs.take i).sum=W at *
  simp (disch:=first|assumption|omega|(simp only [List.length_append,List.length_cons,List.length_nil];omega)) only [go_sem,hf,hlt',hg,w1,Int.toNat_natCast]
  refine ⟨i+1,by omega,?_⟩
  rw [hJ]
  refine ⟨by omega,?_,rfl⟩
  simp (disch:=first|assumption|omega|(simp only [List.length_append,List.length_cons,List.length_nil];omega)) only [go_sem,hf,w1]
  rw [hZ]
 ·have hlt':¬ (i:Int)<(cs.length:Int):=by omega
  obtain rfl:i=cs.length:=by omega
  rw [List.take_of_length_le (Nat.le_refl _)] at hf
  simp (disch:=first|assumption|omega|(simp only [List.length_append,List.length_cons,List.length_nil];omega)) only [go_sem,hf,hlt']
  exact retC_by (.refl _) (.refl _) ⟨rfl,rfl⟩
theorem sqlen_ok (h:PoolAt base σ p m k pg) (hs:base s=some (.obj [.ptr p 0,.int .i64 root,.ptr t 0])) {b:List UInt8} (hq:pg root=some b) {nd:SN} (hl:SPg b nd) {c:Nat} (hc:∀ r σ n,σ n=some r->SNodeR r nd->ACalls Tryz.prog 71 [.ptr n 0] σ fun v σ'=>v = .int .i64 c/\σ'=σ) :
  ACalls Tryz.prog 33 [.ptr s 0] σ fun v σ'=>v = .tuple [.int .i64 c,.int .i64 0]/\PoolAt base σ' p m k pg:=by
 have hss:=h.at hs
 refine a33 (by simp) ?_
 simp (disch:=first|assumption|omega|(simp only [List.length_append,List.length_cons,List.length_nil];omega)) only [go_sem,hss]
 refine (sqload_ok h hs hq hl).mono ?_
 rintro w σ1 ⟨n,q,rfl,hn,hr,hp⟩
 simp (disch:=first|assumption|omega|(simp only [List.length_append,List.length_cons,List.length_nil];omega)) only [go_sem]
 refine (hc q σ1 n (hp.at (ASt.set_same _ _ _)) hr).mono ?_
 rintro w σ2 ⟨rfl,rfl⟩
 simp (disch:=first|assumption|omega|(simp only [List.length_append,List.length_cons,List.length_nil];omega)) only [go_sem]
 exact retC_by (.refl _) (.refl _) ⟨rfl,hp.drop1 hn h.ck⟩
set_option maxHeartbeats 1000000 in
theorem sqdown_one (h:PoolAt base σ p m k pg) (hs:base s=some (.obj [.ptr p 0,.int .i64 root,.ptr t 0])) {b:List UInt8} (hq:pg root=some b) (hl:SLeaf b up ids) (i:Int) :
  ACalls Tryz.prog 29 [.ptr s 0,.int .i64 i] σ fun w σ'=>∃ n x base1,w = .tuple [.ptr n 0,.int .i64 root,.int .i64 i,.int .i64 0]/\LeafS base base1 n x up ids/\Only base base1 (nodeB n x (.sl .full []))/\PoolAt base1 σ' p m k pg:=by
 have hss:=h.at hs
 refine a29 (by simp) ?_
 simp (disch:=first|assumption|omega|(simp only [List.length_append,List.length_cons,List.length_nil];omega)) only [go_sem,hss]
 obtain ⟨J,hJ⟩:∃ J:Nat->AFr->ASt->Prop,J=fun j a1 s2=>j=0/\(a1 0 = .ptr s 0/\a1 1 = .int .i64 i/\a1 8 = .int .i64 root/\a1 16 = .int .i64 0)/\s2=σ:=⟨_,rfl⟩
 refine wp_loop_on J (fun i=>1-i) 0 ?_ ?_
 ·rw [hJ]
  refine ⟨rfl,?_,rfl⟩
  simp (disch:=first|assumption|omega|(simp only [List.length_append,List.length_cons,List.length_nil];omega)) only [go_sem]
 intro j a1 s2 hj
 rw [hJ] at hj
 obtain ⟨rfl,hf,rfl⟩:=hj
 simp (disch:=first|assumption|omega|(simp only [List.length_append,List.length_cons,List.length_nil];omega)) only [go_sem,hf]
 refine (sqload_leafM h hs hq hl).mono ?_
 rintro w s3 ⟨n,x,base1,rfl,hm,hO,hp⟩
 have hn:=hp.at hm.hn
 have hcx:=hm.hx.cell
 simp (disch:=first|assumption|omega|(simp only [List.length_append,List.length_cons,List.length_nil];omega)) only [go_sem,hf,hn,hcx]
 exact retC_by (.refl _) (.refl _) ⟨n,x,base1,rfl,hm,hO,hp⟩
set_option maxHeartbeats 2000000 in
theorem sqdown_two (h:PoolAt base σ p m k pg) (hs:base s=some (.obj [.ptr p 0,.int .i64 root,.ptr t 0])) {br b:List UInt8} {u a a2' c c2:Nat} (hr:pg root=some br) (hrl:SInner br u [a,a2'] [c,c2]) {i q i':Nat} (hi:i<c/\q=a/\i'=i\/c<=i/\q=a2'/\i'=i-c) (hi2:i<=1000) (hq:pg q=some b) (hl:SLeaf b up ids) :
  ACalls Tryz.prog 29 [.ptr s 0,.int .i64 i] σ fun w σ'=>∃ n x base1,w = .tuple [.ptr n 0,.int .i64 q,.int .i64 i',.int .i64 0]/\LeafS base base1 n x up ids/\Only base base1 (nodeB n x (.sl .full []))/\PoolAt base1 σ' p m k pg:=by
 have hss:=h.at hs
 refine a29 (by simp) ?_
 simp (disch:=first|assumption|omega|(simp only [List.length_append,List.length_cons,List.length_nil];omega)) only [go_sem,hss]
 obtain ⟨J,hJ⟩:∃ J:Nat->AFr->ASt->Prop,J=fun j a1 s2=>(a1 0 = .ptr s 0/\a1 16 = .int .i64 j)/\(j=0/\a1 1 = .int .i64 i/\a1 8 = .int .i64 root\/j=1/\a1 1 = .int .i64 i'/\a1 8 = .int .i64 q)/\PoolAt base s2 p m k pg:=⟨_,rfl⟩
 refine wp_loop_on J (fun i=>2-i) 0 ?_ ?_
 ·rw [hJ]
  refine ⟨?_,.inl ⟨rfl,?_⟩,h⟩
  ·simp (disch:=first|assumption|omega|(simp only [List.length_append,List.length_cons,List.length_nil];omega)) only [go_sem]
  ·simp (disch:=first|assumption|omega|(simp only [List.length_append,List.length_cons,List.length_nil];omega)) only [go_sem]
 intro j a1 s2 hj
 rw [hJ] at hj
 obtain ⟨hf,hc,hp0⟩:=hj
 rcases hc with ⟨rfl,hf2⟩|⟨rfl,hf2⟩
 ·have l0:((0:Nat):Int)<20:=by decide
  simp (disch:=first|assumption|omega|(simp only [List.length_append,List.length_cons,List.length_nil];omega)) only [go_sem,hf,hf2,l0]
  refine (sqload_i (nd := .inner u [a,a2'] [c,c2]) hp0 hs hr hrl).mono ?_
  rintro w s3 ⟨cs,rfl,⟨k1,k2,k3,hcs⟩,hp⟩
  injection hcs with hcs
  subst hcs
  have e1:kv .i64 [a,a2'] = [.int .i64 a,.int .i64 a2']:=rfl
  have e2:kv .i64 [c,c2] = [.int .i64 c,.int .i64 c2]:=rfl
  rw [e1,e2]
  simp (disch:=first|assumption|omega|(simp only [List.length_append,List.length_cons,List.length_nil];omega)) only [go_sem,hf,hf2]
  obtain ⟨J2,hJ2⟩:∃ J:Nat->AFr->ASt->Prop,J=fun j a2 s4=>(a2 0 = .ptr s 0/\a2 9 = .imm [.bool false,.int .i64 u,.sl k1 [],.sl k2 [.int .i64 a,.int .i64 a2'],.sl k3 [.int .i64 c,.int .i64 c2]]/\a2 16 = .int .i64 0)/\(j=0/\a2 1 = .int .i64 i/\a2 11 = .int .i64 0\/j=1/\c<=i/\a2 1 = .int .i64 (i-c:Nat)/\a2 11 = .int .i64 1)/\s4=s3:=⟨_,rfl⟩
  have hend:∀ (x:AFr),x 0 = .ptr s 0->x 1 = .int .i64 i'->x 8 = .int .i64 q->x 16 = .int .i64 1->∃ j,2-j<2/\J j x s3:=fun x h0 h1 h8 h16=>⟨1,by omega,by rw [hJ];exact ⟨⟨h0,h16⟩,.inr ⟨rfl,h1,h8⟩,hp⟩⟩
  refine wp_loop_on J2 (fun i=>2-i) 0 ?_ ?_
  ·rw [hJ2]
   refine ⟨?_,.inl ⟨rfl,?_⟩,rfl⟩
   ·simp (disch:=first|assumption|omega|(simp only [List.length_append,List.length_cons,List.length_nil];omega)) only [go_sem,hf]
   ·simp (disch:=first|assumption|omega|(simp only [List.length_append,List.length_cons,List.length_nil];omega)) only [go_sem,hf2]
  intro j2 a2 s4 hj2
  rw [hJ2] at hj2
  obtain ⟨hg,hc2,rfl⟩:=hj2
  rcases hc2 with ⟨rfl,hg2⟩|⟨rfl,hci,hg2⟩
  ·by_cases hci:c<=i
   ·have hci':(c:Int)<=(i:Int):=by omega
    have e3:(i:Int)-(c:Int)=((i-c:Nat):Int):=by omega
    simp (disch:=first|assumption|omega|(simp only [List.length_append,List.length_cons,List.length_nil];omega)) only [go_sem,hg,hg2,hci',e3]
    refine ⟨1,by omega,?_⟩
    rw [hJ2]
    refine ⟨?_,.inr ⟨rfl,hci,?_⟩,rfl⟩
    ·simp (disch:=first|assumption|omega|(simp only [List.length_append,List.length_cons,List.length_nil];omega)) only [go_sem,hg]
    ·simp (disch:=first|assumption|omega|(simp only [List.length_append,List.length_cons,List.length_nil];omega)) only [go_sem,hg2,e3]
   ·have hci':¬ (c:Int)<=(i:Int):=by omega
    have hq1:q=a/\i'=i:=hi.elim (fun h=>h.2) (fun h=>absurd h.1 hci)
    obtain ⟨rfl,rfl⟩:=hq1
    simp (disch:=first|assumption|omega|(simp only [List.length_append,List.length_cons,List.length_nil];omega)) only [go_sem,hg,hg2,hci']
    refine hend _ ?_ ?_ ?_ ?_
    ·simp (disch:=first|assumption|omega|(simp only [List.length_append,List.length_cons,List.length_nil];omega)) only [go_sem,hg]
    ·simp (disch:=first|assumption|omega|(simp only [List.length_append,List.length_cons,List.length_nil];omega)) only [go_sem,hg2]
    ·simp (disch:=first|assumption|omega|(simp only [List.length_append,List.length_cons,List.length_nil];omega)) only [go_sem]
    ·simp (disch:=first|assumption|omega|(simp only [List.length_append,List.length_cons,List.length_nil];omega)) only [go_sem]
  ·have hq1:q=a2'/\i'=i-c:=hi.elim (fun h=>absurd h.1 (by omega)) (fun h=>h.2)
   obtain ⟨rfl,rfl⟩:=hq1
   simp (disch:=first|assumption|omega|(simp only [List.length_append,List.length_cons,List.length_nil];omega)) only [go_sem,hg,hg2]
   refine hend _ ?_ ?_ ?_ ?_
   ·simp (disch:=first|assumption|omega|(simp only [List.length_append,List.length_cons,List.length_nil];omega)) only [go_sem,hg]
   ·simp (disch:=first|assumption|omega|(simp only [List.length_append,List.length_cons,List.length_nil];omega)) only [go_sem,hg2]
   ·simp (disch:=first|assumption|omega|(simp only [List.length_append,List.length_cons,List.length_nil];omega)) only [go_sem]
   ·simp (disch:=first|assumption|omega|(simp only [List.length_append,List.length_cons,List.length_nil];omega)) only [go_sem]
 ·have l0:((1:Nat):Int)<20:=by decide
  simp (disch:=first|assumption|omega|(simp only [List.length_append,List.length_cons,List.length_nil];omega)) only [go_sem,hf,hf2,l0]
  refine (sqload_leafM hp0 hs hq hl).mono ?_
  rintro w s3 ⟨n,x,base1,rfl,hm,hO,hp⟩
  have hn:=hp.at hm.hn
  have hcx:=hm.hx.cell
  simp (disch:=first|assumption|omega|(simp only [List.length_append,List.length_cons,List.length_nil];omega)) only [go_sem,hf,hf2,hn,hcx]
  exact retC_by (.refl _) (.refl _) ⟨n,x,base1,rfl,hm,hO,hp⟩
end
end Go.A
end
