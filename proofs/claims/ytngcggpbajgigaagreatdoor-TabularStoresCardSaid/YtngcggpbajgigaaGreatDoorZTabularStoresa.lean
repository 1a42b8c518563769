/- Part 1 of what TabularStores leans on: Au Az. -/
import Derived.WalkKit
import Derived.Orders
import Derived.Laws.Cells
import Derived.Laws.Slices
import Derived.Laws.Small
import Derived.Laws.IdiomStrings
import Derived.Laws.BytesString
import Derived.Laws.Cover4
import Derived.Laws.Runes
import Derived.Deep.AppendSrc
import Derived.MapKept
import Derived.Laws.Tables
import Derived.Laws.StructEq
set_option linter.defProp false
set_option linter.unusedSimpArgs false
set_option linter.unusedVariables false
set_option maxRecDepth 100000
namespace Go.A
inductive SK where
 | shr
 | full
 | tok (b sz:Nat) (T:TypeId)
 | lit
 deriving DecidableEq,Inhabited
inductive AV where
 | any
 | bool (b:Bool)
 | int (k:IntKind) (n:Int)
 | str (l:List UInt8)
 | ptr (b o:Nat)
 | imm (cs:List AV)
 | nilp
 | sl (k:SK) (xs:List AV)
 | msl (b o n c:Nat)
 | agg (cs:List AV)
 | tuple (vs:List AV)
 | iface (t:TypeId) (v:AV)
 | nili
 | func (fn:Fn) (first captured:List AV)
 | nilf
 | map (r:Option Nat)
 deriving Inhabited
def AV.cells:AV->List AV
 | .agg cs=>cs
 | a => [a]
inductive Role where
 | obj (cs:List AV)
 | tok (f:Nat)
 | fix (cs:List AV)
 | iter (l:List UInt8) (p:Nat)
 | typ (T:TypeId) (vs:List Value)
 | map (l:List (Int×Int))
 | maps (l:List (Int×List UInt8))
 deriving Inhabited
def ASt:=Nat->Option Role
def ASt.set (σ:ASt) (b:Nat) (r:Option Role):ASt:=fun x=>if x=b then r else σ x
theorem ASt.set_same (σ:ASt) (b:Nat) (r:Option Role):σ.set b r b=r:=by simp [ASt.set]
theorem ASt.set_ne {σ:ASt} {b x:Nat} {r:Option Role} (h:x≠b):σ.set b r x=σ x:=by simp [ASt.set,h]
theorem ASt.set_set (σ:ASt) (b:Nat) (r r':Option Role):(σ.set b r).set b r'=σ.set b r':=by funext x;simp only [ASt.set];split<;>rfl
def Still (σ:ASt) (w:World) (b o:Nat):Prop:=b<w.heap.size/\(σ b=none\/(∃ cs,σ b=some (.fix cs))\/∃ f,σ b=some (.tok f)/\o<f)
def Stands (σ:ASt) (b:Nat):Prop:=(∀ cs,σ b≠some (.obj cs))/\(∀ l p,σ b≠some (.iter l p))/\(∀ T cs,σ b≠some (.typ T cs))/\(∀ l,σ b≠some (.map l))/\∀ l,σ b≠some (.maps l)
def SK.ok (σ:ASt) (w:World) (b o n c sz:Nat):SK->Prop
 | .shr=>True
 | .full=>c=n
 | .tok t s T=>t=b/\s=sz/\o=0/\w.shape? b=some (T,c*sz)/\Stands σ b
 | .lit=>c=n/\o=0/\(σ b=none\/∃ cs,σ b=some (.fix cs))/\∃ cs T,w.heap[b]? = some (.cells cs T (0,0))
mutual
inductive Rep (σ:ASt) (w:World):AV->Value->Prop
 | any (v:Value):Rep σ w .any v
 | bool (b:Bool):Rep σ w (.bool b) (.bool b)
 | int (k:IntKind) (n:Int):Rep σ w (.int k n) (.int k n)
 | str (l:List UInt8):Rep σ w (.str l) (.string ⟨⟨l⟩⟩)
 | ptr (b o:Nat):Rep σ w (.ptr b o) (.pointer (some ⟨b,o,none⟩))
 | imm {cs:List AV} {b o:Nat}:At σ w b o cs->Rep σ w (.imm cs) (.pointer (some ⟨b,o,none⟩))
 | nilp:Rep σ w .nilp (.pointer none)
 | slE (A:Option Addr) (c:Nat):Rep σ w (.sl .shr []) (.slice A 0 c)
 | slN:Rep σ w (.sl .full []) (.slice none 0 0)
 | sl {k:SK} {xs:List AV} {b o n c sz:Nat}:Row σ w b o sz xs->n=xs.length->n<=c->k.ok σ w b o n c sz->b<w.heap.size->Rep σ w (.sl k xs) (.slice (some ⟨b,o,none⟩) n c)
 | msl (b o n c:Nat):Rep σ w (.msl b o n c) (.slice (some ⟨b,o,none⟩) n c)
 | agg {cs:List AV} {vs:List Value}:Reps σ w cs vs->Rep σ w (.agg cs) (.agg ⟨vs⟩)
 | tuple {cs:List AV} {vs:List Value}:Reps σ w cs vs->Rep σ w (.tuple cs) (.tuple ⟨vs⟩)
 | iface {t:TypeId} {a:AV} {v:Value}:Rep σ w a v->Rep σ w (.iface t a) (.iface t v)
 | nili:Rep σ w .nili .nilIface
 | func {fn:Fn} {f c:List AV} {f' c':List Value}:Reps σ w f f'->Reps σ w c c'->Rep σ w (.func fn f c) (.func fn ⟨f'⟩ ⟨c'⟩)
 | nilf:Rep σ w .nilf .nilFunc
 | map (r:Option Nat):Rep σ w (.map r) (.map r)
inductive Reps (σ:ASt) (w:World):List AV->List Value->Prop
 | nil:Reps σ w [] []
 | cons {a:AV} {v:Value} {as:List AV} {vs:List Value}:Rep σ w a v->Reps σ w as vs->Reps σ w (a::as) (v::vs)
inductive At (σ:ASt) (w:World):Nat->Nat->List AV->Prop
 | nil (b o:Nat):At σ w b o []
 | cons {b o:Nat} {a:AV} {v:Value} {as:List AV}:Still σ w b o->w.cell? ⟨b,o,none⟩=some v->Rep σ w a v->At σ w b (o+1) as->At σ w b o (a::as)
inductive Row (σ:ASt) (w:World):Nat->Nat->Nat->List AV->Prop
 | nil (b o sz:Nat):Row σ w b o sz []
 | cons {b o sz:Nat} {x:AV} {xs:List AV}:x.cells.length=sz->At σ w b o x.cells->Row σ w b (o+sz) sz xs->Row σ w b o sz (x::xs)
end
structure Le (σ:ASt) (w:World) (σ':ASt) (w':World):Prop where
 os:w'.os=w.os
 tape:w'.tape=w.tape
 output:w'.output=w.output
 size:w.heap.size<=w'.heap.size
 keep:∀ b,b<w.heap.size->σ b=none->σ' b=none/\w'.heap[b]? = w.heap[b]?
 fix:∀ b cs,b<w.heap.size->σ b=some (.fix cs)->(σ' b=none\/σ' b=some (.fix cs))/\w'.heap[b]? = w.heap[b]?
 tok:∀ b f,b<w.heap.size->σ b=some (.tok f)->(σ' b=none\/∃ f',f<=f'/\σ' b=some (.tok f'))/\w'.shape? b=w.shape? b/\∀ o,o<f->w'.cell? ⟨b,o,none⟩=w.cell? ⟨b,o,none⟩
theorem Le.refl (σ:ASt) (w:World):Le σ w σ w:=
 ⟨rfl,rfl,rfl,Nat.le_refl _,fun _ _ h=>⟨h,rfl⟩,fun _ _ _ h=>⟨.inr h,rfl⟩,fun _ f _ h=>⟨.inr ⟨f,Nat.le_refl _,h⟩,rfl,fun _ _=>rfl⟩⟩
theorem cell_of_heap_eq {w w':World} {b:Nat} (h:w'.heap[b]? = w.heap[b]?) (o:Nat):w'.cell? ⟨b,o,none⟩=w.cell? ⟨b,o,none⟩:=by
 simp only [World.cell?,h]
theorem shape_of_heap_eq {w w':World} {b:Nat} (h:w'.heap[b]? = w.heap[b]?):w'.shape? b=w.shape? b:=by
 simp only [World.shape?,h]
theorem Le.trans {σ σ' σ'':ASt} {w w' w'':World} (h:Le σ w σ' w') (k:Le σ' w' σ'' w''):Le σ w σ'' w'' where
 os:=k.os.trans h.os
 tape:=k.tape.trans h.tape
 output:=k.output.trans h.output
 size:=Nat.le_trans h.size k.size
 keep b hb hn:=by
  obtain ⟨h1,h2⟩:=h.keep b hb hn
  obtain ⟨h3,h4⟩:=k.keep b (Nat.lt_of_lt_of_le hb h.size) h1
  exact ⟨h3,h4.trans h2⟩
 fix b cs hb hn:=by
  obtain ⟨h1,h2⟩:=h.fix b cs hb hn
  have hb':=Nat.lt_of_lt_of_le hb h.size
  rcases h1 with h1|h1
  ·obtain ⟨h3,h4⟩:=k.keep b hb' h1
   exact ⟨.inl h3,h4.trans h2⟩
  ·obtain ⟨h3,h4⟩:=k.fix b cs hb' h1
   exact ⟨h3,h4.trans h2⟩
 tok b f hb hn:=by
  obtain ⟨h1,h2,h3⟩:=h.tok b f hb hn
  have hb':=Nat.lt_of_lt_of_le hb h.size
  rcases h1 with h1|⟨f',hf,h1⟩
  ·obtain ⟨h4,h5⟩:=k.keep b hb' h1
   exact ⟨.inl h4,(shape_of_heap_eq h5).trans h2,fun o ho=>(cell_of_heap_eq h5 o).trans (h3 o ho)⟩
  ·obtain ⟨h4,h5,h6⟩:=k.tok b f' hb' h1
   refine ⟨?_,h5.trans h2,fun o ho=>(h6 o (by omega)).trans (h3 o ho)⟩
   rcases h4 with h4|⟨f'',hf',h4⟩
   ·exact .inl h4
   ·exact .inr ⟨f'',by omega,h4⟩
section
variable {σ σ':ASt} {w w':World}
theorem Still.mono {b o:Nat} (h:Le σ w σ' w') (hs:Still σ w b o):Still σ' w' b o/\w'.cell? ⟨b,o,none⟩=w.cell? ⟨b,o,none⟩:=by
 obtain ⟨hb,hs⟩:=hs
 have hb':=Nat.lt_of_lt_of_le hb h.size
 rcases hs with hn|⟨cs,hn⟩|⟨f,hn,ho⟩
 ·obtain ⟨h1,h2⟩:=h.keep b hb hn
  exact ⟨⟨hb',.inl h1⟩,cell_of_heap_eq h2 o⟩
 ·obtain ⟨h1,h2⟩:=h.fix b cs hb hn
  exact ⟨⟨hb',h1.imp id fun h => .inl ⟨cs,h⟩⟩,cell_of_heap_eq h2 o⟩
 ·obtain ⟨h1,h2,h3⟩:=h.tok b f hb hn
  refine ⟨⟨hb',?_⟩,h3 o ho⟩
  rcases h1 with h1|⟨f',hf,h1⟩
  ·exact .inl h1
  ·exact .inr (.inr ⟨f',h1,by omega⟩)
theorem Le.stands (h:Le σ w σ' w') {b:Nat} (hb:b<w.heap.size) (hs:Stands σ b):Stands σ' b:=by
 have key:∀ r,σ' b=some r->(∃ cs,r = .fix cs)\/∃ f,r = .tok f:=by
  intro r hc
  cases hr:σ b with
  | none=>rw [(h.keep b hb hr).1] at hc;cases hc
  | some r=>
    cases r with
    | obj cs=>exact absurd hr (hs.1 cs)
    | iter l p=>exact absurd hr (hs.2.1 l p)
    | typ T cs=>exact absurd hr (hs.2.2.1 T cs)
    | map l=>exact absurd hr (hs.2.2.2.1 l)
    | maps l=>exact absurd hr (hs.2.2.2.2 l)
    | tok f=>rcases (h.tok b f hb hr).1 with h1|⟨f',_,h1⟩<;>rw [h1] at hc<;>cases hc;exact .inr ⟨_,rfl⟩
    | fix cs=>rcases (h.fix b cs hb hr).1 with h1|h1<;>rw [h1] at hc<;>cases hc;exact .inl ⟨_,rfl⟩
 refine ⟨?_,?_,?_,?_,?_⟩
 ·intro cs hc
  rcases key _ hc with ⟨_,h⟩|⟨_,h⟩<;>cases h
 ·intro l p hc
  rcases key _ hc with ⟨_,h⟩|⟨_,h⟩<;>cases h
 ·intro l p hc
  rcases key _ hc with ⟨_,h⟩|⟨_,h⟩<;>cases h
 ·intro l hc
  rcases key _ hc with ⟨_,h⟩|⟨_,h⟩<;>cases h
 ·intro l hc
  rcases key _ hc with ⟨_,h⟩|⟨_,h⟩<;>cases h
theorem Le.shape (h:Le σ w σ' w') {b:Nat} (hb:b<w.heap.size) (hs:Stands σ b):w'.shape? b=w.shape? b:=by
 cases hr:σ b with
 | none=>exact shape_of_heap_eq (h.keep b hb hr).2
 | some r=>
   cases r with
   | obj cs=>exact absurd hr (hs.1 cs)
   | iter l p=>exact absurd hr (hs.2.1 l p)
   | typ T cs=>exact absurd hr (hs.2.2.1 T cs)
   | map l=>exact absurd hr (hs.2.2.2.1 l)
   | maps l=>exact absurd hr (hs.2.2.2.2 l)
   | tok f=>exact (h.tok b f hb hr).2.1
   | fix cs=>exact shape_of_heap_eq (h.fix b cs hb hr).2
theorem SK.ok_mono (h:Le σ w σ' w') {k:SK} {b o n c sz:Nat} (hb:b<w.heap.size) (hk:k.ok σ w b o n c sz):k.ok σ' w' b o n c sz:=by
 cases k<;>simp only [SK.ok] at hk ⊢
 ·exact hk
 ·obtain ⟨h1,h2,h3,h4,h5⟩:=hk
  exact ⟨h1,h2,h3,by rw [h.shape hb h5];exact h4,h.stands hb h5⟩
 ·obtain ⟨h1,h2,h3,cs,T,h4⟩:=hk
  rcases h3 with h3|⟨ds,h3⟩
  ·obtain ⟨g1,g2⟩:=h.keep b hb h3
   exact ⟨h1,h2,.inl g1,cs,T,g2.trans h4⟩
  ·obtain ⟨g1,g2⟩:=h.fix b ds hb h3
   exact ⟨h1,h2,g1.imp id fun g=>⟨ds,g⟩,cs,T,g2.trans h4⟩
mutual
theorem Rep.mono (h:Le σ w σ' w'):∀ {a:AV} {v:Value},Rep σ w a v->Rep σ' w' a v
 | _,_,.any v => .any v
 | _,_,.bool b => .bool b
 | _,_,.int k n => .int k n
 | _,_,.str l => .str l
 | _,_,.ptr b o => .ptr b o
 | _,_,.imm h1 => .imm (h1.mono h)
 | _,_,.nilp => .nilp
 | _,_,.slE A c => .slE A c
 | _,_,.slN => .slN
 | _,_,.sl h1 h2 h3 h4 h5 => .sl (h1.mono h) h2 h3 (SK.ok_mono h h5 h4) (Nat.lt_of_lt_of_le h5 h.size)
 | _,_,.msl b o n c => .msl b o n c
 | _,_,.agg h1 => .agg (h1.mono h)
 | _,_,.tuple h1 => .tuple (h1.mono h)
 | _,_,.iface h1 => .iface (h1.mono h)
 | _,_,.nili => .nili
 | _,_,.func h1 h2 => .func (h1.mono h) (h2.mono h)
 | _,_,.nilf => .nilf
 | _,_,.map r => .map r
theorem Reps.mono (h:Le σ w σ' w'):∀ {as:List AV} {vs:List Value},Reps σ w as vs->Reps σ' w' as vs
 | _,_,.nil => .nil
 | _,_,.cons h1 h2 => .cons (h1.mono h) (h2.mono h)
theorem At.mono (h:Le σ w σ' w'):∀ {b o:Nat} {as:List AV},At σ w b o as->At σ' w' b o as
 | _,_,_,.nil b o => .nil b o
 | _,_,_,.cons h1 h2 h3 h4 => .cons (h1.mono h).1 ((h1.mono h).2.trans h2) (h3.mono h) (h4.mono h)
theorem Row.mono (h:Le σ w σ' w'):∀ {b o sz:Nat} {as:List AV},Row σ w b o sz as->Row σ' w' b o sz as
 | _,_,_,_,.nil b o sz => .nil b o sz
 | _,_,_,_,.cons h1 h2 h3 => .cons h1 (h2.mono h) (h3.mono h)
end
def RoleOk (σ:ASt) (w:World) (b:Nat):Role->Prop
 | .obj cs=>∃ c T fr,w.heap[b]? = some (.cells c T fr)/\Reps σ w cs (c.toList.take cs.length)/\∀ o,o<c.size->w.frozen? ⟨b,o,none⟩=false
 | .tok f=>∃ c T fr,w.heap[b]? = some (.cells c T fr)/\f<=c.size/\fr.2<=f
 | .fix cs=>At σ w b 0 cs/\∃ c T fr,w.heap[b]? = some (.cells c T fr)/\c.size=cs.length
 | .iter l p=>w.heap[b]? = some (.stringIter ⟨⟨l⟩⟩ p)
 | .typ T vs=>w.heap[b]? = some (.cells ⟨vs⟩ T (0,0))
 | .map l=>∃ es clock,w.heap[b]? = some (.map es clock)/\es.toList.map (fun e=>(e.key,e.val))=l.map fun p=>(Value.int .i64 p.1,Value.int .i64 p.2)
 | .maps l=>∃ es clock,w.heap[b]? = some (.map es clock)/\es.toList.map (fun e=>(e.key,e.val))=(l.map fun p=>(Value.int .i64 p.1,Value.string ⟨⟨p.2⟩⟩))/\MapKept.Stamped es clock
def Sim (σ:ASt) (w:World):Prop:=∀ b r,σ b=some r->RoleOk σ w b r
theorem RoleOk.lt {b:Nat} {r:Role} (h:RoleOk σ w b r):b<w.heap.size:=by
 cases r with
 | obj cs=>obtain ⟨c,T,fr,h1,_⟩:=h;exact (Array.getElem?_eq_some_iff.1 h1).1
 | tok f=>obtain ⟨c,T,fr,h1,_⟩:=h;exact (Array.getElem?_eq_some_iff.1 h1).1
 | fix cs=>obtain ⟨_,c,T,fr,h1,_⟩:=h;exact (Array.getElem?_eq_some_iff.1 h1).1
 | iter l p=>exact (Array.getElem?_eq_some_iff.1 h).1
 | typ T vs=>exact (Array.getElem?_eq_some_iff.1 h).1
 | map l=>obtain ⟨_,_,h1,_⟩:=h;exact (Array.getElem?_eq_some_iff.1 h1).1
 | maps l=>obtain ⟨_,_,h1,_⟩:=h;exact (Array.getElem?_eq_some_iff.1 h1).1
theorem Sim.lt (h:Sim σ w) {b:Nat} {r:Role} (hb:σ b=some r):b<w.heap.size:=(h b r hb).lt
theorem Sim.fresh (h:Sim σ w) {b:Nat} (hb:w.heap.size<=b):σ b=none:=by
 cases hr:σ b with
 | none=>rfl
 | some r=>have:=h.lt hr;omega
def AFr:=Nat->AV
def AFr.upd (a:AFr) (t:Nat) (v:AV):AFr:=fun s=>if s=t then v else a s
def AFr.put (a:AFr) (t:Option Nat) (v:AV):AFr:=match t with|some t=>a.upd t v|none=>a
structure FRel (n:Nat) (D:List Deferred) (σ:ASt) (w:World) (a:AFr) (act:Act):Prop where
 size:act.tmps.size=n
 defers:act.defers=D
 rep:∀ t,t<n->Rep σ w (a t) (act.tmps.getD t undef)
theorem FRel.mono {n:Nat} {D:List Deferred} {a:AFr} {act:Act} (h:Le σ w σ' w') (hf:FRel n D σ w a act):FRel n D σ' w' a act:=
 ⟨hf.size,hf.defers,fun t ht=>(hf.rep t ht).mono h⟩
theorem FRel.put {n:Nat} {D:List Deferred} {a:AFr} {act:Act} {v:AV} {u:Value} (hf:FRel n D σ w a act) (t:Option Nat) (ht:∀ d,t=some d->d<n) (hv:Rep σ w v u):FRel n D σ w (a.put t v) (act.put t u):=by
 cases t with
 | none=>exact hf
 | some d=>
   have hd:=ht d rfl
   refine ⟨by simp [Act.put,hf.size],hf.defers,fun s hs=>?_⟩
   simp only [AFr.put,AFr.upd,Act.put]
   by_cases h:s=d
   ·subst h
    have:s<act.tmps.size:=by rw [hf.size];exact hs
    simpa [this] using hv
   ·have:(act.tmps.setIfInBounds d u).getD s undef=act.tmps.getD s undef:=by
     simp [Array.getElem?_setIfInBounds_ne (Ne.symm h)]
    rw [this]
    simpa [h] using hf.rep s hs
end
end Go.A
namespace Go.A
inductive Opd where
 | t (t:Nat)
 | v (a:AV)
 deriving Inhabited
def Opd.ev (a:AFr):Opd->AV
 | .t s=>a s
 | .v x=>x
def ofLeaf:Value->Option AV
 | .bool b=>some (.bool b)
 | .int k n=>some (.int k n)
 | .string s=>some (.str s.data.toList)
 | .pointer none=>some .nilp
 | .slice none 0 0=>some (.sl .full [])
 | .nilIface=>some .nili
 | .nilFunc=>some .nilf
 | .map none=>some (.map none)
 | .func (.func f) ⟨[]⟩ ⟨[]⟩=>some (.func (.func f) [] [])
 | _=>none
def ofLeaves:List Value->Option (List AV)
 | []=>some []
 | v::vs=>match ofLeaf v,ofLeaves vs with
   | some a,some as=>some (a::as)
   | _,_=>none
def ofVal:Value->Option AV
 | .agg cs=>(ofLeaves cs.toList).map .agg
 | v=>ofLeaf v
def opd:Operand->Option Opd
 | .tmp t=>some (.t t)
 | .const v=>(ofVal v).map .v
 | .global g=>some (.v (.ptr g 0))
 | .func f=>some (.v (.func (.func f) [] []))
def opds:List Operand->Option (List Opd)
 | []=>some []
 | x::xs=>match opd x,opds xs with
   | some a,some as=>some (a::as)
   | _,_=>none
section
variable {σ:ASt} {w:World}
theorem ofLeaf_rep {v:Value} {a:AV} (h:ofLeaf v=some a):Rep σ w a v:=by
 unfold ofLeaf at h
 split at h<;>(try injection h with h)<;>(try subst h)
 ·exact .bool _
 ·exact .int _ _
 ·exact .str _
 ·exact .nilp
 ·exact .slN
 ·exact .nili
 ·exact .nilf
 ·exact .map none
 ·exact .func .nil .nil
 ·cases h
theorem ofLeaves_rep:∀ {vs:List Value} {as:List AV},ofLeaves vs=some as->Reps σ w as vs
 | [],as,h=>by injection h with h;subst h;exact .nil
 | v::vs,as,h=>by
   unfold ofLeaves at h
   split at h
   ·rename_i a as' h1 h2
    injection h with h
    subst h
    exact .cons (ofLeaf_rep h1) (ofLeaves_rep h2)
   ·cases h
theorem ofVal_rep {v:Value} {a:AV} (h:ofVal v=some a):Rep σ w a v:=by
 unfold ofVal at h
 split at h
 ·rename_i cs
  cases h1:ofLeaves cs.toList with
  | none=>simp [h1] at h
  | some as=>
    simp only [h1,Option.map_some,Option.some.injEq] at h
    subst h
    exact .agg (vs:=cs.toList) (ofLeaves_rep h1)
 ·exact ofLeaf_rep h
def looksO:Operand->List Nat
 | .tmp t => [t]
 | _ => []
theorem opd_rep {a:AFr} {act:Act} {x:Operand} {y:Opd} (h:opd x=some y) (hr:∀ t,x = .tmp t->Rep σ w (a t) (act.tmps.getD t undef)):Rep σ w (y.ev a) (act.eval x):=by
 cases x with
 | tmp t=>injection h with h;subst h;exact hr _ rfl
 | const v=>
   simp only [opd] at h
   cases h1:ofVal v with
   | none=>simp [h1] at h
   | some as=>
     simp only [h1,Option.map_some,Option.some.injEq] at h
     subst h
     exact ofVal_rep h1
 | global g=>injection h with h;subst h;exact .ptr _ _
 | func f=>injection h with h;subst h;exact .func .nil .nil
theorem opds_rep {a:AFr} {act:Act}:∀ {xs:List Operand} {ys:List Opd},opds xs=some ys->(∀ t,Operand.tmp t∈xs->Rep σ w (a t) (act.tmps.getD t undef)) →
  Reps σ w (ys.map (·.ev a)) (xs.map act.eval)
 | [],ys,h,_=>by injection h with h;subst h;exact .nil
 | x::xs,ys,h,hr=>by
   unfold opds at h
   split at h
   ·rename_i y ys' h1 h2
    injection h with h
    subst h
    exact .cons (opd_rep h1 fun t ht=>hr t (by simp [ht])) (opds_rep h2 fun t ht=>hr t (by simp [ht]))
   ·cases h
end
def OkQ (P:Program) (o:Oper) (σ:ASt) (w:World) (act:Act) (v:AV):Prop:=
 ∃ u w',(execOp act.eval o).run P w = .ok (.value u) w'/\Le σ w σ w'/\Sim σ w'/\Rep σ w' v u
theorem OkQ.same {P:Program} {o:Oper} {σ:ASt} {w:World} {act:Act} {v:AV} {u:Value} (hs:Sim σ w) (h:(execOp act.eval o).run P w = .ok (.value u) w) (hr:Rep σ w v u):OkQ P o σ w act v:=
 ⟨u,w,h,Le.refl _ _,hs,hr⟩
def binI (op:BinOp) (k:IntKind) (x y:Int):Option AV:=
 match op with
 | .add=>some (.int k (k.wrap (x+y)))
 | .sub=>some (.int k (k.wrap (x-y)))
 | .mul=>some (.int k (k.wrap (x*y)))
 | .quo=>if y=0 then none else some (.int k (k.wrap (x.tdiv y)))
 | .rem=>if y=0 then none else some (.int k (x.tmod y))
 | .and=>some (.int k (k.wrap (BitVec.ofInt k.bits x &&& BitVec.ofInt k.bits y).toNat))
 | .or=>some (.int k (k.wrap (BitVec.ofInt k.bits x ||| BitVec.ofInt k.bits y).toNat))
 | .xor=>some (.int k (k.wrap (BitVec.ofInt k.bits x ^^^ BitVec.ofInt k.bits y).toNat))
 | .andNot=>some (.int k (k.wrap (BitVec.ofInt k.bits x &&& ~~~BitVec.ofInt k.bits y).toNat))
 | .eql=>some (.bool (decide (x=y)))
 | .neq=>some (.bool (!decide (x=y)))
 | .lss=>some (.bool (decide (x<y)))
 | .leq=>some (.bool (decide (x<=y)))
 | .gtr=>some (.bool (decide (y<x)))
 | .geq=>some (.bool (decide (y<=x)))
 | _=>none
def shI (op:BinOp) (k:IntKind) (x y:Int):Option AV:=
 if y<0 then none else
 match op with
 | .shl=>some (.int k (k.wrap (x*2 ^ min y.toNat k.bits)))
 | .shr=>some (.int k (x / 2 ^ min y.toNat k.bits))
 | _=>none
def binS (op:BinOp) (x y:List UInt8):Option AV:=
 match op with
 | .add=>if x.length+y.length<=9223372036854775807 then some (.str (x++y)) else none
 | .eql=>some (.bool (decide (x=y)))
 | .neq=>some (.bool (!decide (x=y)))
 | .lss=>some (.bool (Op.bytesLess x y))
 | .leq=>some (.bool (Op.bytesLess x y || decide (x=y)))
 | .gtr=>some (.bool (!(Op.bytesLess x y || decide (x=y))))
 | .geq=>some (.bool (!Op.bytesLess x y))
 | _=>none
inductive EqK where
 | p|i|f|b|c
 deriving DecidableEq,Inhabited
def eqV:EqK->AV->AV->Option Bool
 | .p,.nilp,.nilp=>some true
 | .p,.nilp,.ptr _ _=>some false
 | .p,.ptr _ _,.nilp=>some false
 | .p,.nilp,.imm _=>some false
 | .p,.imm _,.nilp=>some false
 | .i,.nili,.iface _ _=>some false
 | .i,.iface _ _,.nili=>some false
 | .f,.nilf,.nilf=>some true
 | .f,.nilf,.func _ _ _=>some false
 | .f,.func _ _ _,.nilf=>some false
 | .b,.bool a,.bool b=>some (a==b)
 | .c,.nili,.nili=>some true
 | .c,.nili,.iface _ _=>some false
 | .c,.iface _ _,.nili=>some false
 | _,_,_=>none
def eqK (P:Program) (T:TypeId):Option EqK:=
 match P.underlying T with
 | some (.pointer _)=>some .p
 | some (.interface _)=>some .i
 | some (.func _ _ _)=>some .f
 | some .bool=>some .b
 | _=>none
def isSh:BinOp->Bool
 | .shl | .shr=>true
 | _=>false
def binV (op:BinOp) (x y:AV):Option AV:=
 match x,y with
 | .int k m,.int k' n=>if isSh op then shI op k m n else if k=k' then binI op k m n else none
 | .str a,.str b=>binS op a b
 | _,_=>none
section
variable {P:Program} {σ:ASt} {w:World}
theorem run_binI {op:BinOp} {T:TypeId} {k:IntKind} {x y:Int} {v:AV} (hs:isSh op=false) (h:binI op k x y=some v):∃ u,(Go.binOp op T (.int k x) (.int k y)).run P w = .ok u w/\Rep σ w v u:=by
 cases op<;>simp only [isSh,Bool.true_eq_false,reduceCtorEq] at hs<;>simp only [binI,Option.some.injEq,reduceCtorEq] at h
 case quo=>
  split at h
  ·cases h
  ·rename_i hy
   injection h with h;subst h
   refine ⟨_,?_,.int _ _⟩
   simp [Go.binOp,Op.intDiv,hy,Sem.run,pure]
 case rem=>
  split at h
  ·cases h
  ·rename_i hy
   injection h with h;subst h
   refine ⟨_,?_,.int _ _⟩
   simp [Go.binOp,Op.intDiv,hy,Sem.run,pure]
 all_goals
  subst h
  refine ⟨_,by simp only [Go.binOp,ne_eq,not_true_eq_false,if_false];rfl,?_⟩
  first
   | exact .int _ _
   | exact .bool _
theorem run_shI {op:BinOp} {T:TypeId} {k k':IntKind} {x y:Int} {v:AV} (hs:isSh op=true) (h:shI op k x y=some v):∃ u,(Go.binOp op T (.int k x) (.int k' y)).run P w = .ok u w/\Rep σ w v u:=by
 unfold shI at h
 split at h
 ·cases h
 ·rename_i hy
  cases op<;>simp only [isSh,reduceCtorEq] at hs<;>simp only [Option.some.injEq] at h<;>subst h
  ·exact ⟨_,by simp only [Go.binOp,Op.shift];rw [if_neg hy];rfl,.int _ _⟩
  ·refine ⟨_,by simp only [Go.binOp,Op.shift];rw [if_neg hy];rfl,?_⟩
   rw [Int.fdiv_eq_ediv_of_nonneg _ (Int.pow_nonneg (by decide))]
   exact .int _ _
theorem beqL (x y:List UInt8):(x==y)=decide (x=y):=by
 by_cases h:x=y<;>simp [h]
theorem toList_mk (l:List UInt8):(⟨⟨l⟩⟩:ByteArray).toList=l:=by
 rw [ByteArray.toList_eq]
theorem run_binS {op:BinOp} {T:TypeId} {x y:List UInt8} {v:AV} (h:binS op x y=some v):∃ u,(Go.binOp op T (.string ⟨⟨x⟩⟩) (.string ⟨⟨y⟩⟩)).run P w = .ok u w/\Rep σ w v u:=by
 cases op<;>simp only [binS,Option.some.injEq,reduceCtorEq] at h
 case add=>
  split at h
  ·rename_i hy
   injection h with h;subst h
   refine ⟨.string ⟨⟨x++y⟩⟩,?_,.str _⟩
   have:¬ (((⟨⟨x⟩⟩:ByteArray).size+(⟨⟨y⟩⟩:ByteArray).size:Nat):Int)>IntKind.i64.max:=by
    simp only [ByteArray.size,List.size_toArray,IntKind.max,IntKind.signed,IntKind.bits];simp;omega
   simp only [Go.binOp,Op.stringOp]
   rw [if_neg this]
   simp only [pure,Sem.run]
   rfl
  ·cases h
 all_goals
  subst h
  exact ⟨_,by simp only [Go.binOp,Op.stringOp,toList_mk,beqL]<;>rfl,.bool _⟩
theorem run_eqV {T:TypeId} {k:EqK} {x y:AV} {u v:Value} {b:Bool} (hk:eqK P T=some k) (hx:Rep σ w x u) (hy:Rep σ w y v) (h:eqV k x y=some b) :
  (Op.equal T u v).run P w = .ok b w:=by
 have key:∀ d,(Op.equalIn (d+1) T u v).run P w = .ok b w:=by
  intro d
  unfold eqK at hk
  split at hk<;>(try cases hk)<;>rename_i hT<;>(try injection hk with hk;subst hk)
  all_goals
   cases hx<;>cases hy<;>simp only [eqV,Option.some.injEq,reduceCtorEq] at h<;>subst h <;>
   (unfold Op.equalIn;simp [underlying,program,hT,Sem.run,bind,Sem.bind,pure])
 exact key 9999
theorem eqK_ne_c {T:TypeId} {k:EqK} (hk:eqK P T=some k):k ≠ .c:=by
 unfold eqK at hk
 split at hk<;>first|(injection hk with hk;subst hk;simp)|cases hk
theorem run_eqGuard_eqV {T:TypeId} {k:EqK} {X Y:Operand} {op:BinOp} {x y:AV} {u v:Value} {b:Bool} (hk:k ≠ .c) (hx:Rep σ w x u) (hy:Rep σ w y v) (h:eqV k x y=some b) :
  (eqGuard op T X Y u v).run P w = .ok () w:=by
 unfold eqGuard
 cases k
 case c=>exact absurd rfl hk
 all_goals (cases hx<;>cases hy<;>simp only [eqV,reduceCtorEq] at h<;>(split<;>rfl))
def isNil:Opd->Bool
 | .v .nili=>true
 | _=>false
def eqKc (x y:Opd):EqK->EqK
 | .i=>if (isNil x || isNil y)=true then .c else .i
 | k=>k
theorem eqV_kc {x' y':Opd} {k:EqK} {x y:AV} {b:Bool} (hk:k ≠ .c) (h:eqV (eqKc x' y' k) x y=some b):eqV k x y=some b\/(k = .i/\(isNil x' || isNil y')=true/\x = .nili/\y = .nili/\b=true):=by
 cases k
 case i=>
  simp only [eqKc] at h
  split at h
  ·rename_i hc
   cases x<;>cases y<;>simp only [eqV,reduceCtorEq,Option.some.injEq] at h<;>subst h<;>first|exact .inl rfl|exact .inr ⟨rfl,hc,rfl,rfl,rfl⟩
  ·exact .inl h
 all_goals first|exact absurd rfl hk|exact .inl h
theorem opd_nil {X:Operand} {x:Opd} (h:opd X=some x) (hn:isNil x=true):∃ v,X = .const v:=by
 cases X<;>simp only [opd,Option.some.injEq,Option.map_eq_some_iff] at h
 case const v=>exact ⟨v,rfl⟩
 all_goals first|(subst h;simp [isNil] at hn)|cases h
theorem run_eqGuard_nil {T:TypeId} {X Y:Operand} {x y:Opd} {op:BinOp} (hX:opd X=some x) (hY:opd Y=some y) (h:(isNil x || isNil y)=true) :
  (eqGuard op T X Y .nilIface .nilIface).run P w = .ok () w:=by
 unfold eqGuard
 rw [Bool.or_eq_true] at h
 rcases h with h|h
 ·obtain ⟨v,rfl⟩:=opd_nil hX h
  cases op<;>rfl
 ·obtain ⟨v,rfl⟩:=opd_nil hY h
  cases X<;>cases op<;>rfl
theorem run_eq_nil {T:TypeId} (hk:eqK P T=some .i):(Op.equal T .nilIface .nilIface).run P w = .ok true w:=by
 have key:∀ d,(Op.equalIn (d+1) T .nilIface .nilIface).run P w = .ok true w:=by
  intro d
  unfold eqK at hk
  split at hk<;>(try cases hk)<;>rename_i hT<;>(try injection hk with hk;subst hk)
  all_goals
   (unfold Op.equalIn;simp [underlying,program,hT,Sem.run,bind,Sem.bind,pure])
 exact key 9999
theorem run_eqGuard_plain {T:TypeId} {X Y:Operand} {op:BinOp} {x y:AV} {u v:Value} {r:AV} (hx:Rep σ w x u) (hy:Rep σ w y v) (h:binV op x y=some r) :
  (eqGuard op T X Y u v).run P w = .ok () w:=by
 unfold eqGuard
 cases hx<;>cases hy<;>simp only [binV,reduceCtorEq] at h<;>(split<;>rfl)
theorem run_binV {T:TypeId} {op:BinOp} {x y:AV} {u v:Value} {r:AV} (hx:Rep σ w x u) (hy:Rep σ w y v) (h:binV op x y=some r) :
  ∃ z,(Go.binOp op T u v).run P w = .ok z w/\Rep σ w r z:=by
 cases hx<;>cases hy<;>simp only [binV,reduceCtorEq] at h
 ·rename_i k m k' n
  split at h
  ·rename_i hs
   exact run_shI hs h
  ·rename_i hs
   split at h
   ·rename_i hk;subst hk;exact run_binI (by simpa using hs) h
   ·cases h
 ·exact run_binS h
end
end Go.A
namespace Go.A
section
variable {P:Program} {σ:ASt} {w:World}
theorem addr_add' (b o n:Nat):(⟨b,o,none⟩:Addr).add n=⟨b,o+n,none⟩:=by unfold Addr.add;split<;>simp_all
theorem Reps.length:∀ {as:List AV} {vs:List Value},Reps σ w as vs->as.length=vs.length
 | _,_,.nil=>rfl
 | _,_,.cons _ h=>by simp [h.length]
theorem Reps.get:∀ {as:List AV} {vs:List Value},Reps σ w as vs->∀ {i:Nat} {a:AV},as[i]? = some a->∃ v,vs[i]? = some v/\Rep σ w a v
 | _,_,.nil,i,a,h=>by simp at h
 | _,_,.cons h1 h2,0,a,h=>by simp at h;subst h;exact ⟨_,rfl,h1⟩
 | _,_,.cons h1 h2,i+1,a,h=>by
   simp only [List.getElem?_cons_succ] at h ⊢
   exact h2.get h
theorem Reps.drop:∀ {as:List AV} {vs:List Value},Reps σ w as vs->∀ (n:Nat),Reps σ w (as.drop n) (vs.drop n)
 | _,_,h,0=>by simpa using h
 | _,_,.nil,n+1=>by simpa using .nil
 | _,_,.cons h1 h2,n+1=>by simpa using h2.drop n
theorem Reps.take:∀ {as:List AV} {vs:List Value},Reps σ w as vs->∀ (n:Nat),Reps σ w (as.take n) (vs.take n)
 | _,_,h,0=>by simpa using .nil
 | _,_,.nil,n+1=>by simpa using .nil
 | _,_,.cons h1 h2,n+1=>by simpa using .cons h1 (h2.take n)
theorem Reps.append:∀ {as:List AV} {vs:List Value},Reps σ w as vs->∀ {bs:List AV} {us:List Value},Reps σ w bs us->Reps σ w (as++bs) (vs++us)
 | _,_,.nil,_,_,h=>h
 | _,_,.cons h1 h2,_,_,h => .cons h1 (h2.append h)
theorem At.vals:∀ {b o:Nat} {as:List AV},At σ w b o as->∃ vs,Reps σ w as vs/\∀ j v,vs[j]? = some v->w.cell? ⟨b,o+j,none⟩=some v
 | _,_,_,.nil b o=>⟨[],.nil,by simp⟩
 | _,_,_,.cons (b:=b) (o:=o) (v:=v) h1 h2 h3 h4=>by
   obtain ⟨vs,hr,hc⟩:=h4.vals
   refine ⟨v::vs,.cons h3 hr,fun j u hj=>?_⟩
   cases j with
   | zero=>simp at hj;subst hj;simpa using h2
   | succ j=>
     simp only [List.getElem?_cons_succ] at hj
     have:=hc j u hj
     rwa [show o+(j+1)=o+1+j by omega]
theorem At.still:∀ {b o:Nat} {as:List AV},At σ w b o as->∀ j,j<as.length->Still σ w b (o+j)
 | _,_,_,.nil b o,j,h=>by simp at h
 | _,_,_,.cons h1 h2 h3 h4,0,h=>h1
 | _,_,_,.cons (o:=o) h1 h2 h3 h4,j+1,h=>by
   have:=h4.still j (by simpa using h)
   rwa [show o+(j+1)=o+1+j by omega]
theorem At.mk':∀ {as:List AV} {vs:List Value} (_:Reps σ w as vs) {b o:Nat} (_:∀ j,j<vs.length->Still σ w b (o+j)) (_:∀ j v,vs[j]? = some v->w.cell? ⟨b,o+j,none⟩=some v),At σ w b o as
 | _,_,.nil,b,o,_,_ => .nil b o
 | _,_,.cons h1 h2,b,o,hs,hc=>by
   refine .cons (hs 0 (by simp)) (hc 0 _ rfl) h1 (At.mk' h2 (fun j hj=>?_) (fun j v hj=>?_))
   ·have:=hs (j+1) (by simpa using hj)
    rwa [show o+(j+1)=o+1+j by omega] at this
   ·have:=hc (j+1) v (by simpa using hj)
    rwa [show o+(j+1)=o+1+j by omega] at this
theorem At.drop:∀ {b o:Nat} {as:List AV},At σ w b o as->∀ (n:Nat),At σ w b (o+n) (as.drop n)
 | _,_,_,h,0=>by simpa using h
 | _,_,_,.nil b o,n+1=>by simpa using .nil _ _
 | _,_,_,.cons (o:=o) h1 h2 h3 h4,n+1=>by
   have:=h4.drop n
   simp only [List.drop_succ_cons]
   rwa [show o+(n+1)=o+1+n by omega]
theorem At.take:∀ {b o:Nat} {as:List AV},At σ w b o as->∀ (n:Nat),At σ w b o (as.take n)
 | _,_,_,h,0=>by simpa using .nil _ _
 | _,_,_,.nil b o,n+1=>by simpa using .nil _ _
 | _,_,_,.cons h1 h2 h3 h4,n+1=>by simpa using .cons h1 h2 h3 (h4.take n)
theorem Row.at:∀ {b o sz:Nat} {xs:List AV},Row σ w b o sz xs->∀ {i:Nat} {x:AV},xs[i]? = some x->x.cells.length=sz/\At σ w b (o+i*sz) x.cells
 | _,_,_,_,.nil ..,i,x,h=>by simp at h
 | _,_,_,_,.cons h1 h2 h3,0,x,h=>by simp at h;subst h;exact ⟨h1,by simpa using h2⟩
 | _,_,_,_,.cons (o:=o) (sz:=sz) h1 h2 h3,i+1,x,h=>by
   simp only [List.getElem?_cons_succ] at h
   have:=h3.at h
   rwa [show o+(i+1)*sz=o+sz+i*sz by rw [Nat.add_mul];omega]
theorem Row.drop:∀ {b o sz:Nat} {xs:List AV},Row σ w b o sz xs->∀ (n:Nat),Row σ w b (o+n*sz) sz (xs.drop n)
 | _,_,_,_,h,0=>by simpa using h
 | _,_,_,_,.nil ..,n+1=>by simpa using .nil _ _ _
 | _,_,_,_,.cons (o:=o) (sz:=sz) h1 h2 h3,n+1=>by
   have:=h3.drop n
   simp only [List.drop_succ_cons]
   rwa [show o+(n+1)*sz=o+sz+n*sz by rw [Nat.add_mul];omega]
theorem Row.take:∀ {b o sz:Nat} {xs:List AV},Row σ w b o sz xs->∀ (n:Nat),Row σ w b o sz (xs.take n)
 | _,_,_,_,h,0=>by simpa using .nil _ _ _
 | _,_,_,_,.nil ..,n+1=>by simpa using .nil _ _ _
 | _,_,_,_,.cons h1 h2 h3,n+1=>by simpa using .cons h1 h2 (h3.take n)
theorem Row.flat:∀ {b o sz:Nat} {xs:List AV},Row σ w b o sz xs->At σ w b o (xs.flatMap AV.cells)/\(xs.flatMap AV.cells).length=xs.length*sz
 | _,_,_,_,.nil .. => ⟨by simpa using .nil _ _,by simp⟩
 | _,_,_,_,.cons (b:=b) (o:=o) (sz:=sz) (x:=x) (xs:=xs) h1 h2 h3=>by
   obtain ⟨hA,hl⟩:=h3.flat
   constructor
   ·obtain ⟨vs,hr,hc⟩:=h2.vals
    obtain ⟨us,hr',hc'⟩:=hA.vals
    have hvl:vs.length=sz:=by rw [<-hr.length,h1]
    simp only [List.flatMap_cons]
    refine At.mk' (hr.append hr') (fun j hj=>?_) (fun j v hj=>?_)
    ·by_cases hjs:j<sz
     ·exact h2.still j (by omega)
     ·have hj2:=hA.still (j-sz) (by rw [hr'.length];simp [hvl] at hj;omega)
      rwa [show o+j=o+sz+(j-sz) by omega]
    ·by_cases hjs:j<sz
     ·exact hc j v (by rwa [List.getElem?_append_left (by omega)] at hj)
     ·rw [List.getElem?_append_right (by omega)] at hj
      have:=hc' (j-sz) v (by rwa [hvl] at hj)
      rwa [show o+j=o+sz+(j-sz) by omega]
   ·simp only [List.flatMap_cons,List.length_append,List.length_cons,hl,h1,Nat.add_mul];omega
theorem Row.unflat:∀ {xs:List AV} {b o sz:Nat},(∀ x∈xs,x.cells.length=sz)->At σ w b o (xs.flatMap AV.cells)->Row σ w b o sz xs
 | [],b,o,sz,_,_ => .nil _ _ _
 | x::xs,b,o,sz,hl,h=>by
   have h1:=hl x (by simp)
   simp only [List.flatMap_cons] at h
   refine .cons h1 ?_ (Row.unflat (fun y hy=>hl y (by simp [hy])) ?_)
   ·have:=h.take x.cells.length
    simpa using this
   ·have:=h.drop x.cells.length
    rw [h1] at this
    simpa [h1] using this
theorem Sim.objCell (hs:Sim σ w) {b:Nat} {cs:List AV} (hb:σ b=some (.obj cs)):∃ vs,Reps σ w cs vs/\(∀ j v,vs[j]? = some v->w.cell? ⟨b,j,none⟩=some v)/\∀ j,j<vs.length->w.frozen? ⟨b,j,none⟩=false:=by
 obtain ⟨c,T,fr,h1,h2,h3⟩:=hs b _ hb
 refine ⟨c.toList.take cs.length,h2,fun j v hj=>?_,fun j hj=>h3 j (by simp at hj;omega)⟩
 rw [List.getElem?_take] at hj
 split at hj
 ·simp only [World.cell?,h1]
  simpa using hj
 ·cases hj
def known (σ:ASt) (b:Nat):Option (List AV):=
 match σ b with
 | some (.obj cs)=>some cs
 | some (.fix cs)=>some cs
 | _=>none
theorem Sim.known (hs:Sim σ w) {b:Nat} {cs:List AV} (hb:known σ b=some cs):∃ vs,Reps σ w cs vs/\∀ j v,vs[j]? = some v->w.cell? ⟨b,j,none⟩=some v:=by
 unfold A.known at hb
 split at hb
 ·rename_i cs' h1
  injection hb with hb;subst hb
  obtain ⟨vs,h2,h3,_⟩:=hs.objCell h1
  exact ⟨vs,h2,h3⟩
 ·rename_i cs' h1
  injection hb with hb;subst hb
  obtain ⟨vs,h2,h3⟩:=(hs b _ h1).1.vals
  exact ⟨vs,h2,fun j v hj=>by simpa using h3 j v hj⟩
 ·cases hb
theorem run_cells {b o n:Nat} {vs:List Value} (hc:∀ j v,vs[j]? = some v->w.cell? ⟨b,o+j,none⟩=some v) (hn:n<=vs.length) :
  (loadCells ⟨b,o,none⟩ n).run P w = .ok (vs.take n).toArray w:=by
 have:=run_loadCells_list (P:=P) w ⟨b,o,none⟩ (vs.take n) (fun j v hj=>by
  rw [addr_add']
  refine hc j v ?_
  rw [List.getElem?_take] at hj
  split at hj
  ·exact hj
  ·cases hj)
 rwa [List.length_take_of_le hn] at this
end
end Go.A
namespace Go.A
inductive QOp where
 | mv (x:Opd)
 | pick (c x y:Opd)
 | bin (op:BinOp) (x y:Opd)
 | eq (k:EqK) (neg:Bool) (x y:Opd)
 | eqs (neg:Bool) (l:List (Nat×Nat)) (x y:Opd)
 | un (op:UnOp) (x:Opd)
 | conv (k:IntKind) (x:Opd)
 | s2s (x:Opd)
 | s2b (x:Opd)
 | b2s (x:Opd)
 | i2s (x:Opd)
 | r2s (x:Opd)
 | fld (o:Nat) (n:Option Nat) (x:Opd)
 | fa (o:Nat) (x:Opd)
 | ia (s:Nat) (x i:Opd)
 | iaa (len s:Nat) (x i:Opd)
 | idx (x i:Opd)
 | ld (n:Option Nat) (p:Opd)
 | nc (x:Opd)
 | len (x:Opd)
 | lenS (x:Opd)
 | ext (i:Nat) (x:Opd)
 | mki (t:TypeId) (x:Opd)
 | build (z:List AV) (ps:List (Nat×Nat×Opd))
 | bsl (s:Nat) (xs:List Opd)
 | bslv (s:Nat) (xs:List Opd)
 | capo (x:Opd)
 | sl3 (s:Nat) (x lo hi mx:Opd)
 | sls (s:Bool×Nat) (x lo hi:Opd)
 | slfrom (s:Bool×Nat) (x lo:Opd)
 | slto (s:Bool×Nat) (x hi:Opd)
 | slall (s:Bool×Nat) (x:Opd)
 | sla (n:Nat) (x:Opd)
 | mnx (mx:Bool) (x y:Opd)
 | mkf (fn:Fn) (first cap:List Opd)
 | mget (x k:Opd)
 | mgets (c:Bool) (x k:Opd)
 | ta (t:TypeId) (z:AV) (ok:Bool) (x:Opd)
 | box (x:Opd)
 deriving Inhabited
def AV.isAny:AV->Bool
 | .any=>true
 | _=>false
def fieldVal (o:Nat) (n:Option Nat) (cs:List AV):Option AV:=
 match n with
 | some n=>if o+n<=cs.length then some (.agg ((cs.drop o).take n)) else none
 | none=>cs[o]?
def fillC (cells:List AV):List (Nat×Nat×AV)->Option (List AV)
 | []=>some cells
 | (off,size,v)::rest=>
   if v.isAny=false/\v.cells.length=size/\off+size<=cells.length then fillC (cells.take off++v.cells++cells.drop (off+size)) rest else none
def wellSz (s:Nat):List AV->Bool
 | []=>true
 | x::xs => !x.isAny && x.cells.length==s && wellSz s xs
def allSz (s:Nat) (xs:List AV):Bool:=xs.all fun x=>x.cells.length==s
def slV (s:Bool×Nat) (x:AV) (lo hi:Int):Option AV:=
 if lo<0\/hi<lo then none else
 match s.1,x with
 | true,.str l=>if hi<=l.length then some (.str ((l.take hi.toNat).drop lo.toNat)) else none
 | false,.sl _ xs=>if hi<=xs.length then if lo=0 then some (.sl .shr (xs.take hi.toNat)) else if allSz s.2 xs then some (.sl .shr ((xs.take hi.toNat).drop lo.toNat)) else none else none
 | false,.msl b o _ c=>if hi<=c then some (.msl b (if lo=c then o else o+lo.toNat*s.2) (hi.toNat-lo.toNat) (c-lo.toNat)) else none
 | _,_=>none
def bytesOf:List AV->Option (List UInt8)
 | []=>some []
 | .int .u8 n::xs=>match bytesOf xs with
   | some l=>some (UInt8.ofNat n.toNat::l)
   | none=>none
 | _=>none
def intsOf:List AV->Option (List Int)
 | []=>some []
 | .int .i32 n::xs=>match intsOf xs with
   | some l=>some (n::l)
   | none=>none
 | _=>none
def lenV:AV->Option Nat
 | .str l=>some l.length
 | .sl _ xs=>some xs.length
 | .msl _ _ n _=>some n
 | _=>none
def intV:AV->Option Int
 | .int _ n=>some n
 | _=>none
def leafEq:Nat->AV->AV->Option Bool
 | 0,.int k x,.int k' y=>if k=k' then some (decide (x=y)) else none
 | 1,.bool x,.bool y=>some (decide (x=y))
 | 2,.str x,.str y=>some (decide (x=y))
 | _,_,_=>none
def eqCs:List (Nat×Nat)->List AV->List AV->Option Bool
 | [],_,_=>some true
 | (o,k)::os,cs,ds=>match cs[o]?,ds[o]? with
   | some x,some y=>match leafEq k x y,eqCs os cs ds with
     | some r,some q=>some (r && q)
     | _,_=>none
   | _,_=>none
def sl3V (s:Nat) (x:AV) (lo hi mx:Int):Option AV:=
 if lo<0\/hi<lo\/mx<hi then none else
 match x with
 | .msl b o _ c=>if mx<=c then some (.msl b (if lo=mx then o else o+lo.toNat*s) (hi.toNat-lo.toNat) (mx.toNat-lo.toNat)) else none
 | .sl .full []=>if mx=0 then some (.sl .full []) else none
 | _=>none
def findM {α:Type}:List (Int×α)->Int->Option α
 | [],_=>none
 | p::l,k=>if k=p.1 then some p.2 else findM l k
def putM {α:Type}:List (Int×α)->Int->α->List (Int×α)
 | [],k,v => [(k,v)]
 | p::l,k,v=>if k=p.1 then (k,v)::l else p::putM l k v
def delM {α:Type}:List (Int×α)->Int->List (Int×α)
 | [],_ => []
 | p::l,k=>if k=p.1 then l else p::delM l k
def mapAt (σ:ASt) (b:Nat):Option (List (Int×Int)):=
 match σ b with
 | some (.map l)=>some l
 | _=>none
def mapsAt (σ:ASt) (b:Nat):Option (List (Int×List UInt8)):=
 match σ b with
 | some (.maps l)=>some l
 | _=>none
def QOp.ev (q:QOp) (a:AFr) (σ:ASt):Option AV:=
 match q with
 | .mv x=>some (x.ev a)
 | .pick c x y=>match c.ev a with
   | .bool b=>some (if b then x.ev a else y.ev a)
   | _=>none
 | .bin op x y=>binV op (x.ev a) (y.ev a)
 | .eq k neg x y=>match eqV k (x.ev a) (y.ev a) with
   | some b=>some (.bool (if neg then !b else b))
   | none=>none
 | .eqs neg l x y=>match x.ev a,y.ev a with
   | .agg cs,.agg ds=>match eqCs l cs ds with
     | some b=>some (.bool (if neg then !b else b))
     | none=>none
   | _,_=>none
 | .un op x=>match op,x.ev a with
   | .neg,.int k n=>some (.int k (k.wrap (0-n)))
   | .not,.bool b=>some (.bool (!b))
   | .xor,.int k n=>binI .xor k (if k.signed then -1 else k.max) n
   | _,_=>none
 | .conv k x=>match x.ev a with
   | .int _ n=>some (.int k (k.wrap n))
   | _=>none
 | .s2s x=>match x.ev a with
   | .str l=>some (.str l)
   | _=>none
 | .s2b x=>match x.ev a with
   | .str l=>some (.sl .shr (l.map fun c => .int .u8 c.toNat))
   | _=>none
 | .b2s x=>match x.ev a with
   | .sl _ xs=>match bytesOf xs with
     | some l=>some (.str l)
     | none=>none
   | .msl b o n _=>match known σ b with
     | some cs=>if o+n<=cs.length then match bytesOf ((cs.drop o).take n) with
       | some l=>some (.str l)
       | none=>none
      else none
     | none=>none
   | _=>none
 | .i2s x=>match x.ev a with
   | .int _ n=>some (.str (Utf8.encode n).data.toList)
   | _=>none
 | .r2s x=>match x.ev a with
   | .sl _ xs=>match intsOf xs with
     | some l=>some (.str (runesBytes l).data.toList)
     | none=>none
   | .msl b o n _=>match known σ b with
     | some cs=>if o+n<=cs.length then match intsOf ((cs.drop o).take n) with
       | some l=>some (.str (runesBytes l).data.toList)
       | none=>none
      else none
     | none=>none
   | _=>none
 | .fld o n x=>match x.ev a with
   | .agg cs=>fieldVal o n cs
   | _=>none
 | .fa o x=>match x.ev a with
   | .ptr b p=>some (.ptr b (p+o))
   | .imm cs=>some (.imm (cs.drop o))
   | _=>none
 | .ia s x i=>match x.ev a,intV (i.ev a) with
   | .sl _ xs,some i=>if i<0 then none else match xs[i.toNat]? with
     | some y=>if y.cells.length=s then some (.imm y.cells) else none
     | none=>none
   | .msl b o n _,some i=>if i<0 then none else if i<n then some (.ptr b (o+i.toNat*s)) else none
   | _,_=>none
 | .iaa m s x i=>match x.ev a,intV (i.ev a) with
   | .ptr b o,some i=>if i<0 then none else if i<m then some (.ptr b (o+i.toNat*s)) else none
   | .imm cs,some i=>if i<0 then none else if i<m then some (.imm (cs.drop (i.toNat*s))) else none
   | _,_=>none
 | .idx x i=>match x.ev a,intV (i.ev a) with
   | .str l,some i=>if i<0 then none else match l[i.toNat]? with
     | some c=>some (.int .u8 c.toNat)
     | none=>none
   | _,_=>none
 | .ld n p=>match p.ev a with
   | .ptr b o=>match known σ b with
     | some cs=>fieldVal o n cs
     | none=>none
   | .imm cs=>fieldVal 0 n cs
   | _=>none
 | .nc x=>match x.ev a with
   | .ptr b o=>some (.ptr b o)
   | .imm cs=>some (.imm cs)
   | _=>none
 | .len x=>match x.ev a with
   | .sl _ xs=>some (.int .i64 xs.length)
   | .msl _ _ n _=>some (.int .i64 n)
   | _=>none
 | .lenS x=>match x.ev a with
   | .str l=>some (.int .i64 l.length)
   | _=>none
 | .ext i x=>match x.ev a with
   | .tuple vs=>vs[i]?
   | _=>none
 | .mki t x=>some (.iface t (x.ev a))
 | .build z ps=>(fillC z (ps.map fun (o,n,x)=>(o,n,x.ev a))).map .agg
 | .bsl s xs=>if wellSz s (xs.map (·.ev a)) then some (.sl .full (xs.map (·.ev a))) else none
 | .bslv s xs=>if wellSz s (xs.map (·.ev a)) then some (.sl .lit (xs.map (·.ev a))) else none
 | .capo x=>match x.ev a with
   | .msl _ _ _ c=>some (.int .i64 c)
   | _=>none
 | .sl3 s x lo hi mx=>match intV (lo.ev a),intV (hi.ev a),intV (mx.ev a) with
   | some lo,some hi,some mx=>sl3V s (x.ev a) lo hi mx
   | _,_,_=>none
 | .sls s x lo hi=>match intV (lo.ev a),intV (hi.ev a) with
   | some lo,some hi=>slV s (x.ev a) lo hi
   | _,_=>none
 | .slfrom s x lo=>match intV (lo.ev a),lenV (x.ev a) with
   | some lo,some n=>slV s (x.ev a) lo n
   | _,_=>none
 | .slto s x hi=>match intV (hi.ev a) with
   | some hi=>slV s (x.ev a) 0 hi
   | _=>none
 | .sla n x=>match x.ev a with
   | .ptr b o=>some (.msl b o n n)
   | _=>none
 | .slall s x=>match lenV (x.ev a) with
   | some n=>slV s (x.ev a) 0 n
   | _=>none
 | .mnx mx x y=>match x.ev a,y.ev a with
   | .int k m,.int _ n=>some (.int k (if mx then (if n>m then n else m) else (if n<m then n else m)))
   | _,_=>none
 | .mkf fn first cap=>some (.func fn (first.map (·.ev a)) (cap.map (·.ev a)))
 | .mget x k=>match x.ev a,k.ev a with
   | .map (some b),.int .i64 k=>match mapAt σ b with
     | some l=>some (.tuple [.int .i64 ((findM l k).getD 0),.bool (findM l k).isSome])
     | none=>none
   | _,_=>none
 | .mgets c x k=>match x.ev a,k.ev a with
   | .map (some b),.int .i64 k=>match mapsAt σ b with
     | some l=>some (if c then .tuple [.str ((findM l k).getD []),.bool (findM l k).isSome] else .str ((findM l k).getD []))
     | none=>none
   | _,_=>none
 | .ta t z ok x=>match x.ev a with
   | .iface s v=>if s=t then some (if ok then .tuple [v,.bool true] else v) else if ok then some (.tuple [z,.bool false]) else none
   | .nili=>if ok then some (.tuple [z,.bool false]) else none
   | _=>none
 | .box x=>if (x.ev a).isAny then none else some (.imm (x.ev a).cells)
def aggOf (P:Program) (t:TypeId):Option (Option Nat):=
 match P.underlying t,P.info? t with
 | some (.struct _),some i=>some (some i.size)
 | some (.array _ _),some i=>some (some i.size)
 | some _,some _=>some none
 | _,_=>none
def fieldOf (P:Program) (t:TypeId) (f:Nat):Option (Nat×TypeId):=
 match P.underlying t with
 | some (.struct fs)=>match fs[f]? with
   | some fd=>some (fd.offset,fd.type)
   | none=>none
 | _=>none
def sizeT (P:Program) (t:TypeId):Option Nat:=(P.info? t).map (·.size)
def zeroT (P:Program) (t:TypeId):Option AV:=
 match P.info? t with
 | some i=>match i.zero with
   | some v=>ofVal v
   | none=>none
 | none=>none
def partsOf (P:Program) (t:TypeId):List (Nat×Operand)->Option (List (Nat×Nat×Opd))
 | []=>some []
 | (i,x)::ps=>match fieldOf P t i,opd x,partsOf P t ps with
   | some (o,ft),some x',some ps'=>match sizeT P ft with
     | some n=>some ((o,n,x')::ps')
     | none=>none
   | _,_,_=>none
def fieldsOk (P:Program) (t:TypeId):Bool:=
 match P.underlying t with
 | some (.struct fs)=>fs.toList.all fun f=>(P.info? f.type).isSome
 | _=>false
def arrOk (P:Program) (t:TypeId):Bool:=
 match P.underlying t with
 | some (.array _ e)=>(P.info? e).isSome
 | _=>false
def elemsOf (k:Nat):List (Nat×Operand)->Option (List Opd)
 | []=>some []
 | (i,x)::ps=>if i=k then match opd x,elemsOf (k+1) ps with
   | some x',some ps'=>some (x'::ps')
   | _,_=>none
  else none
def sliceSz (P:Program) (T:TypeId):Option (Bool×Nat):=
 match P.underlying T with
 | some .string=>some (true,0)
 | some (.slice e)=>(sizeT P e).map fun n=>(false,n)
 | _=>none
def leafK (P:Program) (t:TypeId):Option Nat:=
 match P.underlying t with
 | some (.int _)=>some 0
 | some .bool=>some 1
 | some .string=>some 2
 | _=>none
def eqFs (P:Program) (sub:List Field->Option (List (Nat×Nat))):List Field->Option (List (Nat×Nat))
 | []=>some []
 | f :: fs => if f.name = "_" then none else match aggOf P f.type, eqFs P sub fs with
   | some none,some r=>match leafK P f.type with
     | some k=>some ((f.offset,k)::r)
     | none=>none
   | some (some m),some r=>match P.underlying f.type with
     | some (.struct gs)=>if P.stoodInHeld f.type then none else match sub gs.toList with
       | some l=>if l.all fun p=>p.1<m then some (l.map (fun p=>(f.offset+p.1,p.2))++r) else none
       | none=>none
     | _=>none
   | _,_=>none
def eqOffs (P:Program):Nat->List Field->Option (List (Nat×Nat))
 | 0=>eqFs P fun _=>none
 | n+1=>eqFs P (eqOffs P n)
def eqsOf (P:Program) (T:TypeId):Option (List (Nat×Nat)):=
 match P.underlying T with
 | some (.struct fs)=>if P.stoodInHeld T || P.eqGuardType P.depth T then none else eqOffs P 6 fs.toList
 | _=>none
def isEq:BinOp->Bool
 | .eql | .neq=>true
 | _=>false
def isLit (P:Program) (e:TypeId) (n:Nat):Bool:=
 n==1 && match P.underlying e with
 | some (.int .i64)=>true
 | some (.int .u64)=>true
 | _=>false
def intMap (P:Program) (T:TypeId):Bool:=
 match P.underlying T with
 | some (.map k e)=>match P.underlying k,zeroT P e with
   | some (.int .i64),some (.int .i64 0)=>true
   | _,_=>false
 | _=>false
def strMap (P:Program) (T:TypeId):Bool:=
 match P.underlying T with
 | some (.map k e)=>match P.underlying k,zeroT P e with
   | some (.int .i64),some (.str [])=>true
   | _,_=>false
 | _=>false
def isSlT (P:Program) (T:TypeId):Bool:=
 match P.underlying T with
 | some (.slice _)=>true
 | _=>false
def compQ (P:Program) (o:Oper):Option QOp:=
 match o.op with
 | .move x=>(opd x).map .mv
 | .assign x=>(opd x).map .mv
 | .pick c x y=>match opd c,opd x,opd y with
   | some c,some x,some y=>some (.pick c x y)
   | _,_,_=>none
 | .binOp op T x y _=>match opd x,opd y with
   | some x,some y=>if isEq op then match eqK P T with
     | some k=>some (.eq (eqKc x y k) (op == .neq) x y)
     | none=>match eqsOf P T with
       | some l=>some (.eqs (op == .neq) l x y)
       | none=>if isSlT P T then none else some (.bin op x y)
    else some (.bin op x y)
   | _,_=>none
 | .unOp op _ x=>(opd x).map (.un op)
 | .convert s d x=>match opd x,P.underlying s,P.underlying d with
   | some x,some (.int _),some (.int k)=>some (.conv k x)
   | some x,some .string,some .string=>some (.s2s x)
   | some x,some (.int _),some .string=>some (.i2s x)
   | some x,some (.slice e),some .string=>match P.underlying e with
     | some (.int .u8)=>some (.b2s x)
     | some (.int .i32)=>some (.r2s x)
     | _=>none
   | _,_,_=>none
 | .field T x f=>match opd x,fieldOf P T f with
   | some x,some (o,ft)=>(aggOf P ft).map fun n => .fld o n x
   | _,_=>none
 | .fieldAddr T x f=>match opd x,fieldOf P T f with
   | some x,some (o,ft)=>match sizeT P ft with
     | some (_+1)=>some (.fa o x)
     | _=>none
   | _,_=>none
 | .indexAddr T x i=>match opd x,opd i,P.underlying T with
   | some x,some i,some (.slice e)=>(sizeT P e).map fun s => .ia s x i
   | some x,some i,some (.array n e)=>(sizeT P e).map fun s => .iaa n s x i
   | _,_,_=>none
 | .index T x i=>match opd x,opd i,P.underlying T with
   | some x,some i,some .string=>some (.idx x i)
   | _,_,_=>none
 | .load T p=>match opd p,aggOf P T with
   | some p,some n=>some (.ld n p)
   | _,_=>none
 | .nilCheck x=>(opd x).map .nc
 | .extract x i=>(opd x).map (.ext i)
 | .makeInterface T x=>match opd x,P.underlying T with
   | some _,some (.interface _)=>none
   | some x,some _=>some (.mki T x)
   | _,_=>none
 | .build T ps=>match zeroT P T,partsOf P T ps.toList with
   | some (.agg z),some ps=>if fieldsOk P T then some (.build z ps) else (match ps with
     | []=>if arrOk P T then some (.build z []) else none
     | _=>none)
   | _,_=>none
 | .buildSlice T n ps=>match P.underlying T with
   | some (.slice e)=>match P.info? e,elemsOf 0 ps.toList with
     | some i,some xs=>if xs.length=n/\n*i.size<=16777216/\i.zero.isSome then (if isLit P e n then some (.bslv i.size xs) else some (.bsl i.size xs)) else none
     | _,_=>none
   | _=>none
 | .slice T x lo (some hi) (some mx)=>match opd x,opd hi,opd mx,sliceSz P T,(match lo with|some lo=>opd lo|none=>some (.v (.int .i64 0))) with
   | some x,some hi,some mx,some (false,s),some lo=>some (.sl3 s x lo hi mx)
   | _,_,_,_,_=>none
 | .slice T x lo hi none=>match opd x,sliceSz P T with
   | some x,none=>match P.underlying T,lo,hi with
     | some (.array n _),none,none=>if arrOk P T && decide (0<n) then some (.sla n x) else none
     | _,_,_=>none
   | some x,some s=>match lo,hi with
     | some lo,some hi=>match opd lo,opd hi with
       | some lo,some hi=>some (.sls s x lo hi)
       | _,_=>none
     | some lo,none=>(opd lo).map (.slfrom s x)
     | none,some hi=>(opd hi).map (.slto s x)
     | none,none=>some (.slall s x)
   | _,_=>none
 | .makeFunc fn first cap=>match opds first.toList,opds cap.toList with
   | some f,some c=>some (.mkf fn f c)
   | _,_=>none
 | .lookup T x k c=>match opd x,opd k with
   | some x,some k=>if c && intMap P T then some (.mget x k) else if strMap P T then some (.mgets c x k) else none
   | _,_=>none
 | .typeAssert x _ t ok=>match opd x,P.underlying t,zeroT P t with
   | some _,some (.interface _),_=>none
   | some x,some _,some z=>some (.ta t z ok x)
   | _,_,_=>none
 | .call { callee := .builtin .len,args:=⟨[x]⟩,argTypes:=⟨[t]⟩ }=>match opd x,P.underlying t with
   | some x,some .string=>some (.lenS x)
   | some x,some (.slice _)=>some (.len x)
   | _,_=>none
 | .call { callee := .builtin .cap,args:=⟨[x]⟩,argTypes:=⟨[t]⟩ }=>match opd x,P.underlying t with
   | some x,some (.slice _)=>some (.capo x)
   | _,_=>none
 | .call { callee := .builtin .min,args:=⟨[x,y]⟩,argTypes:=_ }=>match opd x,opd y with
   | some x,some y=>some (.mnx false x y)
   | _,_=>none
 | .call { callee := .builtin .max,args:=⟨[x,y]⟩,argTypes:=_ }=>match opd x,opd y with
   | some x,some y=>some (.mnx true x y)
   | _,_=>none
 | _=>none
def QOp.reads:QOp->Bool
 | .ld _ _=>true
 | .b2s _=>true
 | .r2s _=>true
 | .mget _ _=>true
 | .mgets _ _ _=>true
 | _=>false
theorem QOp.ev_still {q:QOp} (h:q.reads=false) (a:AFr) (σ σ':ASt):q.ev a σ=q.ev a σ':=by
 cases q<;>first|rfl|cases h
end Go.A
namespace Go.A
section
variable {P:Program} {σ:ASt} {w:World}
theorem run_und {t:TypeId} {d:TypeDesc} (h:P.underlying t=some d):(underlying t).run P w = .ok d w:=by
 simp [underlying,program,h,Sem.run,bind,Sem.bind,pure]
theorem run_ti {t:TypeId} {i:TypeInfo} (h:P.info? t=some i):(typeInfo t).run P w = .ok i w:=by
 simp [typeInfo,program,h,Sem.run,bind,Sem.bind,pure]
theorem run_so {t:TypeId} {i:TypeInfo} (h:P.info? t=some i):(sizeOf t).run P w = .ok i.size w:=by
 unfold sizeOf;rw [Sem.run_bind,run_ti h];rfl
theorem run_zv {t:TypeId} {i:TypeInfo} {v:Value} (h:P.info? t=some i) (hz:i.zero=some v):(zeroValue t).run P w = .ok v w:=by
 unfold zeroValue;rw [Sem.run_bind,run_ti h];simp only [Result.andThen,hz];rfl
theorem aggOf_spec {t:TypeId} {n:Option Nat} (h:aggOf P t=some n):∃ i,P.info? t=some i/\(isAgg t).run P w = .ok n.isSome w/\∀ m,n=some m->m=i.size:=by
 unfold aggOf at h
 split at h
 ·rename_i h1 h2
  injection h with h;subst h
  exact ⟨_,h2,by unfold isAgg;rw [Sem.run_bind,run_und h1];rfl,fun m hm=>by injection hm with hm;exact hm.symm⟩
 ·rename_i h1 h2
  injection h with h;subst h
  exact ⟨_,h2,by unfold isAgg;rw [Sem.run_bind,run_und h1];rfl,fun m hm=>by injection hm with hm;exact hm.symm⟩
 ·rename_i d i h1 h2 h3 h4
  injection h with h;subst h
  refine ⟨i,h4,?_,fun m hm=>by cases hm⟩
  unfold isAgg;rw [Sem.run_bind,run_und h3]
  simp only [Result.andThen]
  cases d<;>first|rfl|(exfalso;first|exact h1 _ _ h3 h4|exact h2 _ _ _ h3 h4)
 ·cases h
theorem run_loadVar {t:TypeId} {n:Option Nat} (hn:aggOf P t=some n) {b o:Nat} {cs:List AV} {vs:List Value} (hr:Reps σ w cs vs)
  (hc:∀ j v,vs[j]? = some v->w.cell? ⟨b,o+j,none⟩=some v) {r:AV} (h:fieldVal 0 n cs=some r):∃ u,(loadVar t ⟨b,o,none⟩).run P w = .ok u w/\Rep σ w r u:=by
 obtain ⟨i,hi,ha,hm⟩:=aggOf_spec (w:=w) hn
 cases n with
 | none=>
   simp only [fieldVal] at h
   obtain ⟨v,h1,h2⟩:=hr.get h
   refine ⟨v,?_,h2⟩
   unfold loadVar
   rw [Sem.run_bind,ha]
   simp only [Result.andThen,Option.isSome,Bool.false_eq_true,if_false]
   have:=hc 0 v h1
   rw [Nat.add_zero] at this
   simp [load,Sem.run,this]
 | some m=>
   obtain rfl:=hm m rfl
   simp only [fieldVal] at h
   split at h
   ·rename_i hle
    injection h with h;subst h
    refine ⟨.agg (vs.take i.size).toArray,?_,?_⟩
    ·unfold loadVar
     rw [Sem.run_bind,ha]
     simp only [Result.andThen,Option.isSome,if_true]
     rw [Sem.run_bind,run_so hi]
     simp only [Result.andThen]
     rw [Sem.run_bind,run_cells hc (by rw [<-hr.length];omega)]
     rfl
    ·have:=hr.take i.size
     simp only [List.drop_zero]
     exact .agg (vs:=vs.take i.size) this
   ·cases h
theorem run_part {t:TypeId} {n:Option Nat} (hn:aggOf P t=some n) {o:Nat} {cs:List AV} {vs:List Value} (hr:Reps σ w cs vs) {r:AV} (h:fieldVal o n cs=some r) :
  ∃ u,(part t ⟨vs⟩ o).run P w = .ok u w/\Rep σ w r u:=by
 obtain ⟨i,hi,ha,hm⟩:=aggOf_spec (w:=w) hn
 cases n with
 | none=>
   simp only [fieldVal] at h
   obtain ⟨v,h1,h2⟩:=hr.get h
   refine ⟨v,?_,h2⟩
   unfold part
   rw [Sem.run_bind,ha]
   simp only [Result.andThen,Option.isSome,Bool.false_eq_true,if_false]
   have:(⟨vs⟩:Array Value)[o]? = some v:=by simpa using h1
   rw [this]
   rfl
 | some m=>
   obtain rfl:=hm m rfl
   simp only [fieldVal] at h
   split at h
   ·rename_i hle
    injection h with h;subst h
    refine ⟨_,?_,.agg ((hr.drop o).take i.size)⟩
    unfold part
    rw [Sem.run_bind,ha]
    simp only [Result.andThen,Option.isSome,if_true]
    rw [Sem.run_bind,run_so hi]
    simp only [Result.andThen]
    have:(⟨vs⟩:Array Value).extract o (o+i.size)=⟨(vs.drop o).take i.size⟩:=by
     apply Array.ext'
     simp
    rw [this]
    rfl
   ·cases h
theorem run_sureAddr {b o:Nat}:(Instr.sureAddr (.pointer (some ⟨b,o,none⟩))).run P w = .ok ⟨b,o,none⟩ w:=rfl
theorem intV_rep {x:AV} {u:Value} {n:Int} (hx:Rep σ w x u) (h:intV x=some n):∃ k,u = .int k n/\x = .int k n:=by
 cases hx<;>simp only [intV,Option.some.injEq,reduceCtorEq] at h
 subst h
 exact ⟨_,rfl,rfl⟩
theorem Rep.cells {x:AV} {u:Value} (h:Rep σ w x u) (ha:x ≠ .any):Reps σ w x.cells u.cells.toList:=by
 cases h with
 | any v=>exact absurd rfl ha
 | agg h=>exact h
 | bool b=>exact .cons (.bool b) .nil
 | int k n=>exact .cons (.int k n) .nil
 | str l=>exact .cons (.str l) .nil
 | ptr b o=>exact .cons (.ptr b o) .nil
 | imm h=>exact .cons (.imm h) .nil
 | nilp=>exact .cons .nilp .nil
 | slE A c=>exact .cons (.slE A c) .nil
 | slN=>exact .cons .slN .nil
 | sl h1 h2 h3 h4 h5=>exact .cons (.sl h1 h2 h3 h4 h5) .nil
 | msl b o n c=>exact .cons (.msl b o n c) .nil
 | tuple h=>exact .cons (.tuple h) .nil
 | iface h=>exact .cons (.iface h) .nil
 | nili=>exact .cons .nili .nil
 | func h1 h2=>exact .cons (.func h1 h2) .nil
 | map r=>exact .cons (.map r) .nil
 | nilf=>exact .cons .nilf .nil
end
end Go.A
namespace Go.A
section
variable {P:Program} {σ:ASt} {w:World}
theorem ok_fa {T:TypeId} {f o:Nat} {ft:TypeId} {n:Nat} (hf:fieldOf P T f=some (o,ft)) (hn:sizeT P ft=some (n+1)) {b p:Nat} :
  (Instr.fieldAt T (.pointer (some ⟨b,p,none⟩)) f).run P w = .ok (.pointer (some ⟨b,p+o,none⟩)) w:=by
 unfold fieldOf at hf
 split at hf
 ·rename_i fs h1
  split at hf
  ·rename_i fd h2
   injection hf with hf
   injection hf with hf1 hf2
   subst hf1 hf2
   unfold sizeT at hn
   cases hi:P.info? fd.type with
   | none=>simp [hi] at hn
   | some i=>
     simp only [hi,Option.map_some,Option.some.injEq] at hn
     unfold Instr.fieldAt
     rw [Sem.run_bind,run_und h1]
     simp only [Result.andThen,h2]
     rw [Sem.run_bind,run_sureAddr]
     simp only [Result.andThen]
     unfold fieldPlace
     rw [Sem.run_bind,Sem.run_bind,run_so hi]
     simp only [Result.andThen,hn]
     rw [if_neg (by omega),addr_add']
     rfl
  ·cases hf
 ·cases hf
theorem ok_field {T:TypeId} {f o:Nat} {ft:TypeId} {n:Option Nat} (hf:fieldOf P T f=some (o,ft)) (hn:aggOf P ft=some n) {cs:List AV} {vs:List Value} (hr:Reps σ w cs vs) {r:AV} (h:fieldVal o n cs=some r) :
  ∃ u,(Instr.field T (.agg ⟨vs⟩) f).run P w = .ok u w/\Rep σ w r u:=by
 unfold fieldOf at hf
 split at hf
 ·rename_i fs h1
  split at hf
  ·rename_i fd h2
   injection hf with hf
   injection hf with hf1 hf2
   subst hf1 hf2
   obtain ⟨u,h3,h4⟩:=run_part hn hr h
   refine ⟨u,?_,h4⟩
   unfold Instr.field
   rw [Sem.run_bind,run_und h1]
   simp only [Result.andThen,h2]
   rw [Sem.run_bind]
   exact h3
  ·cases hf
 ·cases hf
theorem ok_ia {T e:TypeId} {s:Nat} (hT:P.underlying T=some (.slice e)) (hs:sizeT P e=some s) {b o n c:Nat} {k:IntKind} {i:Int} (h0:0<=i) (h1:i<n) :
  (Instr.indexAt T (.slice (some ⟨b,o,none⟩) n c) (.int k i)).run P w = .ok (.pointer (some ⟨b,o+i.toNat*s,none⟩)) w:=by
 unfold sizeT at hs
 cases hi:P.info? e with
 | none=>simp [hi] at hs
 | some ti=>
   simp only [hi,Option.map_some,Option.some.injEq] at hs
   subst hs
   unfold Instr.indexAt
   simp only [asIntOf,Sem.run_bind,Sem.run_pure,Result.andThen,run_und hT]
   rw [if_pos ⟨h0,h1⟩]
   rw [Sem.run_bind,run_so hi]
   simp only [Result.andThen,addr_add']
   rfl
theorem ok_iaa {T e:TypeId} {m s:Nat} (hT:P.underlying T=some (.array m e)) (hs:sizeT P e=some s) {b o:Nat} {k:IntKind} {i:Int} (h0:0<=i) (h1:i<m) :
  (Instr.indexAt T (.pointer (some ⟨b,o,none⟩)) (.int k i)).run P w = .ok (.pointer (some ⟨b,o+i.toNat*s,none⟩)) w:=by
 unfold sizeT at hs
 cases hi:P.info? e with
 | none=>simp [hi] at hs
 | some ti=>
   simp only [hi,Option.map_some,Option.some.injEq] at hs
   subst hs
   unfold Instr.indexAt
   simp only [asIntOf,Sem.run_bind,Sem.run_pure,Result.andThen,run_und hT,run_sureAddr]
   rw [if_pos ⟨h0,h1⟩]
   rw [Sem.run_bind,run_so hi]
   simp only [Result.andThen,addr_add']
   rfl
theorem ok_idx {T:TypeId} (hT:P.underlying T=some .string) {l:List UInt8} {k:IntKind} {i:Int} {c:UInt8} (h0:0<=i) (h1:l[i.toNat]? = some c) :
  (Instr.index T (.string ⟨⟨l⟩⟩) (.int k i)).run P w = .ok (.int .u8 c.toNat) w:=by
 have h2:(⟨⟨l⟩⟩:ByteArray)[i.toNat]? = some c:=by
  have hlt:i.toNat<l.length:=(List.getElem?_eq_some_iff.1 h1).1
  have hlt':i.toNat<(⟨⟨l⟩⟩:ByteArray).size:=hlt
  have h3:=(List.getElem?_eq_some_iff.1 h1).2
  have h4 : (⟨⟨l⟩⟩ : ByteArray)[i.toNat]? = some ((⟨⟨l⟩⟩ : ByteArray)[i.toNat]'hlt') := getElem?_pos (⟨⟨l⟩⟩ : ByteArray) i.toNat hlt'
  rw [h4]
  exact congrArg some h3
 unfold Instr.index
 simp only [asIntOf,Sem.run_bind,Sem.run_pure,Result.andThen,run_und hT]
 rw [if_pos h0,h2]
 rfl
structure Pushed (w w':World) (o:Obj):Prop where
 os:w'.os=w.os
 tape:w'.tape=w.tape
 output:w'.output=w.output
 heap:w'.heap=w.heap.push o
theorem Pushed.alloc (w:World) (o:Obj):Pushed w (w.alloc o) o:=⟨rfl,rfl,rfl,rfl⟩
theorem Pushed.drew (w:World) (o:Obj):Pushed w (w.drew.alloc o) o:=⟨rfl,rfl,rfl,rfl⟩
section
variable {w':World} {ob:Obj} (hp:Pushed w w' ob)
include hp
theorem Pushed.size:w'.heap.size=w.heap.size+1:=by rw [hp.heap];simp
theorem Pushed.old {b:Nat} (hb:b<w.heap.size):w'.heap[b]? = w.heap[b]? := by rw [hp.heap,Array.getElem?_push,if_neg (by omega)]
theorem Pushed.new:w'.heap[w.heap.size]? = some ob:=by rw [hp.heap];simp
theorem Pushed.le {σ':ASt} (hσ:∀ b,b<w.heap.size->σ' b=σ b):Le σ w σ' w' where
 os:=hp.os
 tape:=hp.tape
 output:=hp.output
 size:=by rw [hp.size];omega
 keep b hb hn:=⟨by rw [hσ b hb];exact hn,hp.old hb⟩
 fix b cs hb hn:=⟨.inr (by rw [hσ b hb];exact hn),hp.old hb⟩
 tok b f hb hn:=⟨.inr ⟨f,Nat.le_refl _,by rw [hσ b hb];exact hn⟩,shape_of_heap_eq (hp.old hb),fun o _=>cell_of_heap_eq (hp.old hb) o⟩
end
theorem frozen_of_heap_eq {w w':World} {b:Nat} (h:w'.heap[b]? = w.heap[b]?) (o:Nat):w'.frozen? ⟨b,o,none⟩=w.frozen? ⟨b,o,none⟩:=by
 simp only [World.frozen?,h]
theorem RoleOk.keep {σ':ASt} {w':World} (hl:Le σ w σ' w') {b:Nat} {r:Role} (hh:w'.heap[b]? = w.heap[b]?) (h:RoleOk σ w b r):RoleOk σ' w' b r:=by
 cases r with
 | obj cs=>
   obtain ⟨c,T,fr,h1,h2,h3⟩:=h
   exact ⟨c,T,fr,hh.trans h1,h2.mono hl,fun o ho=>(frozen_of_heap_eq hh o).trans (h3 o ho)⟩
 | tok f=>
   obtain ⟨c,T,fr,h1,h2,h3⟩:=h
   exact ⟨c,T,fr,hh.trans h1,h2,h3⟩
 | fix cs=>
   obtain ⟨h0,c,T,fr,h1,h2⟩:=h
   exact ⟨h0.mono hl,c,T,fr,hh.trans h1,h2⟩
 | iter l p=>exact hh.trans h
 | typ T vs=>exact hh.trans h
 | map l=>obtain ⟨es,cl,h1,h2⟩:=h;exact ⟨es,cl,hh.trans h1,h2⟩
 | maps l=>obtain ⟨es,cl,h1,h2⟩:=h;exact ⟨es,cl,hh.trans h1,h2⟩
theorem Pushed.sim {w':World} {ob:Obj} (hp:Pushed w w' ob) (hs:Sim σ w):Sim σ w':=fun b r hb=>
 (hs b r hb).keep (hp.le fun _ _=>rfl) (hp.old (hs.lt hb))
theorem Pushed.atNew {w':World} {c:Array Value} {T:TypeId} {fr:Nat×Nat} (hp:Pushed w w' (.cells c T fr)) (hs:Sim σ w) {as:List AV} {vs:List Value} (hr:Reps σ w as vs)
  (hc:∀ (j:Nat) (v:Value),vs[j]? = some v->c[j]? = some v):At σ w' w.heap.size 0 as:=by
 refine At.mk' (hr.mono (hp.le fun _ _=>rfl)) (fun j hj=>⟨by rw [hp.size];omega,.inl (hs.fresh (Nat.le_refl _))⟩) (fun j v hj=>?_)
 simp only [World.cell?,hp.new,Nat.zero_add]
 simpa using hc j v hj
theorem flat_one:∀ {xs:List AV},(∀ x∈xs,x.cells = [x])->xs.flatMap AV.cells=xs
 | [],_=>rfl
 | x::xs,h=>by
   rw [List.flatMap_cons,flat_one fun y hy=>h y (by simp [hy]),h x (by simp)]
   rfl
theorem Reps.bytes (l:List UInt8):Reps σ w (l.map fun c => .int .u8 c.toNat) (l.map fun c=>Value.int .u8 c.toNat):=by
 induction l with
 | nil=>exact .nil
 | cons c l ih=>exact .cons (.int _ _) ih
theorem reps_kints (k:IntKind):∀ ns:List Int,Reps σ w (ns.map (AV.int k)) (ns.map (Value.int k))
 | [] => .nil
 | _::ns => .cons (.int _ _) (reps_kints k ns)
theorem ok_s2b {T D e:TypeId} (hT:P.underlying T=some .string) (hD:P.underlying D=some (.slice e)) (he:P.underlying e=some (.int .u8)) (l:List UInt8) (hs:Sim σ w) :
  ∃ u w',(convert T D (.string ⟨⟨l⟩⟩)).run P w = .ok u w'/\Le σ w σ w'/\Sim σ w'/\Rep σ w' (.sl .shr (l.map fun c => .int .u8 c.toNat)) u:=by
 have h:=run_bytes_of_string (P:=P) w T D e ⟨⟨l⟩⟩ hT hD he
 refine ⟨_,_,h,(Pushed.drew w _).le fun _ _=>rfl,(Pushed.drew w _).sim hs,?_⟩
 have hA:=(Pushed.drew w (.cells (bytesRow ⟨⟨l⟩⟩ (grownCap w l.length 0 e)) e ((bytesRow ⟨⟨l⟩⟩ (grownCap w l.length 0 e)).size,(bytesRow ⟨⟨l⟩⟩ (grownCap w l.length 0 e)).size+1))).atNew hs (Reps.bytes l) (fun j v hj=>by
  unfold bytesRow
  rw [Array.getElem?_append_left (by simpa using (List.getElem?_eq_some_iff.1 hj).1)]
  simpa using hj)
 refine .sl (sz:=1) (Row.unflat (by simp [AV.cells]) ?_) (by simp [ByteArray.size]) (grownCap_ge _ _ _ _) trivial (by simp)
 rw [flat_one (by simp [AV.cells])]
 exact hA
theorem bytesOf_spec:∀ {xs:List AV} {l:List UInt8},bytesOf xs=some l->∃ ns:List Int,xs=ns.map (AV.int .u8)/\l=ns.map fun n=>UInt8.ofNat n.toNat
 | [],l,h=>⟨[],rfl,by injection h with h;exact h.symm⟩
 | x::xs,l,h=>by
   unfold bytesOf at h
   split at h
   ·injection h with h;subst h;rename_i h0;cases h0
   ·rename_i n xs' he
    injection he with he1 he2
    subst he1 he2
    split at h
    ·rename_i l' hl
     injection h with h;subst h
     obtain ⟨ns,h1,h2⟩:=bytesOf_spec hl
     exact ⟨n::ns,by simp [h1],by simp [h2]⟩
    ·cases h
   ·cases h
theorem foldl_push:∀ (ns:List Int) (s:ByteArray),ns.foldl (fun r n=>r.push (UInt8.ofNat n.toNat)) s=⟨⟨s.data.toList++ns.map fun n=>UInt8.ofNat n.toNat⟩⟩
 | [],s=>by simp
 | n::ns,s=>by
   rw [List.foldl_cons,foldl_push ns]
   simp [ByteArray.push]
theorem Reps.ints {k:IntKind}:∀ {ns:List Int} {vs:List Value},Reps σ w (ns.map (AV.int k)) vs->vs=ns.map (Value.int k)
 | [],_,.nil=>rfl
 | _::_,_,.cons h1 h2=>by
   cases h1
   simp [h2.ints]
theorem flat_ints (k:IntKind) (ns:List Int):(ns.map (AV.int k)).flatMap AV.cells=ns.map (AV.int k):=by
 exact flat_one (by simp [AV.cells])
theorem ok_b2s {T D e:TypeId} (hT:P.underlying T=some (.slice e)) (he:P.underlying e=some (.int .u8)) (hD:P.underlying D=some .string) {k:SK} {xs:List AV} {l:List UInt8} {v:Value}
  (hr:Rep σ w (.sl k xs) v) (h:bytesOf xs=some l):(convert T D v).run P w = .ok (.string ⟨⟨l⟩⟩) w:=by
 obtain ⟨ns,rfl,rfl⟩:=bytesOf_spec h
 have key:∀ (A:Addr) (n c:Nat),(loadCells A n).run P w = .ok (ns.map (Value.int .u8)).toArray w->(convert T D (.slice (some A) n c)).run P w = .ok (.string ⟨⟨ns.map fun n=>UInt8.ofNat n.toNat⟩⟩) w:=by
  intro A n c hl
  rw [run_convert_bytes_string w T D e (some A) n c hT he hD,run_bytesToString w A n c ns hl,foldl_push]
  rfl
 generalize hxs:ns.map (AV.int .u8)=xs at hr
 cases hr with
 | slE A c=>
   have:ns = []:=by simpa using hxs
   subst this
   cases A with
   | none=>rw [run_convert_bytes_string w T D e none 0 c hT he hD];rfl
   | some A=>exact key A 0 c rfl
 | slN=>
   have:ns = []:=by simpa using hxs
   subst this
   rw [run_convert_bytes_string w T D e none 0 0 hT he hD];rfl
 | sl h1 h2 h3 h4 h5=>
   subst hxs h2
   refine key _ _ _ ?_
   have hA:=h1.flat.1
   rw [flat_ints] at hA
   obtain ⟨vs,hr,hc⟩:=hA.vals
   have:=run_cells (P:=P) (n:=(ns.map (AV.int .u8)).length) hc (by rw [hr.length];exact Nat.le_refl _)
   rw [this]
   obtain rfl:=hr.ints
   rw [List.take_of_length_le (by simp)]
theorem ok_b2m {T D e:TypeId} (hT:P.underlying T=some (.slice e)) (he:P.underlying e=some (.int .u8)) (hD:P.underlying D=some .string) {b o n c:Nat} {cs:List AV} {l:List UInt8}
  (hs:Sim σ w) (hk:known σ b=some cs) (hl:o+n<=cs.length) (h:bytesOf ((cs.drop o).take n)=some l):(convert T D (.slice (some ⟨b,o,none⟩) n c)).run P w = .ok (.string ⟨⟨l⟩⟩) w:=by
 obtain ⟨ns,h1,rfl⟩:=bytesOf_spec h
 obtain ⟨vs,h2,h3⟩:=hs.known hk
 have h4:=(h2.drop o).take n
 rw [h1] at h4
 have h5:=h4.ints
 have hvl:vs.length=cs.length:=h2.length.symm
 have:=run_cells (P:=P) (w:=w) (b:=b) (o:=o) (n:=n) (vs:=vs.drop o) (fun j v hj=>h3 (o+j) v (by simpa using hj)) (by simp;omega)
 rw [h5] at this
 rw [run_convert_bytes_string w T D e (some ⟨b,o,none⟩) n c hT he hD,run_bytesToString w ⟨b,o,none⟩ n c ns this,foldl_push]
 rfl
theorem intsOf_spec:∀ {xs:List AV} {l:List Int},intsOf xs=some l->xs=l.map (AV.int .i32)
 | [],l,h=>by injection h with h;subst h;rfl
 | x::xs,l,h=>by
   unfold intsOf at h
   split at h
   ·rename_i h0;cases h0
   ·rename_i n xs' he
    injection he with he1 he2
    subst he1 he2
    split at h
    ·rename_i l' hl
     injection h with h;subst h
     rw [intsOf_spec hl]
     rfl
    ·cases h
   ·cases h
theorem ok_r2s {T D e:TypeId} (hT:P.underlying T=some (.slice e)) (he:P.underlying e=some (.int .i32)) (hD:P.underlying D=some .string) {k:SK} {xs:List AV} {l:List Int} {v:Value}
  (hr:Rep σ w (.sl k xs) v) (h:intsOf xs=some l):(convert T D v).run P w = .ok (.string ⟨⟨(runesBytes l).data.toList⟩⟩) w:=by
 have hx:=intsOf_spec h
 have key:∀ (A:Addr) (n c:Nat),(loadCells A n).run P w = .ok (l.map (Value.int .i32)).toArray w->(convert T D (.slice (some A) n c)).run P w = .ok (.string ⟨⟨(runesBytes l).data.toList⟩⟩) w:=by
  intro A n c hl
  rw [run_convert_runes_string w T D e (some A) n c hT he hD,run_runesToString w A n c l hl]
 generalize hxs:l.map (AV.int .i32)=ys at hx
 subst hx
 cases hr with
 | slE A c=>
   have:l = []:=by simpa using hxs
   subst this
   cases A with
   | none=>rw [run_convert_runes_string w T D e none 0 c hT he hD];rfl
   | some A=>exact key A 0 c rfl
 | slN=>
   have:l = []:=by simpa using hxs
   subst this
   rw [run_convert_runes_string w T D e none 0 0 hT he hD];rfl
 | sl h1 h2 h3 h4 h5=>
   subst hxs h2
   refine key _ _ _ ?_
   have hA:=h1.flat.1
   rw [flat_ints] at hA
   obtain ⟨vs,hr,hc⟩:=hA.vals
   have:=run_cells (P:=P) (n:=(l.map (AV.int .i32)).length) hc (by rw [hr.length];exact Nat.le_refl _)
   rw [this]
   obtain rfl:=hr.ints
   rw [List.take_of_length_le (by simp)]
theorem ok_r2m {T D e:TypeId} (hT:P.underlying T=some (.slice e)) (he:P.underlying e=some (.int .i32)) (hD:P.underlying D=some .string) {b o n c:Nat} {cs:List AV} {l:List Int}
  (hs:Sim σ w) (hk:known σ b=some cs) (hl:o+n<=cs.length) (h:intsOf ((cs.drop o).take n)=some l):(convert T D (.slice (some ⟨b,o,none⟩) n c)).run P w = .ok (.string ⟨⟨(runesBytes l).data.toList⟩⟩) w:=by
 have h1:=intsOf_spec h
 obtain ⟨vs,h2,h3⟩:=hs.known hk
 have h4:=(h2.drop o).take n
 rw [h1] at h4
 have h5:=h4.ints
 have hvl:vs.length=cs.length:=h2.length.symm
 have:=run_cells (P:=P) (w:=w) (b:=b) (o:=o) (n:=n) (vs:=vs.drop o) (fun j v hj=>h3 (o+j) v (by simpa using hj)) (by simp;omega)
 rw [h5] at this
 rw [run_convert_runes_string w T D e (some ⟨b,o,none⟩) n c hT he hD,run_runesToString w ⟨b,o,none⟩ n c l this]
theorem run_lenS {T ty:TypeId} {l:List UInt8} (hT:P.underlying T=some .string):(Builtin.len_ #[T] ty #[.string ⟨⟨l⟩⟩]).run P w = .ok (.int .i64 l.length) w:=by
 simp [Builtin.len_,run_und hT,goInt]
 rfl
theorem run_lenL {T ty e:TypeId} {A:Option Addr} {n c:Nat} (hT:P.underlying T=some (.slice e)):(Builtin.len_ #[T] ty #[.slice A n c]).run P w = .ok (.int .i64 n) w:=by
 simp [Builtin.len_,run_und hT,goInt]
theorem run_bounds {isS:Bool} {n c:Nat} {lo hi:Option Value} {l h:Int} (hl:(lo=none/\l=0)\/∃ k,lo=some (.int k l)) (hh:(hi=none/\h=n)\/∃ k,hi=some (.int k h))
  (h0:0<=l) (h1:l<=h) (h2:h<=c):(Instr.sliceBounds isS n c lo hi none).run P w = .ok (l.toNat,h.toNat,c) w:=by
 have eh:(h.toNat:Int)=h:=Int.toNat_of_nonneg (by omega)
 rcases hl with ⟨rfl,rfl⟩|⟨k,rfl⟩<;>rcases hh with ⟨rfl,rfl⟩|⟨k',rfl⟩
 ·simp [Instr.sliceBounds]
 ·simp [Instr.sliceBounds,run_sliceBound, *]
 ·simp [Instr.sliceBounds,run_sliceBound, *]
 ·have:0<=h:=by omega
  simp [Instr.sliceBounds,run_sliceBound, *]
theorem Row.drop' {b o sz s n:Nat} {xs:List AV} (h:Row σ w b o sz xs) (hs:allSz s xs=true):Row σ w b (o+n*s) sz (xs.drop n):=by
 cases xs with
 | nil=>simpa using .nil _ _ _
 | cons x xs=>
   have:x.cells.length=s:=by
    simp only [allSz,List.all_cons,Bool.and_eq_true,beq_iff_eq] at hs
    exact hs.1
   have h2:=(h.at (i:=0) rfl).1
   obtain rfl:s=sz:=by omega
   exact h.drop n
theorem ok_sl {T:TypeId} {s:Bool×Nat} {x r:AV} {v:Value} {lo hi:Option Value} {l h:Int} (hT:sliceSz P T=some s) (hx:Rep σ w x v)
  (hl:(lo=none/\l=0)\/∃ k,lo=some (.int k l)) (hh:(hi=none/\∃ n,lenV x=some n/\h=n)\/∃ k,hi=some (.int k h)) (hr:slV s x l h=some r) :
  ∃ u,(Instr.sliceAt T v lo hi none).run P w = .ok u w/\Rep σ w r u:=by
 unfold slV at hr
 split at hr
 ·cases hr
 ·rename_i hb
  have h0:0<=l:=by omega
  have h1:l<=h:=by omega
  obtain ⟨str,s⟩:=s
  have hu0:str=false->∃ e ti,P.underlying T=some (.slice e)/\P.info? e=some ti/\ti.size=s:=by
   rintro rfl
   unfold sliceSz at hT
   split at hT
   ·simp at hT
   ·rename_i e h1
    unfold sizeT at hT
    cases hi':P.info? e with
    | none=>simp [hi'] at hT
    | some ti=>exact ⟨e,ti,h1,hi',by simpa [hi'] using hT⟩
   ·cases hT
  have hu1:str=true->P.underlying T=some .string:=by
   rintro rfl
   unfold sliceSz at hT
   split at hT
   ·assumption
   ·rename_i e h1
    unfold sizeT at hT
    cases hi':P.info? e with
    | none=>simp [hi'] at hT
    | some ti=>simp [hi'] at hT
   ·cases hT
  have empty:∀ (A:Option Addr) (c:Nat),(∃ k,x = .sl k [])->∃ u,(Instr.sliceAt T (.slice A 0 c) lo hi none).run P w=Result.ok u w/\Rep σ w r u:=by
   rintro A c ⟨k,rfl⟩
   cases str
   case true=>simp only [reduceCtorEq] at hr
   obtain ⟨e,ti,hu,hi',rfl⟩:=hu0 rfl
   simp only at hr
   split at hr
   ·rename_i hle
    have hl0:l=0:=by simp at hle;omega
    have hh0:h=0:=by simp at hle;omega
    subst hl0 hh0
    simp only [if_true,List.take_nil,Option.some.injEq] at hr
    subst hr
    have hbd:=run_bounds (P:=P) (w:=w) (isS:=true) (n:=0) (c:=c) hl (h:=0) (by
     rcases hh with ⟨h3,n',h4,h5⟩|h3
     ·exact .inl ⟨h3,rfl⟩
     ·exact .inr h3) h0 h1 (Int.natCast_nonneg _)
    refine ⟨_,?_,.slE (if c=0 then A else A.map fun a=>a.add 0) c⟩
    simp [Instr.sliceAt,run_und hu,Instr.slice,hbd,run_so hi']
   ·cases hr
  cases hx<;>cases str<;>simp only [reduceCtorEq] at hr
  case str.true lst=>
   split at hr
   ·rename_i hle
    injection hr with hr;subst hr
    have hu:=hu1 rfl
    have hbd:=run_bounds (P:=P) (w:=w) (isS:=false) (n:=lst.length) (c:=lst.length) hl (h:=h) (by
     rcases hh with ⟨h3,n,h4,h5⟩|h3
     ·simp only [lenV,Option.some.injEq] at h4;exact .inl ⟨h3,by omega⟩
     ·exact .inr h3) h0 h1 hle
    refine ⟨.string ⟨⟨(lst.take h.toNat).drop l.toNat⟩⟩,?_,.str _⟩
    simp only [Instr.sliceAt,Sem.run_bind,run_und hu,Result.andThen,Instr.slice]
    have hsz:(⟨⟨lst⟩⟩:ByteArray).size=lst.length:=rfl
    simp only [hsz,Option.isSome,Bool.false_eq_true,if_false,Sem.run_pure,Sem.run_bind,hbd,Result.andThen]
    congr 2
    apply ByteArray.ext
    apply Array.ext'
    simp [List.drop_take]
   ·cases hr
  case slE.false A c=>exact empty A c ⟨_,rfl⟩
  case slN.false=>exact empty none 0 ⟨_,rfl⟩
  case msl.false b o n c=>
   obtain ⟨e,ti,hu,hi',rfl⟩:=hu0 rfl
   split at hr
   ·rename_i hle
    injection hr with hr;subst hr
    have hbd:=run_bounds (P:=P) (w:=w) (isS:=true) (n:=n) (c:=c) hl (h:=h) (by
     rcases hh with ⟨h3,n',h4,h5⟩|h3
     ·simp only [lenV,Option.some.injEq] at h4;exact .inl ⟨h3,by omega⟩
     ·exact .inr h3) h0 h1 hle
    refine ⟨_,?_,.msl _ _ _ _⟩
    simp only [Instr.sliceAt,Sem.run_bind,run_und hu,Result.andThen,Instr.slice,hbd,run_so hi',Sem.run_pure]
    congr 2
    by_cases hlc:l=c
    ·subst hlc;simp
    ·have:¬ (c=l.toNat):=by omega
     simp [hlc,this,addr_add']
   ·cases hr
  case sl.false k xs b o n c sz h5 h6 h7 h8 h9=>
   obtain ⟨e,ti,hu,hi',rfl⟩:=hu0 rfl
   subst h6
   split at hr
   ·rename_i hle
    have hbd:=run_bounds (P:=P) (w:=w) (isS:=true) (n:=xs.length) (c:=c) hl (h:=h) (by
     rcases hh with ⟨h3,n',h4,h5⟩|h3
     ·simp only [lenV,Option.some.injEq] at h4;exact .inl ⟨h3,by omega⟩
     ·exact .inr h3) h0 h1 (by omega)
    have hrow:r = .sl .shr ((xs.take h.toNat).drop l.toNat)/\(l=0\/allSz ti.size xs=true):=by
     split at hr
     ·rename_i hl0
      injection hr with hr
      subst hl0
      exact ⟨by simpa using hr.symm,.inl rfl⟩
     ·split at hr
      ·injection hr with hr;exact ⟨hr.symm,.inr (by assumption)⟩
      ·cases hr
    obtain ⟨rfl,hsz⟩:=hrow
    refine ⟨.slice (if c=l.toNat then some ⟨b,o,none⟩ else some ⟨b,o+l.toNat*ti.size,none⟩) (h.toNat-l.toNat) (c-l.toNat),?_,?_⟩
    ·simp only [Instr.sliceAt,Sem.run_bind,run_und hu,Result.andThen,Instr.slice,hbd,run_so hi',Sem.run_pure]
     congr 2
     split<;>simp [addr_add']
    ·by_cases hcl:c=l.toNat
     ·have e1:(xs.take h.toNat).drop l.toNat = []:=by
       apply List.drop_eq_nil_of_le
       rw [List.length_take];omega
      have e2:h.toNat-l.toNat=0:=by omega
      rw [e1,e2]
      exact .slE _ _
     ·rw [if_neg hcl]
      refine .sl (sz:=sz) ?_ (by rw [List.length_drop,List.length_take];omega) (by omega) trivial h9
      rcases hsz with hl0|hsz
      ·subst hl0
       simpa using h5.take h.toNat
      ·refine (h5.take h.toNat).drop' ?_
       simp only [allSz,List.all_eq_true] at hsz ⊢
       exact fun x hx=>hsz x (List.mem_of_mem_take hx)
   ·cases hr
theorem ok_sl3 {T:TypeId} {s:Nat} {x r:AV} {v:Value} {lo:Option Value} {hi mx:Value} {l h m:Int} (hT:sliceSz P T=some (false,s)) (hx:Rep σ w x v)
  (hl:(lo=none/\l=0)\/∃ k,lo=some (.int k l)) (hh:∃ k,hi = .int k h) (hm:∃ k,mx = .int k m) (hr:sl3V s x l h m=some r) :
  ∃ u,(Instr.sliceAt T v lo (some hi) (some mx)).run P w = .ok u w/\Rep σ w r u:=by
 obtain ⟨kh,rfl⟩:=hh
 obtain ⟨km,rfl⟩:=hm
 have hu:∃ e ti,P.underlying T=some (.slice e)/\P.info? e=some ti/\ti.size=s:=by
  unfold sliceSz at hT
  split at hT
  ·simp at hT
  ·rename_i e h1
   unfold sizeT at hT
   cases hi':P.info? e with
   | none=>simp [hi'] at hT
   | some ti=>exact ⟨e,ti,h1,hi',by simpa [hi'] using hT⟩
  ·cases hT
 obtain ⟨e,ti,hu,hi',rfl⟩:=hu
 unfold sl3V at hr
 split at hr
 ·cases hr
 ·rename_i hb
  have h0:0<=l:=by omega
  have h1:l<=h:=by omega
  have h2:h<=m:=by omega
  have h3:0<=h:=by omega
  have h4:0<=m:=by omega
  have em:(m.toNat:Int)=m:=Int.toNat_of_nonneg h4
  have eh:(h.toNat:Int)=h:=Int.toNat_of_nonneg h3
  have bnd:∀ (n c:Nat),m<=c->(Instr.sliceBounds true n c lo (some (.int kh h)) (some (.int km m))).run P w = .ok (l.toNat,h.toNat,m.toNat) w:=by
   intro n c hc
   rcases hl with ⟨rfl,rfl⟩|⟨k,rfl⟩
   ·simp [Instr.sliceBounds,run_sliceBound,h0,h1,h2,h3,h4,hc,em,eh]
   ·simp [Instr.sliceBounds,run_sliceBound,h0,h1,h2,h3,h4,hc,em,eh]
  split at hr
  ·rename_i b o n c
   split at hr
   ·rename_i hc
    injection hr with hr;subst hr
    cases hx
    refine ⟨_,?_,.msl _ _ _ _⟩
    simp only [Instr.sliceAt,Sem.run_bind,run_und hu,Result.andThen,Instr.slice,bnd n c hc,run_so hi',Sem.run_pure]
    congr 2
    by_cases hlm:l=m
    ·subst hlm;simp
    ·have:¬ (m.toNat=l.toNat):=by omega
     simp [hlm,this,addr_add']
   ·cases hr
  ·split at hr
   ·rename_i hm0
    injection hr with hr;subst hr
    have hl0:l=0:=by omega
    have hh0:h=0:=by omega
    subst hm0 hl0 hh0
    have fin:∀ (A:Option Addr) (c:Nat),(Instr.sliceAt T (.slice A 0 c) lo (some (.int kh 0)) (some (.int km 0))).run P w = .ok (.slice A 0 0) w:=by
     intro A c
     simp [Instr.sliceAt,Sem.run_bind,run_und hu,Result.andThen,Instr.slice,bnd 0 c (Int.natCast_nonneg _),run_so hi',Sem.run_pure]
    generalize hxs:([]:List AV)=xs at hx
    generalize hk:SK.full=kk at hx
    cases hx with
    | slE A c=>cases hk
    | slN=>exact ⟨_,fin none 0,.slN⟩
    | sl g1 g2 g3 g4 g5=>
      subst hxs hk
      obtain rfl:_=0:=g2
      obtain rfl:_=0:=g4
      exact ⟨_,fin _ _,.sl g1 rfl (Nat.le_refl _) rfl g5⟩
   ·cases hr
  ·cases hr
end
end Go.A
namespace Go.A
section
variable {P:Program} {σ:ASt} {w:World}
theorem foldl_set_list:∀ (us vs:List Value) (off k:Nat),off+k+us.length<=vs.length →
  (us.zipIdx k).foldl (fun (cs:Array Value) (x:Value×Nat)=>cs.setIfInBounds (off+x.2) x.1) ⟨vs⟩=⟨vs.take (off+k)++us++vs.drop (off+k+us.length)⟩
 | [],vs,off,k,h=>by simp
 | u::us,vs,off,k,h=>by
   simp only [List.zipIdx_cons,List.foldl_cons]
   have h1:(⟨vs⟩:Array Value).setIfInBounds (off+k) u=⟨vs.set (off+k) u⟩:=by
    apply Array.ext';simp
   rw [h1,foldl_set_list us _ off (k+1) (by simp at h ⊢;omega)]
   simp only [List.length_cons] at h ⊢
   congr 1
   have e1:off+(k+1)=(off+k)+1:=by omega
   rw [e1,List.take_set,List.drop_set]
   have e2:¬ (off+k+1+us.length<=off+k):=by omega
   rw [if_pos (by omega)]
   have hlt:off+k<vs.length:=by omega
   have e3:(vs.take (off+k+1)).set (off+k) u=vs.take (off+k) ++ [u]:=by
    rw [List.take_succ_eq_append_getElem hlt,List.set_append_right _ _ (by simp;omega)]
    simp [Nat.min_eq_left (Nat.le_of_lt hlt)]
   rw [e3]
   simp [List.append_assoc,Nat.add_assoc,Nat.add_comm 1]
theorem fold_set (u:Value) (vs:List Value) (off:Nat) (h:off+u.cells.size<=vs.length) :
  (u.cells.zipIdx.foldl (fun (cs:Array Value) (x:Value×Nat)=>cs.setIfInBounds (off+x.2) x.1) ⟨vs⟩)=⟨vs.take off++u.cells.toList++vs.drop (off+u.cells.size)⟩:=by
 rw [<-Array.foldl_toList,Array.toList_zipIdx,foldl_set_list _ _ _ _ (by simpa using h)]
 simp
theorem fill_rep {place:Nat->Option (Nat×Nat)}:∀ {ps:List (Nat×Nat×AV)} {qs:List (Nat×Value)} {cs r:List AV} {vs:List Value},Reps σ w cs vs->fillC cs ps=some r →
  ps.length=qs.length->(∀ (j i:Nat) (u:Value) (o n:Nat) (x:AV),qs[j]? = some (i,u)->ps[j]? = some (o,n,x)->place i=some (o,n)/\Rep σ w x u) →
  ∃ us,Instr.fill place ⟨vs⟩ qs=some ⟨us⟩/\Reps σ w r us
 | [],[],cs,r,vs,hr,h,_,_=>by
   injection h with h;subst h
   exact ⟨vs,rfl,hr⟩
 | [],_::_,_,_,_,_,_,hl,_=>by simp at hl
 | _::_,[],_,_,_,_,_,hl,_=>by simp at hl
 | (o,n,x)::ps,(i,u)::qs,cs,r,vs,hr,h,hl,hp=>by
   unfold fillC at h
   split at h
   ·rename_i hc
    obtain ⟨hany,hxl,hfit⟩:=hc
    obtain ⟨hpl,hx⟩:=hp 0 i u o n x rfl rfl
    have hxc:=hx.cells (by rintro rfl;simp [AV.isAny] at hany)
    have hul:u.cells.size=n:=by rw [<-hxl,hxc.length];simp
    have hvl:vs.length=cs.length:=hr.length.symm
    unfold Instr.fill
    simp only [hpl]
    rw [if_neg (by simp [hul,hvl];omega)]
    have hfs:=fold_set u vs o (by omega)
    rw [show (Array.foldl (fun cs x=>match x with|(c,j)=>cs.setIfInBounds (o+j) c) ({ toList:=vs }:Array Value) u.cells.zipIdx)=_ from hfs]
    refine fill_rep ?_ h (by simpa using hl) (fun j i' u' o' n' x' h1 h2=>hp (j+1) i' u' o' n' x' (by simpa using h1) (by simpa using h2))
    rw [hul]
    exact ((hr.take o).append hxc).append (hr.drop _)
   ·cases h
theorem fill_row (s:Nat):∀ (us:List Value) (k:Nat) (done rest:List Value),(∀ u∈us,u.cells.size=s)->done.length=k*s->rest.length=us.length*s →
  Instr.fill (fun i=>some (i*s,s)) ⟨done++rest⟩ ((us.zipIdx k).map fun x=>(x.2,x.1))=some ⟨done++us.flatMap fun u=>u.cells.toList⟩
 | [],k,done,rest,_,_,hr=>by
   have:rest = []:=by simpa using hr
   subst this
   rfl
 | u::us,k,done,rest,hu,hd,hr=>by
   have h1:=hu u (by simp)
   simp only [List.zipIdx_cons,List.map_cons]
   unfold Instr.fill
   simp only []
   simp only [List.length_cons,Nat.add_mul,Nat.one_mul] at hr
   rw [if_neg (by simp [h1,hd,hr])]
   have hfs:=fold_set u (done++rest) (k*s) (by simp [h1,hd,hr])
   rw [show (Array.foldl (fun cs x=>match x with|(c,j)=>cs.setIfInBounds (k*s+j) c) ({ toList:=done++rest }:Array Value) u.cells.zipIdx)=_ from hfs]
   have e1:(done++rest).take (k*s)=done:=by rw [<-hd];simp
   have e2:(done++rest).drop (k*s+u.cells.size)=rest.drop s:=by rw [<-hd,h1];simp [List.drop_append]
   rw [e1,e2]
   rw [fill_row s us (k+1) (done++u.cells.toList) (rest.drop s) (fun v hv=>hu v (by simp [hv])) (by simp [hd,h1,Nat.add_mul]) (by simp [hr])]
   simp [List.append_assoc]
end
end Go.A
namespace Go.A
section
variable {P:Program} {σ:ASt} {w:World}
theorem sizeT_spec {t:TypeId} {s:Nat} (h:sizeT P t=some s):∃ i,P.info? t=some i/\i.size=s:=by
 unfold sizeT at h
 cases hi:P.info? t with
 | none=>simp [hi] at h
 | some i=>exact ⟨i,rfl,by simpa [hi] using h⟩
theorem zeroT_spec {t:TypeId} {z:AV} (h:zeroT P t=some z):∃ i v,P.info? t=some i/\i.zero=some v/\ofVal v=some z:=by
 unfold zeroT at h
 split at h
 ·rename_i i hi
  split at h
  ·rename_i v hv
   exact ⟨i,v,hi,hv,h⟩
  ·cases h
 ·cases h
theorem fieldOf_spec {t:TypeId} {f o:Nat} {ft:TypeId} (h:fieldOf P t f=some (o,ft)):∃ fs fd,P.underlying t=some (.struct fs)/\fs[f]? = some fd/\fd.offset=o/\fd.type=ft:=by
 unfold fieldOf at h
 split at h
 ·rename_i fs h1
  split at h
  ·rename_i fd h2
   injection h with h
   injection h with h3 h4
   exact ⟨fs,fd,h1,h2,h3,h4⟩
  ·cases h
 ·cases h
theorem places_of {fs:List Field} (h:(fs.all fun f=>(P.info? f.type).isSome)=true) :
  fs.mapM (fun f=>(P.info? f.type).map fun i=>(f.offset,i.size))=some (fs.map fun f=>(f.offset,((P.info? f.type).map (·.size)).getD 0)):=by
 induction fs with
 | nil=>rfl
 | cons f fs ih=>
   simp only [List.all_cons,Bool.and_eq_true] at h
   obtain ⟨i,hi⟩:=Option.isSome_iff_exists.1 h.1
   simp [List.mapM_cons,ih h.2,hi]
theorem partsOf_spec {t:TypeId} {fs:Array Field} (ht:P.underlying t=some (.struct fs)) {a:AFr} {act:Act}:∀ {ps:List (Nat×Operand)} {qs:List (Nat×Nat×Opd)},partsOf P t ps=some qs →
  (∀ s,Operand.tmp s∈ps.map (·.2)->Rep σ w (a s) (act.tmps.getD s undef)) →
  qs.length=ps.length/\∀ (j i:Nat) (x:Operand) (o n:Nat) (y:Opd),ps[j]? = some (i,x)->qs[j]? = some (o,n,y) →
   (fs.toList.map fun f=>(f.offset,((P.info? f.type).map (·.size)).getD 0))[i]? = some (o,n)/\Rep σ w (y.ev a) (act.eval x)
 | [],qs,h,_=>by injection h with h;subst h;simp
 | (i,x)::ps,qs,h,hr=>by
   unfold partsOf at h
   split at h
   ·rename_i o ft x' ps' h1 h2 h3
    split at h
    ·rename_i n h4
     injection h with h;subst h
     obtain ⟨hl,hp⟩:=partsOf_spec ht h3 (fun s hs=>hr s (by simp at hs ⊢;exact .inr hs))
     refine ⟨by simp [hl],fun j i' y o' n' z h5 h6=>?_⟩
     cases j with
     | zero=>
       simp only [List.getElem?_cons_zero,Option.some.injEq,Prod.mk.injEq] at h5 h6
       obtain ⟨rfl,rfl⟩:=h5
       obtain ⟨rfl,rfl,rfl⟩:=h6
       obtain ⟨fs',fd,h7,h8,rfl,rfl⟩:=fieldOf_spec h1
       rw [ht] at h7
       injection h7 with h7
       injection h7 with h7
       subst h7
       obtain ⟨ti,h9,h10⟩:=sizeT_spec h4
       refine ⟨?_,opd_rep h2 fun t ht'=>hr t (by simp [ht'])⟩
       have h8':fs.toList[i]? = some fd:=by simpa using h8
       rw [List.getElem?_map,h8']
       simp [h9,h10]
     | succ j=>
       simp only [List.getElem?_cons_succ] at h5 h6
       exact hp j i' y o' n' z h5 h6
    ·cases h
   ·cases h
theorem elemsOf_spec {a:AFr} {act:Act}:∀ {ps:List (Nat×Operand)} {k:Nat} {qs:List Opd},elemsOf k ps=some qs->(∀ s,Operand.tmp s∈ps.map (·.2)->Rep σ w (a s) (act.tmps.getD s undef)) →
  ∃ us:List Value,ps.map (fun p=>(p.1,act.eval p.2))=(us.zipIdx k).map (fun x=>(x.2,x.1))/\Reps σ w (qs.map (·.ev a)) us
 | [],k,qs,h,_=>by injection h with h;subst h;exact ⟨[],rfl,.nil⟩
 | (i,x)::ps,k,qs,h,hr=>by
   unfold elemsOf at h
   split at h
   ·rename_i hik
    split at h
    ·rename_i x' ps' h1 h2
     injection h with h;subst h
     obtain ⟨us,h3,h4⟩:=elemsOf_spec h2 (fun s hs=>hr s (by simp at hs ⊢;exact .inr hs))
     refine ⟨act.eval x::us,by simp [h3,hik],.cons (opd_rep h1 fun t ht=>hr t (by simp [ht])) h4⟩
    ·cases h
   ·cases h
theorem wellSz_flat {s:Nat}:∀ {xs:List AV} {us:List Value},Reps σ w xs us->wellSz s xs=true →
  (∀ u∈us,u.cells.size=s)/\(∀ x∈xs,x.cells.length=s)/\Reps σ w (xs.flatMap AV.cells) (us.flatMap fun u=>u.cells.toList)
 | _,_,.nil,_=>by refine ⟨by simp,by simp,?_⟩;simpa using .nil
 | _,_,.cons (a:=x) (v:=u) h1 h2,h=>by
   simp only [wellSz,Bool.and_eq_true,Bool.not_eq_true',beq_iff_eq] at h
   obtain ⟨⟨h3,h4⟩,h5⟩:=h
   obtain ⟨h6,h7,h8⟩:=wellSz_flat h2 h5
   have hc:=h1.cells (by rintro rfl;simp [AV.isAny] at h3)
   refine ⟨fun v hv=>?_,fun y hy=>?_,?_⟩
   ·rcases List.mem_cons.1 hv with rfl|hv
    ·rw [<-h4,hc.length];simp
    ·exact h6 v hv
   ·rcases List.mem_cons.1 hy with rfl|hy
    ·exact h4
    ·exact h7 y hy
   ·simp only [List.flatMap_cons]
    exact hc.append h8
theorem new_sl {w':World} {c:Array Value} {T:TypeId} {fr:Nat×Nat} (hp:Pushed w w' (.cells c T fr)) (hs:Sim σ w) {xs:List AV} {us:List Value} {s:Nat} (hr:Reps σ w xs us) (hw:wellSz s xs=true)
  (hc:c.toList=us.flatMap fun u=>u.cells.toList) {k:SK} (hk:k.ok σ w' w.heap.size 0 xs.length xs.length s):Rep σ w' (.sl k xs) (.slice (some ⟨w.heap.size,0,none⟩) xs.length xs.length):=by
 obtain ⟨h1,h2,h3⟩:=wellSz_flat hr hw
 refine .sl (sz:=s) (Row.unflat h2 (hp.atNew hs h3 fun j v hj=>?_)) rfl (Nat.le_refl _) hk (by rw [hp.size];omega)
 rw [<-hc] at hj
 simpa using hj
theorem run_buildSlice_at (w:World) (t e:TypeId) (len:Nat) (parts:Array (Nat×Value)) (cells:Array Value) (ie:TypeInfo) (z:Value)
  (hu:P.underlying t=some (.slice e)) (hie:P.info? e=some ie) (hz:ie.zero=some z) (hsmall:¬ len*ie.size>2 ^ 24) (hpos:¬ len*ie.size=0)
  (h:Instr.fill (fun i=>some (i*ie.size,ie.size)) ((Array.range (len*ie.size)).map (z.cells[· % z.cells.size]!)) parts.toList=some cells) :
  (Instr.buildSlice t len parts).run P w = .ok (.slice (some ⟨w.heap.size,0,none⟩) len len) (w.alloc (.cells cells e)):=by
 simp [Instr.buildSlice,run_underlying hu,sizeOf,typeInfo,zeroValue,hie,hz,hsmall,hpos,h,newRow]
theorem ok_bsl {T e:TypeId} {n:Nat} {i:TypeInfo} {ps:Array (Nat×Operand)} {qs:List Opd} {a:AFr} {act:Act} (hT:P.underlying T=some (.slice e)) (hi:P.info? e=some i) (hq:elemsOf 0 ps.toList=some qs) (hn:qs.length=n)
  (hsm:n*i.size<=16777216) (hz:i.zero.isSome=true) (hr:∀ s,Operand.tmp s∈ps.toList.map (·.2)->Rep σ w (a s) (act.tmps.getD s undef)) (hs:Sim σ w) (hw:wellSz i.size (qs.map (·.ev a))=true) (k:SK) (hkk:k = .full\/k = .lit) :
  ∃ u w',(Instr.buildSlice T n (ps.map fun (i,x)=>(i,act.eval x))).run P w = .ok u w'/\Le σ w σ w'/\Sim σ w'/\Rep σ w' (.sl k (qs.map (·.ev a))) u:=by
 obtain ⟨us,h1,h2⟩:=elemsOf_spec hq hr
 obtain ⟨z,hz⟩:=Option.isSome_iff_exists.1 hz
 have hul:us.length=n:=by rw [<-h2.length];simpa using hn
 obtain ⟨h3,h4,h5⟩:=wellSz_flat h2 hw
 have hparts:(ps.map fun (i,x)=>(i,act.eval x)).toList=(us.zipIdx 0).map fun x=>(x.2,x.1):=by
  rw [Array.toList_map];exact h1
 have key:∀ init:List Value,init.length=us.length*i.size->Instr.fill (fun j=>some (j*i.size,i.size)) ⟨init⟩ (ps.map fun (i,x)=>(i,act.eval x)).toList=some ⟨us.flatMap fun u=>u.cells.toList⟩:=fun init hin=>by
  have:=fill_row i.size us 0 [] init h3 (by simp) hin
  rw [hparts]
  simpa using this
 have hsmall:¬ n*i.size>2 ^ 24:=by omega
 refine ⟨.slice (some ⟨w.heap.size,0,none⟩) n n,w.alloc (.cells ⟨us.flatMap fun u=>u.cells.toList⟩ e),?_,(Pushed.alloc w _).le fun _ _=>rfl,(Pushed.alloc w _).sim hs,?_⟩
 ·by_cases h0:n*i.size=0
  ·have h6:=key [] (by rw [hul,h0];rfl)
   simp only [Instr.buildSlice,Sem.run_bind,run_und hT,Result.andThen,run_so hi]
   rw [if_neg hsmall,if_pos h0]
   simp only [Sem.run_bind,Sem.run_pure,Result.andThen]
   have:(Array.map (fun x=>(#[]:Array Value)[x % (#[]:Array Value).size]!) (Array.range (n*i.size)))=⟨[]⟩:=by rw [h0];simp
   rw [this,h6]
   simp [newRow]
  ·have h6:=key ((Array.range (n*i.size)).map (z.cells[· % z.cells.size]!)).toList (by simp [hul])
   exact run_buildSlice_at (P:=P) w T e n _ ⟨us.flatMap fun u=>u.cells.toList⟩ i z hT hi hz hsmall h0 h6
 ·have hxl:(qs.map (·.ev a)).length=n:=by simpa using hn
  have:=new_sl (Pushed.alloc w (.cells ⟨us.flatMap fun u=>u.cells.toList⟩ e)) hs h2 hw rfl (k:=k) (by
   rcases hkk with rfl|rfl
   ·rfl
   ·exact ⟨rfl,rfl,.inl (hs.fresh (Nat.le_refl _)),_,_,(Pushed.alloc w _).new⟩)
  rw [hxl] at this
  exact this
end
end Go.A
namespace Go.A
section
variable {P:Program} {σ:ASt} {w:World}
theorem ok_build {T:TypeId} {ps:Array (Nat×Operand)} {qs:List (Nat×Nat×Opd)} {z r:List AV} {a:AFr} {act:Act} (hz:zeroT P T=some (.agg z)) (hq:partsOf P T ps.toList=some qs) (hf:fieldsOk P T=true)
  (hr:∀ s,Operand.tmp s∈ps.toList.map (·.2)->Rep σ w (a s) (act.tmps.getD s undef)) (h:fillC z (qs.map fun (o,n,x)=>(o,n,x.ev a))=some r) :
  ∃ u,(Instr.build T (ps.map fun (i,x)=>(i,act.eval x))).run P w = .ok u w/\Rep σ w (.agg r) u:=by
 unfold fieldsOk at hf
 split at hf
 ·rename_i fs hT
  obtain ⟨ti,zv,hi,hzv,hof⟩:=zeroT_spec hz
  have hzr:=ofVal_rep (σ:=σ) (w:=w) hof
  cases hzr with
  | agg hzr=>
    rename_i vs
    obtain ⟨hl,hp⟩:=partsOf_spec hT hq hr
    obtain ⟨us,h1,h2⟩:=fill_rep (place:=(((fs.toList.map fun f=>(f.offset,((P.info? f.type).map (·.size)).getD 0)).toArray)[·]?)) (qs:=(ps.map fun (i,x)=>(i,act.eval x)).toList) hzr h (by simp [hl])
     (fun j i u o n x h3 h4=>by
      rw [Array.toList_map,List.getElem?_map] at h3
      rw [List.getElem?_map] at h4
      cases h5:ps.toList[j]? with
      | none=>rw [h5] at h3;cases h3
      | some p=>
        cases h6:qs[j]? with
        | none=>rw [h6] at h4;cases h4
        | some q=>
          obtain ⟨pi,px⟩:=p
          obtain ⟨qo,qn,qx⟩:=q
          rw [h5] at h3
          rw [h6] at h4
          simp only [Option.map_some,Option.some.injEq,Prod.mk.injEq] at h3 h4
          obtain ⟨rfl,rfl⟩:=h3
          obtain ⟨rfl,rfl,rfl⟩:=h4
          obtain ⟨h7,h8⟩:=hp j _ _ _ _ _ h5 h6
          exact ⟨by simpa using h7,h8⟩)
    refine ⟨_,run_build (P:=P) w T _ ⟨us⟩ ?_,.agg h2⟩
    unfold Program.built
    rw [hi,hT]
    simp only [hzv,places_of hf]
    exact h1
 ·cases hf
theorem partsOf_nil {T:TypeId}:∀ {ps:List (Nat×Operand)},partsOf P T ps=some []->ps = []
 | [],_=>rfl
 | (i,x)::ps,h=>by
   unfold partsOf at h
   split at h
   ·split at h
    ·simp at h
    ·cases h
   ·cases h
theorem ok_build_arr {T:TypeId} {z:List AV} (hz:zeroT P T=some (.agg z)) (ha:arrOk P T=true):∃ u,(Instr.build T #[]).run P w = .ok u w/\Rep σ w (.agg z) u:=by
 unfold arrOk at ha
 split at ha
 ·rename_i n e hT
  obtain ⟨ie,hie⟩:=Option.isSome_iff_exists.1 ha
  obtain ⟨ti,zv,hi,hzv,hof⟩:=zeroT_spec hz
  have hzr:=ofVal_rep (σ:=σ) (w:=w) hof
  cases hzr with
  | agg hzr=>
    rename_i vs
    refine ⟨.agg ⟨vs⟩,?_,.agg hzr⟩
    simp [Instr.build,run_underlying hT,sizeOf,typeInfo,zeroValue,hi,hzv,hie,Instr.fill,Value.cells]
 ·cases ha
theorem run_binop_eq {op:BinOp} {T:TypeId} {k:EqK} {x y:AV} {u v:Value} {b:Bool} (heq:isEq op=true) (hx:Rep σ w x u) (hy:Rep σ w y v) (hb:eqV k x y=some b) (h:(Op.equal T u v).run P w = .ok b w) :
  (Go.binOp op T u v).run P w = .ok (.bool (if (op == .neq)=true then !b else b)) w:=by
 cases op<;>simp only [isEq,Bool.false_eq_true] at heq<;>cases k<;>cases hx<;>cases hy<;>simp only [eqV,reduceCtorEq] at hb <;>
  (simp only [Go.binOp,Sem.run_bind,h,Result.andThen];rfl)
theorem run_binop_eq_nil {op:BinOp} {T:TypeId} (heq:isEq op=true) (h:(Op.equal T .nilIface .nilIface).run P w = .ok true w) :
  (Go.binOp op T .nilIface .nilIface).run P w = .ok (.bool (if (op == .neq)=true then !true else true)) w:=by
 cases op<;>simp only [isEq,Bool.false_eq_true] at heq<;>(simp only [Go.binOp,Sem.run_bind,h,Result.andThen];rfl)
theorem run_part_agg {t:TypeId} {m:Nat} (hn:aggOf P t=some (some m)) {o:Nat} {vs:List Value}:(part t ⟨vs⟩ o).run P w = .ok (.agg ⟨(vs.drop o).take m⟩) w:=by
 obtain ⟨i,hi,ha,hm⟩:=aggOf_spec (w:=w) hn
 obtain rfl:=hm m rfl
 unfold part
 rw [Sem.run_bind,ha]
 simp only [Result.andThen,Option.isSome,if_true]
 rw [Sem.run_bind,run_so hi]
 simp only [Result.andThen]
 have:(⟨vs⟩:Array Value).extract o (o+i.size)=⟨(vs.drop o).take i.size⟩:=by
  apply Array.ext'
  simp
 rw [this]
 rfl
theorem run_leafEq {k:Nat} {t:TypeId} {x y:AV} {u v:Value} {r:Bool} (hk:leafK P t=some k) (hx:Rep σ w x u) (hy:Rep σ w y v) (h:leafEq k x y=some r) (d:Nat) :
  (Op.equalIn (d+1) t u v).run P w = .ok r w:=by
 unfold leafK at hk
 split at hk<;>(try cases hk)<;>rename_i hT<;>(try injection hk with hk;subst hk) <;>
  cases hx<;>cases hy<;>simp only [leafEq,Option.some.injEq,reduceCtorEq] at h
 ·split at h
  ·rename_i hk
   subst hk
   injection h with h;subst h
   rw [run_equalIn_int w d t _ _ _ _ hT];rfl
  ·cases h
 ·subst h
  rw [run_equalIn_bool' w d t _ _ hT];rfl
 ·subst h
  rw [run_equalIn_string w d t _ _ hT,toList_mk,toList_mk,beqL]
theorem eqCs_append {l m:List (Nat×Nat)} {cs ds:List AV} {b:Bool} (h:eqCs (l++m) cs ds=some b):∃ b1 b2,eqCs l cs ds=some b1/\eqCs m cs ds=some b2/\b=(b1 && b2):=by
 induction l generalizing b with
 | nil=>exact ⟨true,b,rfl,h,by simp⟩
 | cons p l ih=>
   obtain ⟨o,k⟩:=p
   simp only [List.cons_append,eqCs] at h ⊢
   split at h
   ·rename_i x y hx hy
    split at h
    ·rename_i r q hr hq
     injection h with h;subst h
     obtain ⟨b1,b2,h1,h2,rfl⟩:=ih hq
     exact ⟨r && b1,b2,by simp [hx,hy,hr,h1],h2,by rw [Bool.and_assoc]⟩
    ·cases h
   ·cases h
theorem eqCs_shift {l:List (Nat×Nat)} {cs ds:List AV} {b:Bool} {o m:Nat} (hm:∀ p∈l,p.1<m) (h:eqCs (l.map fun p=>(o+p.1,p.2)) cs ds=some b):eqCs l ((cs.drop o).take m) ((ds.drop o).take m)=some b:=by
 induction l generalizing b with
 | nil=>exact h
 | cons p l ih=>
   obtain ⟨i,k⟩:=p
   have hi:i<m:=hm (i,k) (by simp)
   simp only [List.map_cons,eqCs] at h ⊢
   rw [List.getElem?_take,if_pos hi,List.getElem?_take,if_pos hi,List.getElem?_drop,List.getElem?_drop]
   split at h
   ·rename_i x y hx hy
    split at h
    ·rename_i r q hr hq
     simp only [hr,ih (fun p hp=>hm p (by simp [hp])) hq]
     exact h
    ·cases h
   ·cases h
theorem eqFs_run {n:Nat} {sub:List Field->Option (List (Nat×Nat))}
  (hsub:∀ gs l,sub gs=some l->∀ (cs ds:List AV) (vs us:List Value) (b:Bool),Reps σ w cs vs->Reps σ w ds us->eqCs l cs ds=some b->∀ e,(Op.eqFields (n+e) ⟨vs⟩ ⟨us⟩ gs).run P w = .ok b w) :
  ∀ {fs:List Field} {l:List (Nat×Nat)},eqFs P sub fs=some l->∀ {cs ds:List AV} {vs us:List Value} {b:Bool},Reps σ w cs vs->Reps σ w ds us->eqCs l cs ds=some b->∀ e,(Op.eqFields (n+1+e) ⟨vs⟩ ⟨us⟩ fs).run P w = .ok b w
 | [],l,h,cs,ds,vs,us,b,_,_,hb,e=>by
   injection h with h;subst h
   injection hb with hb;subst hb
   rfl
 | f::fs,l,h,cs,ds,vs,us,b,hc,hd,hb,e=>by
   unfold eqFs at h
   split at h
   ·cases h
   ·rename_i hnm
    simp only [Op.eqFields,hnm,ne_eq,not_false_eq_true,if_true]
    split at h
    ·rename_i r hag hr
     split at h
     ·rename_i k hk
      injection h with h;subst h
      simp only [eqCs] at hb
      split at hb
      ·rename_i x y hx hy
       split at hb
       ·rename_i r1 q1 hr1 hq1
        injection hb with hb;subst hb
        obtain ⟨u,h1,h2⟩:=run_part hag hc (o:=f.offset) (r:=x) hx
        obtain ⟨v,h3,h4⟩:=run_part hag hd (o:=f.offset) (r:=y) hy
        have h5:=run_leafEq hk h2 h4 hr1 (n+e)
        have h6:=eqFs_run hsub hr hc hd hq1 e
        rw [Sem.run_bind,h1]
        simp only [Result.andThen]
        rw [Sem.run_bind,h3]
        simp only [Result.andThen]
        rw [Sem.run_bind,show n+1+e=n+e+1 by omega,h5]
        simp only [Result.andThen]
        rw [show n+1+e=n+e+1 by omega] at h6
        cases r1
        ·rfl
        ·simpa using h6
       ·cases hb
      ·cases hb
     ·cases h
    ·rename_i m r hag hr
     split at h
     ·rename_i gs hT
      split at h
      ·cases h
      ·rename_i hst
       split at h
       ·rename_i l' hl'
        split at h
        ·rename_i hall
         injection h with h;subst h
         obtain ⟨b1,b2,hb1,hb2,rfl⟩:=eqCs_append hb
         have hb1':=eqCs_shift (m:=m) (fun p hp=>by have:=List.all_eq_true.1 hall p hp;simpa using this) hb1
         have h5:=hsub _ _ hl' _ _ _ _ _ ((hc.drop f.offset).take m) ((hd.drop f.offset).take m) hb1' e
         have h6:=eqFs_run hsub hr hc hd hb2 e
         have hfo:P.fieldsOf f.type=gs:=by simp [Program.fieldsOf,hT]
         rw [Sem.run_bind,run_part_agg hag]
         simp only [Result.andThen]
         rw [Sem.run_bind,run_part_agg hag]
         simp only [Result.andThen]
         rw [Sem.run_bind,show n+1+e=n+e+1 by omega,run_equalIn_struct w _ _ _ _ (by rw [hfo];exact hT) (by simpa using hst),hfo,h5]
         simp only [Result.andThen]
         rw [show n+1+e=n+e+1 by omega] at h6
         cases b1
         ·rfl
         ·simpa using h6
        ·cases h
       ·cases h
     ·cases h
    ·cases h
theorem eqOffs_run:∀ (n:Nat) (gs:List Field) (l:List (Nat×Nat)),eqOffs P n gs=some l->∀ (cs ds:List AV) (vs us:List Value) (b:Bool),Reps σ w cs vs->Reps σ w ds us->eqCs l cs ds=some b->∀ e,(Op.eqFields (n+1+e) ⟨vs⟩ ⟨us⟩ gs).run P w = .ok b w
 | 0,gs,l,h,cs,ds,vs,us,b,hc,hd,hb,e=>eqFs_run (n:=0) (sub:=fun _=>none) (fun _ _ h=>by cases h) h hc hd hb e
 | n+1,gs,l,h,cs,ds,vs,us,b,hc,hd,hb,e=>eqFs_run (n:=n+1) (sub:=eqOffs P n) (fun gs l hl cs ds vs us b hc hd hb e=>eqOffs_run n gs l hl cs ds vs us b hc hd hb e) h hc hd hb e
theorem run_eqs {op:BinOp} {T:TypeId} {X Y:Operand} {l:List (Nat×Nat)} {cs ds:List AV} {vs us:List Value} {b:Bool} (h:eqsOf P T=some l) (hc:Reps σ w cs vs) (hd:Reps σ w ds us) (hb:eqCs l cs ds=some b) :
  (eqGuard op T X Y (.agg ⟨vs⟩) (.agg ⟨us⟩)).run P w = .ok () w/\(Op.equalIn 10000 T (.agg ⟨vs⟩) (.agg ⟨us⟩)).run P w = .ok b w:=by
 unfold eqsOf at h
 split at h
 ·rename_i fs hT
  split at h
  ·cases h
  ·rename_i hg
   simp only [Bool.or_eq_true,not_or,Bool.not_eq_true] at hg
   have hfo:P.fieldsOf T=fs:=by simp [Program.fieldsOf,hT]
   refine ⟨run_eqGuard_agg w op T X Y _ _ hg.2,?_⟩
   rw [show (10000:Nat)=9999+1 from rfl,run_equalIn_struct w _ _ _ _ (by rw [hfo];exact hT) hg.1,hfo]
   exact eqOffs_run 6 _ _ h _ _ _ _ _ hc hd hb 9992
 ·cases h
theorem run_value {s:Sem Value} {u:Value} {w':World} (h:s.run P w = .ok u w'):(do pure (.value (← s)):Sem Next).run P w = .ok (.value u) w':=by
 rw [Sem.run_bind,h];rfl
theorem run_builtin {act:Act} {dst:Option Tmp} {b:Builtin} {args:Array Operand} {ats:Array TypeId} {type:TypeId} {pos:String} {after:Array Edge} {guard:Option (Nat×Bool)} {args':Array Value} {S:Sem Value} {u:Value} {w':World}
  (hargs:args.map act.eval=args') (hb:∀ consts,Go.builtin b ats type consts args'=(do pure (.value (← S)))) (h:S.run P w = .ok u w') :
  (execOp act.eval ⟨dst,.call { callee := .builtin b,args:=args,argTypes:=ats },type,pos,after,guard⟩).run P w = .ok (.value u) w':=by
 subst hargs
 simp only [execOp,resolve,Sem.run_bind,Sem.run_pure,Result.andThen,invoke,hb,h]
theorem map_one (act:Act) (x:Operand):(⟨[x]⟩:Array Operand).map act.eval = #[act.eval x]:=by apply Array.ext';simp
theorem map_two (act:Act) (x y:Operand):(⟨[x,y]⟩:Array Operand).map act.eval = #[act.eval x,act.eval y]:=by apply Array.ext';simp
theorem intMap_spec {T:TypeId} (h:intMap P T=true):∃ k e,P.underlying T=some (.map k e)/\P.underlying k=some (.int .i64)/\zeroT P e=some (.int .i64 0):=by
 unfold intMap at h
 split at h
 ·rename_i k e hT
  split at h
  ·rename_i h1 h2
   exact ⟨k,e,hT,h1,h2⟩
  ·cases h
 ·cases h
theorem strMap_spec {T:TypeId} (h:strMap P T=true):∃ k e,P.underlying T=some (.map k e)/\P.underlying k=some (.int .i64)/\zeroT P e=some (.str []):=by
 unfold strMap at h
 split at h
 ·rename_i k e hT
  split at h
  ·rename_i h1 h2
   exact ⟨k,e,hT,h1,h2⟩
  ·cases h
 ·cases h
def findI {α:Type}:List (Int×α)->Int->Nat->Option (Nat×α)
 | [],_,_=>none
 | p::l,k,i=>if k=p.1 then some (i,p.2) else findI l k (i+1)
theorem findM_I {α:Type}:∀ (l:List (Int×α)) (k:Int) (i:Nat),findM l k=(findI l k i).map (·.2)
 | [],_,_=>rfl
 | p::l,k,i=>by
   rw [findM,findI]
   split
   ·rfl
   ·exact findM_I l k (i+1)
def prsG {α:Type} (g:α->Value) (l:List (Int×α)):List (Value×Value):=l.map fun p=>(Value.int .i64 p.1,g p.2)
abbrev prs (l:List (Int×Int)):List (Value×Value):=prsG (Value.int .i64) l
abbrev strG (s:List UInt8):Value := .string ⟨⟨s⟩⟩
abbrev prss (l:List (Int×List UInt8)):List (Value×Value):=prsG strG l
theorem findNow_I {α:Type} {g:α->Value} {k:Int}:∀ {es:List MapEntry} {l:List (Int×α)} (i:Nat),es.map (fun e=>(e.key,e.val))=prsG g l →
  Instr.findNow (.int .i64) (.int .i64 k) es i=some ((findI l k i).map fun q=>(q.1,g q.2))
 | [],l,i,h=>by
   cases l with
   | nil=>rfl
   | cons p l=>simp [prsG] at h
 | e::es,l,i,h=>by
   cases l with
   | nil=>simp [prsG] at h
   | cons p l=>
     simp only [prsG,List.map_cons,List.cons.injEq,Prod.mk.injEq] at h
     obtain ⟨⟨h1,h2⟩,h3⟩:=h
     rw [Instr.findNow,h1,h2,findI]
     by_cases hk:k=p.1
     ·subst hk
      simp [Instr.sameNow]
     ·have hb:(k==p.1)=false:=by simpa using hk
      simp only [Instr.sameNow,if_true,hb]
      rw [findNow_I (i+1) h3,if_neg hk]
theorem findI_at {α:Type}:∀ {l:List (Int×α)} {k:Int} {i j:Nat} {v:α},findI l k i=some (j,v)->∃ d,j=i+d/\l[d]? = some (k,v)/\putM l k=fun u=>l.take d++(k,u)::l.drop (d+1)
 | [],k,i,j,v,h=>by cases h
 | p::l,k,i,j,v,h=>by
   rw [findI] at h
   by_cases hk:k=p.1
   ·rw [if_pos hk] at h
    injection h with h
    injection h with h1 h2
    refine ⟨0,by omega,by simp [hk,h2.symm],?_⟩
    funext u
    simp [putM,hk]
   ·rw [if_neg hk] at h
    obtain ⟨d,h1,h2,h3⟩:=findI_at h
    refine ⟨d+1,by omega,by simpa using h2,?_⟩
    funext u
    have:=congrFun h3 u
    simp [putM,hk,this]
theorem findI_del {α:Type}:∀ {l:List (Int×α)} {k:Int} {i j:Nat} {v:α},findI l k i=some (j,v)->delM l k=l.eraseIdx (j-i)
 | [],k,i,j,v,h=>by cases h
 | p::l,k,i,j,v,h=>by
   rw [findI] at h
   by_cases hk:k=p.1
   ·rw [if_pos hk] at h
    injection h with h
    injection h with h1 h2
    subst h1
    simp [delM,hk]
   ·rw [if_neg hk] at h
    obtain ⟨d,h1,_,_⟩:=findI_at h
    have ih:=findI_del h
    rw [delM,if_neg hk,ih,h1,show i+1+d-i=(i+1+d-(i+1))+1 by omega,List.eraseIdx_cons_succ]
theorem findI_none {α:Type}:∀ {l:List (Int×α)} {k:Int} {i:Nat},findI l k i=none->(putM l k=fun u=>l ++ [(k,u)])/\delM l k=l
 | [],k,i,_=>⟨rfl,rfl⟩
 | p::l,k,i,h=>by
   rw [findI] at h
   by_cases hk:k=p.1
   ·rw [if_pos hk] at h;cases h
   ·rw [if_neg hk] at h
    obtain ⟨h1,h2⟩:=findI_none h
    refine ⟨?_,by rw [delM,if_neg hk,h2]⟩
    funext u
    have:=congrFun h1 u
    simp [putM,hk,this]
theorem run_lookup_int {T:TypeId} {b:Nat} {es:Array MapEntry} {clock:Nat} {l:List (Int×Int)} (hT:intMap P T=true) (hb:w.heap[b]? = some (.map es clock)) (hl:es.toList.map (fun e=>(e.key,e.val))=prs l) (k:Int) :
  (Instr.lookup T (.map (some b)) (.int .i64 k) true).run P w = .ok (.tuple #[.int .i64 ((findM l k).getD 0),.bool (findM l k).isSome]) w:=by
 obtain ⟨kt,et,h1,h2,h3⟩:=intMap_spec hT
 obtain ⟨i,v,hi,hv,hof⟩:=zeroT_spec h3
 have hv0:v = .int .i64 0:=by
  have:=ofVal_rep (σ:=fun _=>none) (w:=w) hof
  cases this
  rfl
 subst hv0
 have hf:=findNow_I (k:=k) 0 hl
 have hk:MapKept.IsKey (.int .i64) (Value.int .i64 k):=rfl
 rw [findM_I l k 0]
 cases hfi:findI l k 0 with
 | none=>
   rw [hfi] at hf
   simp [Instr.lookup,run_und h1,MapKept.run_getObj_map hb,MapKept.run_checkKey h2 hk,MapKept.run_findKey h2 hf,run_zv hi hv,Result.andThen]
 | some q=>
   rw [hfi] at hf
   simp [Instr.lookup,run_und h1,MapKept.run_getObj_map hb,MapKept.run_checkKey h2 hk,MapKept.run_findKey h2 hf,Result.andThen]
theorem run_lookup_str {T:TypeId} {b:Nat} {es:Array MapEntry} {clock:Nat} {l:List (Int×List UInt8)} (hT:strMap P T=true) (hb:w.heap[b]? = some (.map es clock)) (hl:es.toList.map (fun e=>(e.key,e.val))=prss l) (k:Int) (c:Bool) :
  (Instr.lookup T (.map (some b)) (.int .i64 k) c).run P w = .ok (if c then .tuple #[strG ((findM l k).getD []),.bool (findM l k).isSome] else strG ((findM l k).getD [])) w:=by
 obtain ⟨kt,et,h1,h2,h3⟩:=strMap_spec hT
 obtain ⟨i,v,hi,hv,hof⟩:=zeroT_spec h3
 have hv0:v=strG []:=by
  have:=ofVal_rep (σ:=fun _=>none) (w:=w) hof
  cases this
  rfl
 subst hv0
 have hf:=findNow_I (k:=k) 0 hl
 have hk:MapKept.IsKey (.int .i64) (Value.int .i64 k):=rfl
 rw [findM_I l k 0]
 cases c<;>cases hfi:findI l k 0 with
 | none=>
   rw [hfi] at hf
   simp [Instr.lookup,run_und h1,MapKept.run_getObj_map hb,MapKept.run_checkKey h2 hk,MapKept.run_findKey h2 hf,run_zv hi hv,Result.andThen]
 | some q=>
   rw [hfi] at hf
   simp [Instr.lookup,run_und h1,MapKept.run_getObj_map hb,MapKept.run_checkKey h2 hk,MapKept.run_findKey h2 hf,Result.andThen]
set_option maxHeartbeats 1000000 in
theorem compQ_sound {o:Oper} {q:QOp} {a:AFr} {act:Act} {v:AV} (hq:compQ P o=some q) (hv:q.ev a σ=some v) (hs:Sim σ w)
  (hl:∀ t,Operand.tmp t∈o.op.operands.toList->Rep σ w (a t) (act.tmps.getD t undef)):OkQ P o σ w act v:=by
 obtain ⟨dst,op,type,pos,after,guard⟩:=o
 have val:∀ {s:Sem Value} {u:Value},(execOp act.eval ⟨dst,op,type,pos,after,guard⟩)=(do pure (.value (← s)))->s.run P w = .ok u w->Rep σ w v u->OkQ P ⟨dst,op,type,pos,after,guard⟩ σ w act v:=by
  intro s u he hr hu
  refine OkQ.same hs (u:=u) ?_ hu
  rw [he];exact run_value hr
 cases op<;>simp only [compQ] at hq<;>simp only [Op.operands] at hl<;>(try cases hq;done)
 case move x=>
  cases hx:opd x with
  | none=>simp [hx] at hq
  | some y=>
    simp only [hx,Option.map_some,Option.some.injEq] at hq
    subst hq
    injection hv with hv;subst hv
    exact OkQ.same hs (u:=act.eval x) rfl (opd_rep hx fun t ht=>hl t (by simp [ht]))
 case assign x=>
  cases hx:opd x with
  | none=>simp [hx] at hq
  | some y=>
    simp only [hx,Option.map_some,Option.some.injEq] at hq
    subst hq
    injection hv with hv;subst hv
    exact OkQ.same hs (u:=act.eval x) rfl (opd_rep hx fun t ht=>hl t (by simp [ht]))
 case pick c x y=>
  split at hq
  ·rename_i c' x' y' hc hx hy
   injection hq with hq;subst hq
   have hcr:=opd_rep (σ:=σ) (w:=w) hc fun t ht=>hl t (by simp [ht])
   have hxr:=opd_rep (σ:=σ) (w:=w) hx fun t ht=>hl t (by simp [ht])
   have hyr:=opd_rep (σ:=σ) (w:=w) hy fun t ht=>hl t (by simp [ht])
   simp only [QOp.ev] at hv
   split at hv
   ·rename_i b hb
    injection hv with hv;subst hv
    rw [hb] at hcr
    cases hcv:act.eval c with
    | bool b'=>
      rw [hcv] at hcr
      cases hcr
      refine OkQ.same hs (u:=if b then act.eval x else act.eval y) ?_ (by cases b<;>simpa)
      simp [execOp,hcv,asBool]
    | _=>rw [hcv] at hcr;cases hcr
   ·cases hv
  ·cases hq
 case build T ps=>
  split at hq
  ·rename_i z qs hz hps
   split at hq
   ·rename_i hf
    injection hq with hq;subst hq
    simp only [QOp.ev] at hv
    cases hfc:fillC z (qs.map fun (o,n,x)=>(o,n,x.ev a)) with
    | none=>rw [hfc] at hv;cases hv
    | some r=>
      rw [hfc] at hv
      simp only [Option.map_some,Option.some.injEq] at hv
      subst hv
      obtain ⟨u,h1,h2⟩:=ok_build (act:=act) hz hps hf (fun s hs'=>hl s (by simpa using hs')) hfc
      exact val rfl h1 h2
   ·split at hq
    ·split at hq
     ·rename_i ha
      injection hq with hq;subst hq
      simp only [QOp.ev,List.map_nil,fillC,Option.map_some,Option.some.injEq] at hv
      subst hv
      obtain ⟨u,h1,h2⟩:=ok_build_arr (σ:=σ) (w:=w) hz ha
      have hps0:ps = #[]:=by
       have:=partsOf_nil hps
       simpa using this
      subst hps0
      refine val (s:=Instr.build T #[]) ?_ h1 h2
      simp [execOp]
     ·cases hq
    ·cases hq
  ·cases hq
 case buildSlice T n ps=>
  split at hq
  ·rename_i e hT
   split at hq
   ·rename_i i xs hi hx
    split at hq
    ·rename_i hc
     split at hq
     ·injection hq with hq;subst hq
      simp only [QOp.ev] at hv
      split at hv
      ·rename_i hw
       injection hv with hv;subst hv
       obtain ⟨u,w',h1,h2,h3,h4⟩:=ok_bsl (act:=act) hT hi hx hc.1 hc.2.1 hc.2.2 (fun s hs'=>hl s (by simpa using hs')) hs hw .lit (.inr rfl)
       exact ⟨u,w',run_value h1,h2,h3,h4⟩
      ·cases hv
     ·injection hq with hq;subst hq
      simp only [QOp.ev] at hv
      split at hv
      ·rename_i hw
       injection hv with hv;subst hv
       obtain ⟨u,w',h1,h2,h3,h4⟩:=ok_bsl (act:=act) hT hi hx hc.1 hc.2.1 hc.2.2 (fun s hs'=>hl s (by simpa using hs')) hs hw .full (.inl rfl)
       exact ⟨u,w',run_value h1,h2,h3,h4⟩
      ·cases hv
    ·cases hq
   ·cases hq
  ·cases hq
 case lookup T x k c=>
  split at hq
  ·rename_i x' k' hx hk
   split at hq
   ·rename_i hcT
    obtain ⟨hcc,hT⟩:c=true/\intMap P T=true:=by simpa using hcT
    subst hcc
    injection hq with hq;subst hq
    have hxr:=opd_rep (σ:=σ) (w:=w) hx fun t ht=>hl t (by simp [ht])
    have hkr:=opd_rep (σ:=σ) (w:=w) hk fun t ht=>hl t (by simp [ht])
    simp only [QOp.ev] at hv
    split at hv
    ·rename_i b kk hxe hke
     split at hv
     ·rename_i l hm
      injection hv with hv;subst hv
      rw [hxe] at hxr
      rw [hke] at hkr
      generalize hux:act.eval x=ux at hxr
      generalize huk:act.eval k=uk at hkr
      cases hxr
      cases hkr
      unfold mapAt at hm
      split at hm
      ·rename_i l' hb
       injection hm with hm;subst hm
       obtain ⟨es,clock,h1,h2⟩:=hs b _ hb
       exact val (u := .tuple #[.int .i64 ((findM l' kk).getD 0),.bool (findM l' kk).isSome]) (by simp only [execOp,hux,huk]) (run_lookup_int hT h1 h2 kk) (.tuple (.cons (.int _ _) (.cons (.bool _) .nil)))
      ·cases hm
     ·cases hv
    ·cases hv
   ·split at hq
    ·rename_i hT
     injection hq with hq;subst hq
     have hxr:=opd_rep (σ:=σ) (w:=w) hx fun t ht=>hl t (by simp [ht])
     have hkr:=opd_rep (σ:=σ) (w:=w) hk fun t ht=>hl t (by simp [ht])
     simp only [QOp.ev] at hv
     split at hv
     ·rename_i b kk hxe hke
      split at hv
      ·rename_i l hm
       injection hv with hv;subst hv
       rw [hxe] at hxr
       rw [hke] at hkr
       generalize hux:act.eval x=ux at hxr
       generalize huk:act.eval k=uk at hkr
       cases hxr
       cases hkr
       unfold mapsAt at hm
       split at hm
       ·rename_i l' hb
        injection hm with hm;subst hm
        obtain ⟨es,clock,h1,h2⟩:=hs b _ hb
        exact val (u:=if c then .tuple #[strG ((findM l' kk).getD []),.bool (findM l' kk).isSome] else strG ((findM l' kk).getD [])) (by simp only [execOp,hux,huk]) (run_lookup_str hT h1 h2.1 kk c) (by cases c;exact .str _;exact .tuple (.cons (.str _) (.cons (.bool _) .nil)))
       ·cases hm
      ·cases hv
     ·cases hv
    ·cases hq
  ·cases hq
 case load T p=>
  split at hq
  ·rename_i p' n hp hn
   injection hq with hq;subst hq
   have hpr:=opd_rep (σ:=σ) (w:=w) hp fun t ht=>hl t (by simp [ht])
   simp only [QOp.ev] at hv
   split at hv
   ·rename_i b o hpe
    split at hv
    ·rename_i cs hk
     rw [hpe] at hpr
     cases hpv:act.eval p with
     | pointer A=>
       rw [hpv] at hpr
       cases hpr
       obtain ⟨vs,h1,h2⟩:=hs.known hk
       have hv':fieldVal 0 n (cs.drop o)=some v:=by
        cases n with
        | none=>simpa [fieldVal] using hv
        | some m=>
          simp only [fieldVal] at hv ⊢
          split at hv
          ·rename_i hle
           rw [if_pos (by simp;omega)]
           simpa using hv
          ·cases hv
       obtain ⟨u,h3,h4⟩:=run_loadVar (P:=P) (b:=b) (o:=o) hn (h1.drop o) (fun j v hj=>h2 (o+j) v (by simpa using hj)) hv'
       refine val (s:=Instr.loadAt T (act.eval p)) rfl ?_ h4
       rw [hpv]
       unfold Instr.loadAt
       rw [Sem.run_bind,run_sureAddr]
       exact h3
     | _=>rw [hpv] at hpr;cases hpr
    ·cases hv
   ·rename_i cs hpe
    rw [hpe] at hpr
    cases hpv:act.eval p with
    | pointer A=>
      rw [hpv] at hpr
      cases hpr with
      | imm hA=>
        obtain ⟨vs,h1,h2⟩:=hA.vals
        obtain ⟨u,h3,h4⟩:=run_loadVar (P:=P) hn h1 h2 hv
        refine val (s:=Instr.loadAt T (act.eval p)) rfl ?_ h4
        rw [hpv]
        unfold Instr.loadAt
        rw [Sem.run_bind,run_sureAddr]
        exact h3
    | _=>rw [hpv] at hpr;cases hpr
   ·cases hv
  ·cases hq
 case nilCheck x=>
  cases hx:opd x with
  | none=>simp [hx] at hq
  | some x'=>
    simp only [hx,Option.map_some,Option.some.injEq] at hq
    subst hq
    have hxr:=opd_rep (σ:=σ) (w:=w) hx fun t ht=>hl t (by simp [ht])
    simp only [QOp.ev] at hv
    generalize hev:x'.ev a=xv at hv hxr
    generalize hu:act.eval x=u at hxr
    cases hxr<;>simp only [reduceCtorEq,Option.some.injEq] at hv
    ·subst hv;exact OkQ.same hs (by simp only [execOp,hu];rfl) (.ptr _ _)
    ·rename_i hA;subst hv;exact OkQ.same hs (by simp only [execOp,hu];rfl) (.imm hA)
 case binOp op T x y T'=>
  split at hq
  ·rename_i x' y' hx hy
   have hxr:=opd_rep (σ:=σ) (w:=w) hx fun t ht=>hl t (by simp [ht])
   have hyr:=opd_rep (σ:=σ) (w:=w) hy fun t ht=>hl t (by simp [ht])
   have plain:∀ {r},binV op (x'.ev a) (y'.ev a)=some r->OkQ P ⟨dst,.binOp op T x y T',type,pos,after,guard⟩ σ w act r:=by
    intro r hr
    obtain ⟨z,h1,h2⟩:=run_binV (P:=P) (T:=T) hxr hyr hr
    refine OkQ.same hs (u:=z) ?_ h2
    simp only [execOp,Sem.run_bind,run_eqGuard_plain (P:=P) (T:=T) (X:=x) (Y:=y) hxr hyr hr,Result.andThen,h1]
    rfl
   split at hq
   ·rename_i heq
    split at hq
    ·rename_i k hk
     injection hq with hq;subst hq
     simp only [QOp.ev] at hv
     split at hv
     ·rename_i b hb
      injection hv with hv;subst hv
      have hkc:=eqK_ne_c hk
      rcases eqV_kc hkc hb with hb|⟨rfl,hc,hx0,hy0,rfl⟩
      ·have h1:=run_eqGuard_eqV (P:=P) (w:=w) (T:=T) (X:=x) (Y:=y) (op:=op) hkc hxr hyr hb
       have h2:=run_eqV (P:=P) hk hxr hyr hb
       refine OkQ.same hs (u := .bool (if (op == .neq)=true then !b else b)) ?_ (.bool _)
       have h3:=run_binop_eq (P:=P) heq hxr hyr hb h2
       simp only [execOp,Sem.run_bind,h1,Result.andThen,h3]
       rfl
      ·rw [hx0] at hxr
       rw [hy0] at hyr
       have hG:=run_eqGuard_nil (P:=P) (w:=w) (T:=T) (op:=op) hx hy hc
       have hE:=run_binop_eq_nil (P:=P) (w:=w) heq (run_eq_nil hk)
       generalize hu:act.eval x=u at hxr
       generalize hu':act.eval y=u' at hyr
       cases hxr
       cases hyr
       refine OkQ.same hs (u := .bool (if (op == .neq)=true then !true else true)) ?_ (.bool _)
       simp only [execOp,Sem.run_bind,hu,hu',hG,Result.andThen,hE]
       rfl
     ·cases hv
    ·split at hq
     ·rename_i l hl'
      injection hq with hq;subst hq
      simp only [QOp.ev] at hv
      split at hv
      ·rename_i cs ds hcs hds
       split at hv
       ·rename_i b hb
        injection hv with hv;subst hv
        rw [hcs] at hxr
        rw [hds] at hyr
        generalize hu:act.eval x=u at hxr
        generalize hu':act.eval y=u' at hyr
        cases hxr with
        | agg hxs=>
          rename_i vs1
          cases hyr with
          | agg hys=>
            rename_i vs2
            obtain ⟨h1,h2⟩:=run_eqs (P:=P) (op:=op) (X:=x) (Y:=y) hl' hxs hys hb
            refine OkQ.same hs (u := .bool (if (op == .neq)=true then !b else b)) ?_ (.bool _)
            have h3:(Go.binOp op T (.agg ⟨vs1⟩) (.agg ⟨vs2⟩)).run P w = .ok (.bool (if (op == .neq)=true then !b else b)) w:=by
             cases op<;>simp only [isEq,Bool.false_eq_true] at heq
             ·rw [run_eql_struct,h2];rfl
             ·rw [run_neq_struct,h2];rfl
            simp only [execOp,hu,hu',Sem.run_bind,h1,Result.andThen,h3]
            rfl
       ·cases hv
      ·cases hv
     ·split at hq
      ·cases hq
      ·injection hq with hq;subst hq
       exact plain hv
   ·injection hq with hq;subst hq
    exact plain hv
  ·cases hq
 case unOp op T x=>
  cases hx:opd x with
  | none=>simp [hx] at hq
  | some x'=>
    simp only [hx,Option.map_some,Option.some.injEq] at hq
    subst hq
    have hxr:=opd_rep (σ:=σ) (w:=w) hx fun t ht=>hl t (by simp [ht])
    simp only [QOp.ev] at hv
    generalize hev:x'.ev a=xv at hv hxr
    generalize hu:act.eval x=u at hxr
    cases op<;>cases hxr<;>simp only [reduceCtorEq,Option.some.injEq] at hv
    ·subst hv;exact OkQ.same hs (by simp only [execOp,hu];rfl) (.int _ _)
    ·rename_i k n
     simp only [binI,Option.some.injEq] at hv
     subst hv
     exact OkQ.same hs (by simp only [execOp,hu];rfl) (.int _ _)
    ·subst hv;exact OkQ.same hs (by simp only [execOp,hu];rfl) (.bool _)
 case makeInterface T x=>
  split at hq
  ·cases hq
  ·rename_i x' d hne hx hT
   injection hq with hq;subst hq
   have hxr:=opd_rep (σ:=σ) (w:=w) hx fun t ht=>hl t (by simp [ht])
   injection hv with hv;subst hv
   refine val (s:=Instr.makeInterface T (act.eval x)) (u := .iface T (act.eval x)) rfl ?_ (.iface hxr)
   unfold Instr.makeInterface
   rw [Sem.run_bind,run_und hT]
   simp only [Result.andThen]
   cases d<;>first|rfl|(exfalso;exact hne _ rfl)
  ·cases hq
 case makeFunc fn f c=>
  split at hq
  ·rename_i f' c' hf hc
   injection hq with hq;subst hq
   injection hv with hv;subst hv
   have h1:=opds_rep (σ:=σ) (w:=w) hf fun t ht=>hl t (by simp [ht])
   have h2:=opds_rep (σ:=σ) (w:=w) hc fun t ht=>hl t (by simp [ht])
   refine val (s:=Instr.makeFunc fn (f.map act.eval) (c.map act.eval)) (u := .func fn ⟨f.toList.map act.eval⟩ ⟨c.toList.map act.eval⟩) rfl ?_ (.func h1 h2)
   have e1:f.map act.eval=⟨f.toList.map act.eval⟩:=by apply Array.ext';simp
   have e2:c.map act.eval=⟨c.toList.map act.eval⟩:=by apply Array.ext';simp
   rw [e1,e2]
   rfl
  ·cases hq
 case fieldAddr T x f=>
  split at hq
  ·rename_i x' o ft hx hf
   split at hq
   ·rename_i n hn
    injection hq with hq;subst hq
    have hxr:=opd_rep (σ:=σ) (w:=w) hx fun t ht=>hl t (by simp [ht])
    simp only [QOp.ev] at hv
    generalize hev:x'.ev a=xv at hv hxr
    generalize hu:act.eval x=u at hxr
    cases hxr<;>simp only [reduceCtorEq,Option.some.injEq] at hv
    ·subst hv
     exact val (s:=Instr.fieldAt T (act.eval x) f) rfl (by rw [hu];exact ok_fa hf hn) (.ptr _ _)
    ·rename_i hA
     subst hv
     exact val (s:=Instr.fieldAt T (act.eval x) f) rfl (by rw [hu];exact ok_fa hf hn) (.imm (hA.drop o))
   ·cases hq
  ·cases hq
 case field T x f=>
  split at hq
  ·rename_i x' o ft hx hf
   cases hn:aggOf P ft with
   | none=>simp [hn] at hq
   | some n=>
     simp only [hn,Option.map_some,Option.some.injEq] at hq
     subst hq
     have hxr:=opd_rep (σ:=σ) (w:=w) hx fun t ht=>hl t (by simp [ht])
     simp only [QOp.ev] at hv
     generalize hev:x'.ev a=xv at hv hxr
     generalize hu:act.eval x=u at hxr
     cases hxr<;>simp only [reduceCtorEq] at hv
     rename_i hR
     obtain ⟨u,h1,h2⟩:=ok_field (P:=P) hf hn hR hv
     exact val (s:=Instr.field T (act.eval x) f) rfl (by rw [hu];exact h1) h2
  ·cases hq
 case extract x i=>
  cases hx:opd x with
  | none=>simp [hx] at hq
  | some x'=>
    simp only [hx,Option.map_some,Option.some.injEq] at hq
    subst hq
    have hxr:=opd_rep (σ:=σ) (w:=w) hx fun t ht=>hl t (by simp [ht])
    simp only [QOp.ev] at hv
    generalize hev:x'.ev a=xv at hv hxr
    generalize hu:act.eval x=u at hxr
    cases hxr<;>simp only [reduceCtorEq] at hv
    rename_i hR
    obtain ⟨u,h1,h2⟩:=hR.get hv
    refine val (s:=Instr.extract (act.eval x) i) (u:=u) rfl ?_ h2
    rw [hu]
    simp only [Instr.extract]
    rename_i vs
    have:(⟨vs⟩:Array Value)[i]? = some u:=by simpa using h1
    rw [this]
    rfl
 case indexAddr T x i=>
  split at hq
  ·rename_i x' i' e hx hi hT
   cases hse:sizeT P e with
   | none=>simp [hse] at hq
   | some sz=>
     simp only [hse,Option.map_some,Option.some.injEq] at hq
     subst hq
     have hxr:=opd_rep (σ:=σ) (w:=w) hx fun t ht=>hl t (by simp [ht])
     have hir:=opd_rep (σ:=σ) (w:=w) hi fun t ht=>hl t (by simp [ht])
     simp only [QOp.ev] at hv
     split at hv
     ·rename_i k xs n hxe hn
      obtain ⟨k',hiv,_⟩:=intV_rep hir hn
      split at hv
      ·cases hv
      ·rename_i hneg
       split at hv
       ·rename_i y hy
        split at hv
        ·rename_i hyc
         injection hv with hv;subst hv
         rw [hxe] at hxr
         generalize hu:act.eval x=u at hxr
         cases hxr with
         | slE A c=>simp at hy
         | slN=>simp at hy
         | sl h1 h2 h3 h4 h5=>
           obtain ⟨h6,h7⟩:=h1.at hy
           have hlt:=(List.getElem?_eq_some_iff.1 hy).1
           refine val (s:=Instr.indexAt T (act.eval x) (act.eval i)) rfl ?_ (.imm h7)
           rw [hu,hiv,← h6,hyc]
           exact ok_ia hT hse (by omega) (by omega)
        ·cases hv
       ·cases hv
     ·rename_i b o m c n hxe hn
      obtain ⟨k',hiv,_⟩:=intV_rep hir hn
      split at hv
      ·cases hv
      ·rename_i hneg
       split at hv
       ·rename_i hlt
        injection hv with hv;subst hv
        rw [hxe] at hxr
        generalize hu:act.eval x=u at hxr
        cases hxr
        refine val (s:=Instr.indexAt T (act.eval x) (act.eval i)) rfl ?_ (.ptr _ _)
        rw [hu,hiv]
        exact ok_ia hT hse (by omega) hlt
       ·cases hv
     ·cases hv
  ·rename_i x' i' m e hx hi hT
   cases hse:sizeT P e with
   | none=>simp [hse] at hq
   | some sz=>
     simp only [hse,Option.map_some,Option.some.injEq] at hq
     subst hq
     have hxr:=opd_rep (σ:=σ) (w:=w) hx fun t ht=>hl t (by simp [ht])
     have hir:=opd_rep (σ:=σ) (w:=w) hi fun t ht=>hl t (by simp [ht])
     simp only [QOp.ev] at hv
     split at hv
     ·rename_i b o n hxe hn
      obtain ⟨k',hiv,_⟩:=intV_rep hir hn
      split at hv
      ·cases hv
      ·rename_i hneg
       split at hv
       ·rename_i hlt
        injection hv with hv;subst hv
        rw [hxe] at hxr
        generalize hu:act.eval x=u at hxr
        cases hxr
        refine val (s:=Instr.indexAt T (act.eval x) (act.eval i)) rfl ?_ (.ptr _ _)
        rw [hu,hiv]
        exact ok_iaa hT hse (by omega) hlt
       ·cases hv
     ·rename_i cs n hxe hn
      obtain ⟨k',hiv,_⟩:=intV_rep hir hn
      split at hv
      ·cases hv
      ·rename_i hneg
       split at hv
       ·rename_i hlt
        injection hv with hv;subst hv
        rw [hxe] at hxr
        generalize hu:act.eval x=u at hxr
        cases hxr with
        | imm hA=>
          refine val (s:=Instr.indexAt T (act.eval x) (act.eval i)) rfl ?_ (.imm (hA.drop _))
          rw [hu,hiv]
          exact ok_iaa hT hse (by omega) hlt
       ·cases hv
     ·cases hv
  ·cases hq
 case index T x i=>
  split at hq
  ·rename_i x' i' hx hi hT
   injection hq with hq;subst hq
   have hxr:=opd_rep (σ:=σ) (w:=w) hx fun t ht=>hl t (by simp [ht])
   have hir:=opd_rep (σ:=σ) (w:=w) hi fun t ht=>hl t (by simp [ht])
   simp only [QOp.ev] at hv
   split at hv
   ·rename_i l n hxe hn
    obtain ⟨k',hiv,_⟩:=intV_rep hir hn
    split at hv
    ·cases hv
    ·rename_i hneg
     split at hv
     ·rename_i c hc
      injection hv with hv;subst hv
      rw [hxe] at hxr
      generalize hu:act.eval x=u at hxr
      cases hxr
      refine val (s:=Instr.index T (act.eval x) (act.eval i)) rfl ?_ (.int _ _)
      rw [hu,hiv]
      exact ok_idx hT (by omega) hc
     ·cases hv
   ·cases hv
  ·cases hq
 case slice T x lo hi mx=>
  cases mx with
  | some m=>
    cases hi with
    | none=>cases hq
    | some hi=>
      simp only at hq
      split at hq
      ·rename_i x' hi' m' s lo' hx hhi hmx hT hlo
       injection hq with hq;subst hq
       have hxr:=opd_rep (σ:=σ) (w:=w) hx fun t ht=>hl t (by simp [ht])
       have hhr:=opd_rep (σ:=σ) (w:=w) hhi fun t ht=>hl t (by simp [ht])
       have hmr:=opd_rep (σ:=σ) (w:=w) hmx fun t ht=>hl t (by simp [ht])
       simp only [QOp.ev] at hv
       split at hv
       ·rename_i L H M hL hH hM
        obtain ⟨kh,h1,_⟩:=intV_rep hhr hH
        obtain ⟨km,h2,_⟩:=intV_rep hmr hM
        have hlo2:(lo.map act.eval=none/\L=0)\/∃ k,lo.map act.eval=some (.int k L):=by
         cases lo with
         | none=>
           injection hlo with hlo;subst hlo
           simp only [Opd.ev,intV,Option.some.injEq] at hL
           exact .inl ⟨rfl,hL.symm⟩
         | some lo=>
           have hlr:=opd_rep (σ:=σ) (w:=w) hlo fun t ht=>hl t (by simp [ht])
           obtain ⟨k,h3,_⟩:=intV_rep hlr hL
           exact .inr ⟨k,by simp [h3]⟩
        obtain ⟨u,g1,g2⟩:=ok_sl3 (P:=P) hT hxr hlo2 ⟨kh,h1⟩ ⟨km,h2⟩ hv
        exact val (s:=Instr.sliceAt T (act.eval x) (lo.map act.eval) (some (act.eval hi)) (some (act.eval m))) rfl g1 g2
       ·cases hv
      ·cases hq
  | none=>
    simp only at hq
    split at hq
    ·rename_i x' hx hT
     have hxr:=opd_rep (σ:=σ) (w:=w) hx fun t ht=>hl t (by simp [ht])
     have hcase:lo=none/\hi=none/\∃ n e,P.underlying T=some (.array n e)/\(arrOk P T && decide (0<n))=true/\q = .sla n x':=by
      revert hq
      split
      ·rename_i n e hu
       intro hq
       split at hq
       ·rename_i hc
        injection hq with hq
        exact ⟨rfl,rfl,n,e,hu,hc,hq.symm⟩
       ·cases hq
      ·intro hq
       cases hq
     clear hq
     obtain ⟨rfl,rfl,n,e,hu,hc,rfl⟩:=hcase
     simp only [QOp.ev] at hv
     split at hv
     ·rename_i b o hxe
      injection hv with hv;subst hv
      rw [hxe] at hxr
      generalize hxv:act.eval x=xv at hxr
      cases hxr
      simp only [Bool.and_eq_true,decide_eq_true_eq] at hc
      obtain ⟨ha,hn⟩:=hc
      unfold arrOk at ha
      rw [hu] at ha
      obtain ⟨ie,hie⟩:=Option.isSome_iff_exists.1 ha
      refine val (s:=Instr.sliceAt T (act.eval x) none none none) (u := .slice (some ⟨b,o,none⟩) n n) rfl ?_ (.msl _ _ _ _)
      rw [hxv]
      have hn0:n≠0:=by omega
      simp [Instr.sliceAt,run_underlying hu,Instr.sureAddr,Instr.sliceBounds,sizeOf,typeInfo,hie,Addr.add_lit,hn0]
     ·cases hv
    ·rename_i x' s hx hT
     have hxr:=opd_rep (σ:=σ) (w:=w) hx fun t ht=>hl t (by simp [ht])
     cases lo with
     | none=>
       cases hi with
       | none=>
         simp only [Option.some.injEq] at hq
         subst hq
         simp only [QOp.ev] at hv
         split at hv
         ·rename_i n hn
          obtain ⟨u,h1,h2⟩:=ok_sl (P:=P) (lo:=none) (hi:=none) hT hxr (.inl ⟨rfl,rfl⟩) (.inl ⟨rfl,n,hn,rfl⟩) hv
          exact val (s:=Instr.sliceAt T (act.eval x) none none none) rfl h1 h2
         ·cases hv
       | some hi=>
         simp only at hq
         cases hh:opd hi with
         | none=>simp [hh] at hq
         | some hi'=>
           simp only [hh,Option.map_some,Option.some.injEq] at hq
           subst hq
           have hhr:=opd_rep (σ:=σ) (w:=w) hh fun t ht=>hl t (by simp [ht])
           simp only [QOp.ev] at hv
           split at hv
           ·rename_i n hn
            obtain ⟨k',hiv,_⟩:=intV_rep hhr hn
            obtain ⟨u,h1,h2⟩:=ok_sl (P:=P) (lo:=none) (hi:=some (act.eval hi)) hT hxr (.inl ⟨rfl,rfl⟩) (.inr ⟨k',by rw [hiv]⟩) hv
            exact val (s:=Instr.sliceAt T (act.eval x) none (some (act.eval hi)) none) rfl h1 h2
           ·cases hv
     | some lo=>
       cases hi with
       | none=>
         simp only at hq
         cases hh:opd lo with
         | none=>simp [hh] at hq
         | some lo'=>
           simp only [hh,Option.map_some,Option.some.injEq] at hq
           subst hq
           have hhr:=opd_rep (σ:=σ) (w:=w) hh fun t ht=>hl t (by simp [ht])
           simp only [QOp.ev] at hv
           split at hv
           ·rename_i l n hll hn
            obtain ⟨k',hiv,_⟩:=intV_rep hhr hll
            obtain ⟨u,h1,h2⟩:=ok_sl (P:=P) (lo:=some (act.eval lo)) (hi:=none) hT hxr (.inr ⟨k',by rw [hiv]⟩) (.inl ⟨rfl,n,hn,rfl⟩) hv
            exact val (s:=Instr.sliceAt T (act.eval x) (some (act.eval lo)) none none) rfl h1 h2
           ·cases hv
       | some hi=>
         simp only at hq
         split at hq
         ·rename_i lo' hi' hlo hhi
          injection hq with hq;subst hq
          have hlr:=opd_rep (σ:=σ) (w:=w) hlo fun t ht=>hl t (by simp [ht])
          have hhr:=opd_rep (σ:=σ) (w:=w) hhi fun t ht=>hl t (by simp [ht])
          simp only [QOp.ev] at hv
          split at hv
          ·rename_i l n hll hn
           obtain ⟨k',hiv,_⟩:=intV_rep hlr hll
           obtain ⟨k'',hiv',_⟩:=intV_rep hhr hn
           obtain ⟨u,h1,h2⟩:=ok_sl (P:=P) (lo:=some (act.eval lo)) (hi:=some (act.eval hi)) hT hxr (.inr ⟨k',by rw [hiv]⟩) (.inr ⟨k'',by rw [hiv']⟩) hv
           exact val (s:=Instr.sliceAt T (act.eval x) (some (act.eval lo)) (some (act.eval hi)) none) rfl h1 h2
          ·cases hv
         ·cases hq
    ·cases hq
 case convert S D x=>
  split at hq
  ·rename_i x' k k' hx hS hD
   injection hq with hq;subst hq
   have hxr:=opd_rep (σ:=σ) (w:=w) hx fun t ht=>hl t (by simp [ht])
   simp only [QOp.ev] at hv
   generalize hev:x'.ev a=xv at hv hxr
   generalize hu:act.eval x=u at hxr
   cases hxr<;>simp only [reduceCtorEq,Option.some.injEq] at hv
   subst hv
   refine val (s:=convert S D (act.eval x)) rfl ?_ (.int _ _)
   rw [hu]
   simp [convert,run_und hS,run_und hD,Conv.intToInt]
  ·rename_i x' hx hS hD
   injection hq with hq;subst hq
   have hxr:=opd_rep (σ:=σ) (w:=w) hx fun t ht=>hl t (by simp [ht])
   simp only [QOp.ev] at hv
   generalize hev:x'.ev a=xv at hv hxr
   generalize hu:act.eval x=u at hxr
   cases hxr<;>simp only [reduceCtorEq,Option.some.injEq] at hv
   subst hv
   refine val (s:=convert S D (act.eval x)) rfl ?_ (.str _)
   rw [hu]
   simp [convert,run_und hS,run_und hD]
  ·rename_i x' k hx hS hD
   injection hq with hq;subst hq
   have hxr:=opd_rep (σ:=σ) (w:=w) hx fun t ht=>hl t (by simp [ht])
   simp only [QOp.ev] at hv
   generalize hev:x'.ev a=xv at hv hxr
   generalize hu:act.eval x=u at hxr
   cases hxr<;>simp only [reduceCtorEq,Option.some.injEq] at hv
   subst hv
   refine val (s:=convert S D (act.eval x)) rfl ?_ (.str _)
   rw [hu]
   exact run_convert_int_string w S D _ _ (by rw [hS];rfl) hD
  ·rename_i x' e hx hS hD
   split at hq
   ·rename_i he
    injection hq with hq;subst hq
    have hxr:=opd_rep (σ:=σ) (w:=w) hx fun t ht=>hl t (by simp [ht])
    simp only [QOp.ev] at hv
    split at hv
    ·rename_i k xs hxe
     split at hv
     ·rename_i l hb
      injection hv with hv;subst hv
      rw [hxe] at hxr
      exact val (s:=convert S D (act.eval x)) rfl (ok_b2s hS he hD hxr hb) (.str _)
     ·cases hv
    ·rename_i b o n c hxe
     split at hv
     ·rename_i cs hk
      split at hv
      ·rename_i hfit
       split at hv
       ·rename_i l hb
        injection hv with hv;subst hv
        rw [hxe] at hxr
        generalize hu:act.eval x=u at hxr
        cases hxr
        exact val (s:=convert S D (act.eval x)) rfl (by rw [hu];exact ok_b2m hS he hD hs hk hfit hb) (.str _)
       ·cases hv
      ·cases hv
     ·cases hv
    ·cases hv
   ·rename_i he
    injection hq with hq;subst hq
    have hxr:=opd_rep (σ:=σ) (w:=w) hx fun t ht=>hl t (by simp [ht])
    simp only [QOp.ev] at hv
    split at hv
    ·rename_i k xs hxe
     split at hv
     ·rename_i l hb
      injection hv with hv;subst hv
      rw [hxe] at hxr
      exact val (s:=convert S D (act.eval x)) rfl (ok_r2s hS he hD hxr hb) (.str _)
     ·cases hv
    ·rename_i b o n c hxe
     split at hv
     ·rename_i cs hk
      split at hv
      ·rename_i hfit
       split at hv
       ·rename_i l hb
        injection hv with hv;subst hv
        rw [hxe] at hxr
        generalize hu:act.eval x=u at hxr
        cases hxr
        exact val (s:=convert S D (act.eval x)) rfl (by rw [hu];exact ok_r2m hS he hD hs hk hfit hb) (.str _)
       ·cases hv
      ·cases hv
     ·cases hv
    ·cases hv
   ·cases hq
  ·cases hq
 case typeAssert x xT t ok=>
  split at hq
  ·cases hq
  ·rename_i x' d z hne hx hT hz
   injection hq with hq;subst hq
   have hxr:=opd_rep (σ:=σ) (w:=w) hx fun t ht=>hl t (by simp [ht])
   obtain ⟨ti,zv,hi,hzv,hof⟩:=zeroT_spec hz
   have hzr:=ofVal_rep (σ:=σ) (w:=w) hof
   simp only [QOp.ev] at hv
   generalize hev:x'.ev a=xv at hv hxr
   generalize hu:act.eval x=u at hxr
   have hni:∀ ms,d ≠ .interface ms:=fun ms hd=>hne ms hd
   cases hxr<;>simp only [reduceCtorEq] at hv
   ·rename_i s b v' hb
    split at hv
    ·rename_i hst
     subst hst
     injection hv with hv;subst hv
     refine val (s:=Instr.typeAssert (act.eval x) xT s ok) (u:=if ok then .tuple #[v',.bool true] else v') rfl ?_ ?_
     ·rw [hu]
      unfold Instr.typeAssert
      simp only [Sem.run_bind,run_und hT,Result.andThen]
      cases d<;>first|(exfalso;exact hni _ rfl)|(cases ok<;>simp)
     ·cases ok
      ·exact hb
      ·exact .tuple (.cons hb (.cons (.bool _) .nil))
    ·rename_i hst
     split at hv
     ·rename_i hok
      injection hv with hv;subst hv
      refine val (s:=Instr.typeAssert (act.eval x) xT t ok) (u := .tuple #[zv,.bool false]) rfl ?_ (.tuple (.cons hzr (.cons (.bool _) .nil)))
      rw [hu]
      unfold Instr.typeAssert
      simp only [Sem.run_bind,run_und hT,Result.andThen]
      cases d<;>first|(exfalso;exact hni _ rfl)|(simp [hst,hok,run_zv hi hzv])
     ·cases hv
   ·split at hv
    ·rename_i hok
     injection hv with hv;subst hv
     refine val (s:=Instr.typeAssert (act.eval x) xT t ok) (u := .tuple #[zv,.bool false]) rfl ?_ (.tuple (.cons hzr (.cons (.bool _) .nil)))
     rw [hu]
     unfold Instr.typeAssert
     simp only [Sem.run_bind,run_und hT,Result.andThen]
     cases d<;>first|(exfalso;exact hni _ rfl)|(simp [hok,run_zv hi hzv])
    ·cases hv
  ·cases hq
 case call c=>
  obtain ⟨callee,⟨args⟩,⟨ats⟩⟩:=c
  cases callee with
  | value f=>cases hq
  | invoke r m=>cases hq
  | builtin b=>
    have two:∀ (x y:Operand) (x' y':Opd) (mx:Bool),args = [x,y]->opd x=some x'->opd y=some y'->q = .mnx mx x' y'->b=(if mx then .max else .min) →
      OkQ P ⟨dst,.call { callee := .builtin b,args:=⟨args⟩,argTypes:=⟨ats⟩ },type,pos,after,guard⟩ σ w act v:=by
     rintro x y x' y' mx rfl hx hy rfl rfl
     have hxr:=opd_rep (σ:=σ) (w:=w) hx fun t ht=>hl t (by simp [Call.operands,ht])
     have hyr:=opd_rep (σ:=σ) (w:=w) hy fun t ht=>hl t (by simp [Call.operands,ht])
     simp only [QOp.ev] at hv
     split at hv
     ·rename_i k m k' n hxe hye
      injection hv with hv;subst hv
      rw [hxe] at hxr
      rw [hye] at hyr
      generalize hu:act.eval x=u at hxr
      generalize hu':act.eval y=u' at hyr
      cases hxr
      cases hyr
      refine OkQ.same hs ?_ (.int _ _)
      cases mx
      ·exact run_builtin (map_two act x y) (fun _=>rfl) (by rw [hu,hu'];exact run_min_int2 w _ _ k k' m n)
      ·exact run_builtin (map_two act x y) (fun _=>rfl) (by rw [hu,hu'];exact run_max_int2 w _ _ k k' m n)
     ·cases hv
    have one:∀ (x:Operand) (t:TypeId),args = [x]->ats = [t]->b = .len->(match opd x,P.underlying t with
      | some x,some .string=>some (QOp.lenS x)
      | some x,some (.slice _)=>some (.len x)
      | _,_=>none)=some q->OkQ P ⟨dst,.call { callee := .builtin b,args:=⟨args⟩,argTypes:=⟨ats⟩ },type,pos,after,guard⟩ σ w act v:=by
     rintro x t rfl rfl rfl hq
     split at hq
     ·rename_i x' hx hT
      injection hq with hq;subst hq
      have hxr:=opd_rep (σ:=σ) (w:=w) hx fun t ht=>hl t (by simp [Call.operands,ht])
      simp only [QOp.ev] at hv
      generalize hev:x'.ev a=xv at hv hxr
      generalize hu:act.eval x=u at hxr
      cases hxr<;>simp only [reduceCtorEq,Option.some.injEq] at hv
      subst hv
      refine OkQ.same hs ?_ (.int _ _)
      exact run_builtin (map_one act x) (fun _=>rfl) (by rw [hu];exact run_lenS hT)
     ·rename_i x' e hx hT
      injection hq with hq;subst hq
      have hxr:=opd_rep (σ:=σ) (w:=w) hx fun t ht=>hl t (by simp [Call.operands,ht])
      simp only [QOp.ev] at hv
      have fin:∀ (A:Option Addr) (n c:Nat),act.eval x = .slice A n c->(execOp act.eval ⟨dst,.call { callee := .builtin .len,args:=⟨[x]⟩,argTypes:=⟨[t]⟩ },type,pos,after,guard⟩).run P w = .ok (.value (.int .i64 n)) w:=by
       intro A n c hA
       exact run_builtin (map_one act x) (fun _=>rfl) (by rw [hA];exact run_lenL hT)
      generalize hev:x'.ev a=xv at hv hxr
      generalize hu:act.eval x=u at hxr
      cases hxr<;>simp only [reduceCtorEq,Option.some.injEq] at hv
      ·subst hv;exact OkQ.same hs (fin _ _ _ hu) (.int _ _)
      ·subst hv;exact OkQ.same hs (fin _ _ _ hu) (.int _ _)
      ·rename_i h2 _ _ _;subst hv h2;exact OkQ.same hs (fin _ _ _ hu) (.int _ _)
      ·subst hv;exact OkQ.same hs (fin _ _ _ hu) (.int _ _)
     ·cases hq
    cases b<;>(try simp only at hq)<;>(try cases hq;done)
    ·match args,ats,hq with
     | [x],[t],hq=>
       simp only at hq
       split at hq
       ·rename_i x' e hx hT
        injection hq with hq;subst hq
        have hxr:=opd_rep (σ:=σ) (w:=w) hx fun t ht=>hl t (by simp [Call.operands,ht])
        simp only [QOp.ev] at hv
        split at hv
        ·rename_i b o n c hxe
         injection hv with hv;subst hv
         rw [hxe] at hxr
         generalize hu:act.eval x=u at hxr
         cases hxr
         refine OkQ.same hs ?_ (.int _ _)
         exact run_builtin (map_one act x) (fun _=>rfl) (by rw [hu];simp [Builtin.cap_,run_und hT,goInt])
        ·cases hv
       ·cases hq
    ·match args,ats,hq with
     | [x],[t],hq=>exact one x t rfl rfl rfl hq
    ·match args,hq with
     | [x,y],hq=>
       simp only at hq
       split at hq
       ·rename_i x' y' hx hy
        injection hq with hq
        exact two x y x' y' true rfl hx hy hq.symm rfl
       ·cases hq
    ·match args,hq with
     | [x,y],hq=>
       simp only at hq
       split at hq
       ·rename_i x' y' hx hy
        injection hq with hq
        exact two x y x' y' false rfl hx hy hq.symm rfl
       ·cases hq
end
end Go.A
