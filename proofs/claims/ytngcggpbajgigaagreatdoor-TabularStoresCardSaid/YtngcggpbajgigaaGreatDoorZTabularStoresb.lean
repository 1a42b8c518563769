/- Part 2 of what TabularStores leans on: Be More. -/
import Derived.Laws.MakeOwn
import Derived.Deep.Upon
import Derived.Lib.Overlaps
import Derived.Laws.Externs
import Derived.WalkKit
import Derived.BigQuiet
import Derived.OrdersHeld
import Derived.Maps.AppendAt
import Derived.Deep.Draws
import Derived.Test.YtngcggpbajgigaaGreatDoorZTabularStoresa
set_option linter.defProp false
set_option linter.unusedSimpArgs false
set_option linter.unusedVariables false
set_option maxRecDepth 100000
namespace Go.A
def ACalls (P:Program) (f:FuncId) (args:List AV) (σ:ASt) (R:AV->ASt->Prop):Prop:=
 ∀ (w:World) (vs:List Value),Sim σ w->Reps σ w args vs->Calls P f ⟨vs⟩ w fun e w'=>∃ u r σ',e = .returned u/\R r σ'/\Le σ w σ' w'/\Sim σ' w'/\Rep σ' w' r u
theorem ACalls.mono {P:Program} {f:FuncId} {args:List AV} {σ:ASt} {R R':AV->ASt->Prop} (h:ACalls P f args σ R) (hr:∀ r σ',R r σ'->R' r σ'):ACalls P f args σ R':=
 fun w vs hs ha=>(h w vs hs ha).mono fun _ _ ⟨u,r,σ',he,h1,h2⟩=>⟨u,r,σ',he,hr _ _ h1,h2⟩
inductive EOp where
 | store (n:Nat) (p x:Opd)
 | box (x:Opd)
 | alloc (z:List AV)
 | allocT (T:TypeId)
 | app (e:TypeId) (s bytes:Nat) (z:List AV) (x y:Opd)
 | apps (e:TypeId) (x y:Opd)
 | call (f:FuncId) (args:List Opd)
 | callv (x:Opd) (args:List Opd)
 | s2b (x:Opd)
 | s2r (x:Opd)
 | mks (e:TypeId) (bytes:Nat) (z:AV) (n m:Opd)
 | mkb (e:TypeId) (bytes:Nat) (z:List AV) (n m:Opd)
 | rng (x:Opd)
 | nxt (x:Opd)
 | cpy (x y:Opd)
 | clr (z:List AV) (x:Opd)
 | appm (s bytes:Nat) (z:List AV) (x m:Opd)
 | mkm
 | mkms
 | mset (x k v:Opd)
 | msets (x k v:Opd)
 | mdel (x k:Opd)
 | cps (x y:Opd)
 | ovl (x y:Opd)
 | isn (neg:Bool) (x:Opd)
 | dead
 deriving Inhabited
def AV.leaf:AV->Bool
 | .any | .agg _ | .tuple _=>false
 | _=>true
def leaves:List AV->Bool
 | []=>true
 | x::xs=>x.leaf && leaves xs
def splice (cs:List AV) (o n:Nat) (vs:List AV):List AV:=cs.take o++vs++cs.drop (o+n)
def canApp (σ:ASt) (k:SK) (xs:List AV) (s:Nat):Prop:=
 match k with
 | .full=>wellSz s xs=true
 | .tok b s' _=>s'=s/\σ b=some (.tok (xs.length*s))
 | .shr=>False
 | .lit=>False
def srcOf (σ:ASt) (y:AV):Option (List AV):=
 match y with
 | .sl _ ys=>some ys
 | .msl b o n _=>match known σ b with
   | some ds=>if o+n<=ds.length then some ((ds.drop o).take n) else none
   | none=>none
 | _=>none
def dropTok (σ:ASt):SK->ASt
 | .tok b _ _=>σ.set b none
 | _=>σ
def ownRow (s:Nat) (z cs:List AV) (n c:Nat):List AV:=cs++(List.range ((c-n)*s)).map fun i=>z.getD (i % s) .any
inductive App (e:TypeId) (σ:ASt) (k:SK) (s n m:Nat):SK->ASt->Prop
 | none:m=0->App e σ k s n m k σ
 | room (b:Nat) (T:TypeId):k = .tok b s T->App e σ k s n m k (σ.set b (some (.tok ((n+m)*s))))
 | grow (b:Nat):σ b=none->(∀ b' T,k = .tok b' s T->b≠b')->App e σ k s n m (.tok b s e) ((dropTok σ k).set b (some (.tok ((n+m)*s))))
def okFn (P:Program) (f:FuncId):Bool:=
 match P.funcs[f]? with
 | some fn => fn.body.isSome && fn.name != "runtime.NumGoroutine"
 | none=>false
def runesZ (s:ByteArray):Nat->Nat->List Int
 | 0,_ => []
 | f+1,i=>if i<s.size then ((Utf8.decode s i).1:Int)::runesZ s f (i+(Utf8.decode s i).2) else []
def runesOf (l:List UInt8):List Int:=runesZ ⟨⟨l⟩⟩ l.length 0
theorem runesZ_spec (s:ByteArray):∀ (f i:Nat) (acc:Array Value),Conv.runesFrom s f i acc=acc++((runesZ s f i).map (Value.int .i32)).toArray
 | 0,i,acc=>by simp [Conv.runesFrom,runesZ]
 | f+1,i,acc=>by
   unfold Conv.runesFrom runesZ
   split
   ·rename_i h
    show Conv.runesFrom s f (i+(Utf8.decode s i).2) (acc.push (.int .i32 (Int.ofNat (Utf8.decode s i).1)))=_
    rw [runesZ_spec s f]
    apply Array.ext'
    simp
   ·simp
theorem runesZ_len (s:ByteArray):∀ (f i:Nat),(runesZ s f i).length<=f
 | 0,i=>by simp [runesZ]
 | f+1,i=>by
   unfold runesZ
   split
   ·have:=runesZ_len s f (i+(Utf8.decode s i).2)
    simp only [List.length_cons];omega
   ·simp
theorem runesOf_len (l:List UInt8):(runesOf l).length<=l.length:=runesZ_len _ _ _
def EOp.step (P:Program) (e:EOp) (a:AFr) (σ:ASt) (K:AV->ASt->Prop):Prop:=
 match e with
 | .store n p x=>match p.ev a with
   | .ptr b o=>match σ b with
     | some (.obj cs)=>leaves (x.ev a).cells=true/\(x.ev a).cells.length=n/\o+n<=cs.length/\K .any (σ.set b (some (.obj (splice cs o n (x.ev a).cells))))
     | _=>False
   | _=>False
 | .box x=>(x.ev a).isAny=false/\∀ b,σ b=none->K (.ptr b 0) (σ.set b (some (.obj (x.ev a).cells)))
 | .alloc z=>∀ b,σ b=none->K (.ptr b 0) (σ.set b (some (.obj z)))
 | .allocT T=>∀ b,σ b=none->K (.ptr b 0) (σ.set b (some (.typ T [.pointer none,.slice none 0 0])))
 | .app e s bytes z x y=>match x.ev a,y.ev a with
   | .sl k xs,.sl _ ys=>canApp σ k xs s/\wellSz s ys=true/\leaves (ys.flatMap AV.cells)=true/\(xs.length+ys.length)*bytes<=140737488355328/\xs.length+ys.length<=4611686018427387904 ∧
     ((∀ k' σ',App e σ k s xs.length ys.length k' σ'->K (.sl k' (xs++ys)) σ') ∨
       (k = .full/\0<ys.length/\∀ b c,σ b=none->xs.length+ys.length<=c->K (.msl b 0 (xs.length+ys.length) c) (σ.set b (some (.obj (ownRow s z (xs.flatMap AV.cells++ys.flatMap AV.cells) (xs.length+ys.length) c))))) ∨
       (ys = []/\K (.sl k xs) σ))
   | .msl b o n c,.sl _ ys=>match σ b with
     | some (.obj cs)=>wellSz s ys=true/\leaves (ys.flatMap AV.cells)=true/\(n+ys.length)*bytes<=140737488355328/\n+ys.length<=4611686018427387904/\o+n*s<=cs.length ∧
       (n+ys.length<=c->o+(n+ys.length)*s<=cs.length/\K (.msl b o (n+ys.length) c) (σ.set b (some (.obj (splice cs (o+n*s) (ys.length*s) (ys.flatMap AV.cells)))))) ∧
       (c<n+ys.length->∀ b' c',σ b'=none->n+ys.length<=c'->K (.msl b' 0 (n+ys.length) c') (σ.set b' (some (.obj (ownRow s z ((cs.drop o).take (n*s)++ys.flatMap AV.cells) (n+ys.length) c')))))
     | _=>False
   | .msl b o n c,.msl b2 o2 n2 c2=>match σ b,srcOf σ (.msl b2 o2 n2 c2) with
     | some (.obj cs),some ys=>s=1/\leaves ys=true/\(n+n2)*bytes<=140737488355328/\n+n2<=4611686018427387904/\o+n<=cs.length ∧
       (n+n2<=c->o+(n+n2)<=cs.length/\K (.msl b o (n+n2) c) (σ.set b (some (.obj (splice cs (o+n) n2 ys))))) ∧
       (c<n+n2->∀ b' c',σ b'=none->n+n2<=c'->K (.msl b' 0 (n+n2) c') (σ.set b' (some (.obj (ownRow 1 z ((cs.drop o).take n++ys) (n+n2) c')))))
     | _,_=>False
   | _,_=>False
 | .apps e x y=>match x.ev a,y.ev a with
   | .sl k xs,.str l=>canApp σ k xs 1/\xs.length+l.length<=140737488355328 ∧
     ∀ k' σ',App e σ k 1 xs.length l.length k' σ'->K (.sl k' (xs++l.map fun c => .int .u8 c.toNat)) σ'
   | _,_=>False
 | .call f args=>ACalls P f (args.map (·.ev a)) σ K
 | .callv x args=>match x.ev a with
   | .func (.func f) first cap=>okFn P f=true/\ACalls P f (first++args.map (·.ev a)++cap) σ K
   | _=>False
 | .s2b x=>match x.ev a with
   | .str l=>K (.sl .shr (l.map fun c => .int .u8 c.toNat)) σ\/∀ b c,σ b=none->l.length<=c->K (.msl b 0 l.length c) (σ.set b (some (.obj (l.map fun c => .int .u8 c.toNat))))
   | _=>False
 | .s2r x=>match x.ev a with
   | .str l=>l.length<=70368744177664/\∀ b c,σ b=none->(runesOf l).length<=c->K (.msl b 0 (runesOf l).length c) (σ.set b (some (.obj ((runesOf l).map (AV.int .i32)))))
   | _=>False
 | .mks e bytes z n m=>match n.ev a,m.ev a with
   | .int _ n,.int _ m=>0<=n/\n<=m/\m<=4611686018427387904/\(bytes:Int)*m<=281474976710656 ∧
     ((∀ b,σ b=none->K (.msl b 0 n.toNat m.toNat) (σ.set b (some (.obj (List.replicate m.toNat z)))))\/(n=0/\∀ b,σ b=none->K (.sl (.tok b 1 e) []) (σ.set b (some (.tok 0)))))
   | _,_=>False
 | .mkb _ bytes z n m=>match n.ev a,m.ev a with
   | .int _ n,.int _ m=>0<=n/\n<=m/\m<=4611686018427387904/\(bytes:Int)*m<=281474976710656/\∀ b,σ b=none->K (.msl b 0 n.toNat m.toNat) (σ.set b (some (.obj (List.replicate m.toNat z).flatten)))
   | _,_=>False
 | .rng x=>match x.ev a with
   | .str l=>∀ b,σ b=none->K (.ptr b 0) (σ.set b (some (.iter l 0)))
   | _=>False
 | .nxt x=>match x.ev a with
   | .ptr b 0=>match σ b with
     | some (.iter l p)=>if p<l.length then K (.tuple [.bool true,.int .i64 p,.int .i32 (Utf8.decode ⟨⟨l⟩⟩ p).1]) (σ.set b (some (.iter l (p+(Utf8.decode ⟨⟨l⟩⟩ p).2))))
       else K (.tuple [.bool false]) σ
     | _=>False
   | _=>False
 | .cpy x y=>match x.ev a,y.ev a with
   | .msl b o n _,.str l=>match σ b with
     | some (.obj cs)=>o+n<=cs.length/\K (.int .i64 (l.take n).length) (σ.set b (some (.obj (splice cs o (l.take n).length ((l.take n).map fun c => .int .u8 c.toNat)))))
     | _=>False
   | _,_=>False
 | .clr z x=>match x.ev a with
   | .msl b o n _=>match σ b with
     | some (.obj cs)=>leaves z=true/\o+n*z.length<=cs.length/\K .any (σ.set b (some (.obj (splice cs o (n*z.length) (List.replicate n z).flatten))))
     | _=>False
   | _=>False
 | .appm s bytes z x m=>match x.ev a,m.ev a with
   | .msl b o n c,.int _ m=>match σ b with
     | some (.obj cs)=>leaves z=true/\0<=m/\(n+m.toNat)*bytes<=140737488355328/\n+m.toNat<=4611686018427387904/\o+n*s<=cs.length ∧
       (n+m.toNat<=c->o+(n+m.toNat)*s<=cs.length/\K (.msl b o (n+m.toNat) c) (σ.set b (some (.obj (splice cs (o+n*s) (m.toNat*s) (List.replicate m.toNat z).flatten))))) ∧
       (c<n+m.toNat->∀ b' c',σ b'=none->n+m.toNat<=c'->K (.msl b' 0 (n+m.toNat) c') (σ.set b' (some (.obj (ownRow s z ((cs.drop o).take (n*s)++(List.replicate m.toNat z).flatten) (n+m.toNat) c')))))
     | _=>False
   | _,_=>False
 | .mkm=>∀ b,σ b=none->K (.map (some b)) (σ.set b (some (.map [])))
 | .mkms=>∀ b,σ b=none->K (.map (some b)) (σ.set b (some (.maps [])))
 | .mset x k v=>match x.ev a,k.ev a,v.ev a with
   | .map (some b),.int .i64 k,.int .i64 v=>match mapAt σ b with
     | some l=>K .any (σ.set b (some (.map (putM l k v))))
     | none=>False
   | _,_,_=>False
 | .msets x k v=>match x.ev a,k.ev a,v.ev a with
   | .map (some b),.int .i64 k,.str v=>match mapsAt σ b with
     | some l=>K .any (σ.set b (some (.maps (putM l k v))))
     | none=>False
   | _,_,_=>False
 | .mdel x k=>match x.ev a,k.ev a with
   | .map (some b),.int .i64 k=>match mapAt σ b with
     | some l=>K .any (σ.set b (some (.map (delM l k))))
     | none=>False
   | _,_=>False
 | .cps x y=>match x.ev a,srcOf σ (y.ev a) with
   | .msl b o n _,some ys=>match σ b with
     | some (.obj cs)=>leaves ys=true/\o+n<=cs.length/\K (.int .i64 (ys.take n).length) (σ.set b (some (.obj (splice cs o (ys.take n).length (ys.take n)))))
     | _=>False
   | _,_=>False
 | .ovl x y=>match x.ev a,y.ev a with
   | .sl .lit _,.msl b _ _ _=>match σ b with
     | some (.obj cs)=>0<cs.length/\K (.bool false) σ
     | _=>False
   | _,_=>False
 | .isn neg x=>match x.ev a with
   | .sl _ []=>K (.bool true) σ/\K (.bool false) σ
   | .sl _ (_::_)=>K (.bool neg) σ
   | .msl _ _ _ _=>K (.bool neg) σ
   | _=>False
 | .dead=>False
theorem EOp.step_mono {P:Program} {e:EOp} {a:AFr} {σ:ASt} {K K':AV->ASt->Prop} (h:e.step P a σ K) (hk:∀ v σ',K v σ'->K' v σ'):e.step P a σ K':=by
 cases e<;>simp only [EOp.step] at h ⊢
 case store n p x=>
  split at h
  ·split at h
   ·exact ⟨h.1,h.2.1,h.2.2.1,hk _ _ h.2.2.2⟩
   ·exact h.elim
  ·exact h.elim
 case box x=>exact ⟨h.1,fun b hb=>hk _ _ (h.2 b hb)⟩
 case alloc z=>exact fun b hb=>hk _ _ (h b hb)
 case allocT T=>exact fun b hb=>hk _ _ (h b hb)
 case app e s bytes z x y=>
  split at h
  ·obtain ⟨h1,h2,h3,h4,h5,h6⟩:=h
   exact ⟨h1,h2,h3,h4,h5,h6.imp (fun h6 k' σ' hA=>hk _ _ (h6 k' σ' hA)) fun h6=>h6.imp (fun h6=>⟨h6.1,h6.2.1,fun b c hb hc=>hk _ _ (h6.2.2 b c hb hc)⟩) fun h6=>⟨h6.1,hk _ _ h6.2⟩⟩
  ·split at h
   ·obtain ⟨h1,h2,h3,h4,h5,h6,h7⟩:=h
    exact ⟨h1,h2,h3,h4,h5,fun hr=>⟨(h6 hr).1,hk _ _ (h6 hr).2⟩,fun hg b' c' hb hc=>hk _ _ (h7 hg b' c' hb hc)⟩
   ·exact h.elim
  ·split at h
   ·obtain ⟨h1,h2,h3,h4,h5,h6,h7⟩:=h
    exact ⟨h1,h2,h3,h4,h5,fun hr=>⟨(h6 hr).1,hk _ _ (h6 hr).2⟩,fun hg b' c' hb hc=>hk _ _ (h7 hg b' c' hb hc)⟩
   ·exact h.elim
  ·exact h.elim
 case cps x y=>
  split at h
  ·split at h
   ·exact ⟨h.1,h.2.1,hk _ _ h.2.2⟩
   ·exact h.elim
  ·exact h.elim
 case ovl x y=>
  split at h
  ·split at h
   ·exact ⟨h.1,hk _ _ h.2⟩
   ·exact h.elim
  ·exact h.elim
 case isn neg x=>
  split at h
  ·exact ⟨hk _ _ h.1,hk _ _ h.2⟩
  ·exact hk _ _ h
  ·exact hk _ _ h
  ·exact h.elim
 case apps e x y=>
  split at h
  ·obtain ⟨h1,h2,h6⟩:=h
   exact ⟨h1,h2,fun k' σ' hA=>hk _ _ (h6 k' σ' hA)⟩
  ·exact h.elim
 case call f args=>exact h.mono hk
 case callv x args=>
  split at h
  ·exact ⟨h.1,h.2.mono hk⟩
  ·exact h.elim
 case s2b x=>
  split at h
  ·exact h.imp (hk _ _) fun h b c hb hc=>hk _ _ (h b c hb hc)
  ·exact h.elim
 case s2r x=>
  split at h
  ·exact ⟨h.1,fun b c hb hc=>hk _ _ (h.2 b c hb hc)⟩
  ·exact h.elim
 case mks e bytes z n m=>
  split at h
  ·obtain ⟨h1,h2,h3,h4,h5⟩:=h
   exact ⟨h1,h2,h3,h4,h5.imp (fun h b hb=>hk _ _ (h b hb)) fun h=>⟨h.1,fun b hb=>hk _ _ (h.2 b hb)⟩⟩
  ·exact h.elim
 case mkb e bytes z n m=>
  split at h
  ·obtain ⟨h1,h2,h3,h4,h5⟩:=h
   exact ⟨h1,h2,h3,h4,fun b hb=>hk _ _ (h5 b hb)⟩
  ·exact h.elim
 case cpy x y=>
  split at h
  ·split at h
   ·exact ⟨h.1,hk _ _ h.2⟩
   ·exact h.elim
  ·exact h.elim
 case clr z x=>
  split at h
  ·split at h
   ·exact ⟨h.1,h.2.1,hk _ _ h.2.2⟩
   ·exact h.elim
  ·exact h.elim
 case appm s bytes z x m=>
  split at h
  ·split at h
   ·obtain ⟨h0,h1,h2,h3,h4,h5,h6⟩:=h
    exact ⟨h0,h1,h2,h3,h4,fun hr=>⟨(h5 hr).1,hk _ _ (h5 hr).2⟩,fun hg b' c' hb hc=>hk _ _ (h6 hg b' c' hb hc)⟩
   ·exact h.elim
  ·exact h.elim
 case mkm=>exact fun b hb=>hk _ _ (h b hb)
 case mkms=>exact fun b hb=>hk _ _ (h b hb)
 case mset x k v=>
  split at h
  ·split at h
   ·exact hk _ _ h
   ·exact h.elim
  ·exact h.elim
 case msets x k v=>
  split at h
  ·split at h
   ·exact hk _ _ h
   ·exact h.elim
  ·exact h.elim
 case mdel x k=>
  split at h
  ·split at h
   ·exact hk _ _ h
   ·exact h.elim
  ·exact h.elim
 case rng x=>
  split at h
  ·exact fun b hb=>hk _ _ (h b hb)
  ·exact h.elim
 case nxt x=>
  split at h
  ·split at h
   ·rename_i l p _
    by_cases hp:p<l.length
    ·rw [if_pos hp] at h ⊢;exact hk _ _ h
    ·rw [if_neg hp] at h ⊢;exact hk _ _ h
   ·exact h.elim
  ·exact h.elim
theorem opd_nils {X:Operand} (h:opd X=some (.v (.sl .full []))):X = .const (.slice none 0 0):=by
 cases X with
 | const v=>
   simp only [opd] at h
   cases h1:ofVal v with
   | none=>simp [h1] at h
   | some x=>
     simp only [h1,Option.map_some,Option.some.injEq,Opd.v.injEq] at h
     subst h
     unfold ofVal at h1
     split at h1
     ·rename_i cs
      cases h2:ofLeaves cs.toList<;>simp [h2] at h1
     ·unfold ofLeaf at h1
      split at h1<;>simp at h1
      rfl
 | tmp t=>simp [opd] at h
 | global g=>simp [opd] at h
 | func f=>simp [opd] at h
def ovlFn (P:Program) (f:FuncId):Bool:=
 match P.funcs[f]? with
 | some fn => fn.body.isNone && (fn.name == "slices.overlaps[uint64]" || fn.name == "slices.overlaps[int]") && fn.origin == "slices.overlaps" && (match fn.params.toList, fn.resultTypes.toList with
   | [t,u],[_]=>t==u && (match P.underlying t with
     | some (.slice e)=>(P.info? e).isSome
     | _=>false)
   | _,_=>false)
 | none=>false
def compE (P:Program) (o:Oper):Option EOp:=
 match o.op with
 | .store T p x=>match opd p,opd x,sizeT P T with
   | some p,some x,some n=>some (.store n p x)
   | _,_,_=>none
 | .box _ x=>(opd x).map .box
 | .alloc T=>match P.info? T with
   | some i=>match i.zero with
     | some (.agg ⟨[.pointer none,.slice none 0 0]⟩)=>some (.allocT T)
     | _=>match zeroT P T with
       | some z=>some (.alloc z.cells)
       | none=>none
   | none=>none
 | .call { callee := .builtin .append,args:=⟨[x,y]⟩,argTypes:=⟨[t,u]⟩ }=>match opd x,opd y,P.underlying t with
   | some x,some y,some (.slice e)=>match P.info? e,P.underlying u with
     | some i,some (.slice _)=>match i.zero with
       | some z=>if 0<i.size/\z.cells.size=i.size/\(ofVal z).isSome=true then some (.app e i.size i.bytes (((ofVal z).map AV.cells).getD []) x y) else none
       | none=>none
     | some i,some .string=>match i.zero with
       | some z=>if i.size=1/\i.bytes=1/\z.cells.size=1 then some (.apps e x y) else none
       | none=>none
     | some i,some (.int _)=>match i.zero with
       | some z=>if 0<i.size/\z.cells.size=i.size/\(ofVal z).isSome=true then some (.appm i.size i.bytes (((ofVal z).map AV.cells).getD []) x y) else none
       | none=>none
     | _,_=>none
   | _,_,_=>none
 | .call { callee := .builtin .copy,args:=⟨[x,y]⟩,argTypes:=⟨[t,u]⟩ }=>match opd x,opd y,P.underlying t with
   | some x,some y,some (.slice e)=>match P.info? e,P.underlying u with
     | some i,some .string=>if i.size=1 then some (.cpy x y) else none
     | some i,some (.slice _)=>if i.size=1 then some (.cps x y) else none
     | _,_=>none
   | _,_,_=>none
 | .call { callee := .builtin .clear,args:=⟨[x]⟩,argTypes:=⟨[t]⟩ }=>match opd x,P.underlying t with
   | some x,some (.slice e)=>match P.info? e with
     | some i=>match i.zero with
       | some z=>if (ofVal z).isSome=true then some (.clr (((ofVal z).map AV.cells).getD []) x) else none
       | none=>none
     | none=>none
   | _,_=>none
 | .call { callee := .value f,args:=args,argTypes:=_ }=>match f,opds args.toList with
   | .func f,some args=>if okFn P f then some (.call f args) else (match args with
     | [x,y]=>if ovlFn P f then some (.ovl x y) else none
     | _=>none)
   | x,some args=>(opd x).map fun x => .callv x args
   | _,_=>none
 | .convert s d x=>match opd x,P.underlying s,P.underlying d with
   | some x,some .string,some (.slice e)=>match P.underlying e with
     | some (.int .u8)=>some (.s2b x)
     | some (.int .i32)=>some (.s2r x)
     | _=>none
   | _,_,_=>none
 | .makeSlice t n m=>match P.underlying t,opd n,opd m with
   | some (.slice e),some n,some m=>match P.info? e,zeroT P e with
     | some i,some z=>if i.size=1/\z.cells.length=1/\z.isAny=false then some (.mks e i.bytes (z.cells.headD .any) n m) else if z.cells.length=i.size/\0<i.size/\z.isAny=false then some (.mkb e i.bytes z.cells n m) else none
     | _,_=>none
   | _,_,_=>none
 | .range t x=>match P.underlying t,opd x with
   | some .string,some x=>some (.rng x)
   | _,_=>none
 | .next x true=>(opd x).map .nxt
 | .makeMap T none=>if intMap P T then some .mkm else if strMap P T then some .mkms else none
 | .mapUpdate T m k v=>match opd m,opd k,opd v with
   | some m,some k,some v=>if intMap P T then some (.mset m k v) else if strMap P T then some (.msets m k v) else none
   | _,_,_=>none
 | .binOp op T x y _=>match opd x,opd y with
   | some x,some (.v (.sl .full []))=>if isEq op && isSlT P T then some (.isn (op == .neq) x) else none
   | _,_=>none
 | .call { callee := .builtin .delete,args:=⟨[x,y]⟩,argTypes:=⟨[t,_]⟩ }=>match opd x,opd y with
   | some x,some y=>if intMap P t then some (.mdel x y) else none
   | _,_=>none
 | .panic _=>some .dead
 | _=>none
section
variable {P:Program} {σ:ASt} {w:World}
structure Wrote (w w':World) (b:Nat) (c c':Array Value) (T:TypeId) (fr:Nat×Nat):Prop where
 os:w'.os=w.os
 tape:w'.tape=w.tape
 output:w'.output=w.output
 size:w'.heap.size=w.heap.size
 other:∀ x,x≠b->w'.heap[x]? = w.heap[x]?
 old:w.heap[b]? = some (.cells c T fr)
 new:w'.heap[b]? = some (.cells c' T fr)
 len:c'.size=c.size
theorem Wrote.setCell {b o:Nat} {c:Array Value} {T:TypeId} {fr:Nat×Nat} (h:w.heap[b]? = some (.cells c T fr)) (v:Value):Wrote w (w.setCell ⟨b,o,none⟩ v) b c (c.setIfInBounds o v) T fr where
 os:=rfl
 tape:=rfl
 output:=rfl
 size:=by simp [World.setCell]
 other x hx:=by simp only [World.setCell,Array.getElem?_modify];rw [if_neg (Ne.symm hx)]
 old:=h
 new:=by simp [World.setCell,Array.getElem?_modify,h]
 len:=by simp
theorem Wrote.trans {w1 w2 w3:World} {b:Nat} {c c' c'':Array Value} {T:TypeId} {fr:Nat×Nat} (h:Wrote w1 w2 b c c' T fr) (k:Wrote w2 w3 b c' c'' T fr):Wrote w1 w3 b c c'' T fr:=
 ⟨k.os.trans h.os,k.tape.trans h.tape,k.output.trans h.output,k.size.trans h.size,fun x hx=>(k.other x hx).trans (h.other x hx),h.old,k.new,k.len.trans h.len⟩
theorem Wrote.refl {b:Nat} {c:Array Value} {T:TypeId} {fr:Nat×Nat} (h:w.heap[b]? = some (.cells c T fr)):Wrote w w b c c T fr:=
 ⟨rfl,rfl,rfl,rfl,fun _ _=>rfl,h,h,rfl⟩
theorem Wrote.setCells {b:Nat} {T:TypeId} {fr:Nat×Nat}:∀ (vs:List Value) (o:Nat) (w:World) (cs:List Value),w.heap[b]? = some (.cells ⟨cs⟩ T fr)->o+vs.length<=cs.length →
  Wrote w (w.setCells b o vs) b ⟨cs⟩ ⟨cs.take o++vs++cs.drop (o+vs.length)⟩ T fr
 | [],o,w,cs,h,hl=>by
   have:cs.take o ++ []++cs.drop (o+([]:List Value).length)=cs:=by simp
   rw [this]
   exact Wrote.refl h
 | v::vs,o,w,cs,h,hl=>by
   simp only [List.length_cons] at hl
   have h1:=Wrote.setCell (w:=w) (o:=o) h v
   have h2:=Wrote.setCells vs (o+1) (w.setCell ⟨b,o,none⟩ v) (cs.set o v) (by have:=h1.new;simpa using this) (by simp;omega)
   have e:(cs.set o v).take (o+1)++vs++(cs.set o v).drop (o+1+vs.length)=cs.take o++(v::vs)++cs.drop (o+(v::vs).length):=by
    have hlt:o<cs.length:=by omega
    rw [List.take_set,List.drop_set,if_pos (by omega),List.take_succ_eq_append_getElem hlt,List.set_append_right _ _ (by simp;omega)]
    simp [Nat.min_eq_left (Nat.le_of_lt hlt),Nat.add_assoc,Nat.add_comm 1]
   rw [e] at h2
   have h1':Wrote w (w.setCell ⟨b,o,none⟩ v) b ⟨cs⟩ ⟨cs.set o v⟩ T fr:=by simpa using h1
   exact h1'.trans h2
section
variable {w':World} {b:Nat} {c c':Array Value} {T:TypeId} {fr:Nat×Nat} (hw:Wrote w w' b c c' T fr)
include hw
theorem Wrote.frozen (x o:Nat):w'.frozen? ⟨x,o,none⟩=w.frozen? ⟨x,o,none⟩:=by
 by_cases hx:x=b
 ·subst hx;simp only [World.frozen?,hw.old,hw.new]
 ·exact frozen_of_heap_eq (hw.other x hx) o
theorem Wrote.le_obj {cs:List AV} (hb:σ b=some (.obj cs)) (r:Option Role):Le σ w (σ.set b r) w' where
 os:=hw.os
 tape:=hw.tape
 output:=hw.output
 size:=by rw [hw.size];exact Nat.le_refl _
 keep x hx hn:=by
  have hne:x≠b:=by rintro rfl;rw [hb] at hn;cases hn
  rw [ASt.set_ne hne]
  exact ⟨hn,hw.other x hne⟩
 fix x cs hx hn:=by
  have hne:x≠b:=by rintro rfl;rw [hb] at hn;cases hn
  rw [ASt.set_ne hne]
  exact ⟨.inr hn,hw.other x hne⟩
 tok x f hx hn:=by
  have hne:x≠b:=by rintro rfl;rw [hb] at hn;cases hn
  rw [ASt.set_ne hne]
  exact ⟨.inr ⟨f,Nat.le_refl _,hn⟩,shape_of_heap_eq (hw.other x hne),fun o _=>cell_of_heap_eq (hw.other x hne) o⟩
theorem Wrote.le_tok {f f':Nat} (hb:σ b=some (.tok f)) (hf:f<=f') (hc:∀ o,o<f->c'[o]? = c[o]?):Le σ w (σ.set b (some (.tok f'))) w' where
 os:=hw.os
 tape:=hw.tape
 output:=hw.output
 size:=by rw [hw.size];exact Nat.le_refl _
 keep x hx hn:=by
  have hne:x≠b:=by rintro rfl;rw [hb] at hn;cases hn
  rw [ASt.set_ne hne]
  exact ⟨hn,hw.other x hne⟩
 fix x cs hx hn:=by
  have hne:x≠b:=by rintro rfl;rw [hb] at hn;cases hn
  rw [ASt.set_ne hne]
  exact ⟨.inr hn,hw.other x hne⟩
 tok x g hx hn:=by
  by_cases hne:x=b
  ·subst hne
   rw [hb] at hn
   injection hn with hn
   injection hn with hn
   subst hn
   rw [ASt.set_same]
   refine ⟨.inr ⟨f',hf,rfl⟩,?_,fun o ho=>?_⟩
   ·simp only [World.shape?,hw.old,hw.new,hw.len]
   ·simp only [World.cell?,hw.old,hw.new,Option.isSome_none,Bool.false_eq_true,if_false]
    exact hc o ho
  ·rw [ASt.set_ne hne]
   exact ⟨.inr ⟨g,Nat.le_refl _,hn⟩,shape_of_heap_eq (hw.other x hne),fun o _=>cell_of_heap_eq (hw.other x hne) o⟩
theorem Wrote.sim {r:Role} (hs:Sim σ w) (hl:Le σ w (σ.set b (some r)) w') (hr:RoleOk (σ.set b (some r)) w' b r):Sim (σ.set b (some r)) w':=by
 intro x q hx
 by_cases hne:x=b
 ·subst hne
  rw [ASt.set_same] at hx
  injection hx with hx
  subst hx
  exact hr
 ·rw [ASt.set_ne hne] at hx
  exact (hs x q hx).keep hl (hw.other x hne)
end
end
end Go.A
namespace Go.A
section
variable {P:Program} {σ:ASt} {w:World}
theorem leaves_one:∀ {xs:List AV} {vs:List Value},Reps σ w xs vs->leaves xs=true->∀ v∈vs,v.oneCell'=true
 | _,_,.nil,_,v,hv=>by cases hv
 | _,_,.cons h1 h2,hl,v,hv=>by
   simp only [leaves,Bool.and_eq_true] at hl
   rcases List.mem_cons.1 hv with rfl|hv
   ·cases h1<;>first|rfl|(simp [AV.leaf] at hl)
   ·exact leaves_one h2 hl.2 v hv
theorem leaf_not_any {x:AV} (h:leaves x.cells=true):x ≠ .any:=by
 rintro rfl
 simp [AV.cells,leaves,AV.leaf] at h
def Goes (P:Program) (o:Oper) (act:Act) (σ:ASt) (w:World) (K:AV->ASt->Prop) (next:Act->World->Prop) (Q:Exit->Act->World->Prop):Prop:=
 (∀ v σ' u w',K v σ'->Le σ w σ' w'->Sim σ' w'->Rep σ' w' v u->next (act.put o.dst u) w')->o.wp P act w next Q
theorem splice_rep {cs:List AV} {us:List Value} (h:Reps σ w cs us) {xs:List AV} {vs:List Value} (hx:Reps σ w xs vs) (o:Nat):Reps σ w (splice cs o xs.length xs) (us.take o++vs++us.drop (o+vs.length)):=by
 unfold splice
 rw [hx.length]
 exact ((h.take o).append hx).append (h.drop _)
theorem splice_take {cs:List AV} {cc:List Value} {xs:List AV} {vs:List Value} {off:Nat} (h:Reps σ w cs (cc.take cs.length)) (hx:Reps σ w xs vs) (hfit:off+xs.length<=cs.length) :
  Reps σ w (splice cs off xs.length xs) ((cc.take off++vs++cc.drop (off+vs.length)).take (splice cs off xs.length xs).length):=by
 have hcl:cs.length<=cc.length:=by have:=h.length;simp at this;omega
 have hsz:vs.length=xs.length:=hx.length.symm
 have hlen:(splice cs off xs.length xs).length=cs.length:=by simp [splice];omega
 rw [hlen]
 have e:(cc.take off++vs++cc.drop (off+vs.length)).take cs.length=(cc.take cs.length).take off++vs++(cc.take cs.length).drop (off+vs.length):=by
  apply List.ext_getElem?
  intro j
  simp only [List.getElem?_take,List.getElem?_append,List.length_take,List.length_append,List.getElem?_drop,hsz]
  split<;>split<;>(try split)<;>(try split)<;>(try split)<;>(try split)<;>(try omega)<;>(try rfl)<;>(first|(congr 1;omega)|(simp;omega)|skip)
 rw [e]
 exact splice_rep h hx off
theorem goes_store {T:TypeId} {p x:Operand} {n:Nat} {o:Oper} {act:Act} {next:Act->World->Prop} {Q:Exit->Act->World->Prop} {K:AV->ASt->Prop} (ho:o.op = .store T p x) (hn:sizeT P T=some n) (hs:Sim σ w)
  {b off:Nat} (hp:act.eval p = .pointer (some ⟨b,off,none⟩)) {y:AV} (hy:Rep σ w y (act.eval x)) {cs:List AV} (hb:σ b=some (.obj cs)) (hl:leaves y.cells=true) (hyl:y.cells.length=n) (hfit:off+n<=cs.length)
  (hK:K .any (σ.set b (some (.obj (splice cs off n y.cells))))):Goes P o act σ w K next Q:=by
 intro hnext
 obtain ⟨i,hi,his⟩:=sizeT_spec hn
 obtain ⟨⟨c⟩,T',fr,h1,h2,h3⟩:=hs b _ hb
 have hyc:=hy.cells (leaf_not_any hl)
 have hsz:(act.eval x).cells.toList.length=n:=by rw [<-hyc.length,hyl]
 have hcl:cs.length<=c.length:=by have:=h2.length;simp at this;omega
 have hst:=run_storeCells_cells (P:=P) b off (act.eval x).cells.toList 0 w (fun j hj=>by
   simp only [World.cell?,h1,Nat.add_zero,Option.isSome_none,Bool.false_eq_true,if_false]
   rw [Array.getElem?_eq_getElem (by simp;omega)]
   rfl) (fun j hj=>h3 _ (by simp;omega)) (leaves_one hyc hl)
 have hwr:=Wrote.setCells (act.eval x).cells.toList off w c h1 (by omega)
 have hle:=hwr.le_obj hb (some (.obj (splice cs off n y.cells)))
 have hrun:(execOp act.eval o).run P w = .ok .skip (w.setCells b off (act.eval x).cells.toList):=by
  simp only [execOp,ho,Sem.run_bind]
  unfold Instr.storeAt
  rw [hp,Sem.run_bind,run_sureAddr]
  simp only [Result.andThen]
  unfold storeVar
  rw [Sem.run_bind,run_so hi]
  simp only [Result.andThen]
  rw [if_neg (by simp;rw [<-Array.length_toList,hsz,his])]
  rw [hst]
  rfl
 have h2':=h2.mono hle
 have hsim:=hwr.sim hs hle ⟨_,_,_,hwr.new,by
  have:=splice_rep h2' (hyc.mono hle) off
  rw [hyl] at this
  have hlen:(splice cs off n y.cells).length=cs.length:=by simp [splice,hyl];omega
  rw [hlen]
  have e:(c.take off++(act.eval x).cells.toList++c.drop (off+(act.eval x).cells.toList.length)).take cs.length=(c.take cs.length).take off++(act.eval x).cells.toList++(c.take cs.length).drop (off+(act.eval x).cells.toList.length):=by
   apply List.ext_getElem?
   intro j
   simp only [List.getElem?_take,List.getElem?_append,List.length_take,List.length_append,List.getElem?_drop,hsz]
   split<;>split<;>(try split)<;>(try split)<;>(try split)<;>(try split)<;>(try omega)<;>(try rfl)<;>(first|(congr 1;omega)|(simp;omega)|skip)
  show Reps _ _ _ ((c.take off++(act.eval x).cells.toList++c.drop (off+(act.eval x).cells.toList.length)).take cs.length)
  rw [e]
  exact this,fun j hj=>by rw [hwr.frozen];exact h3 j (by have:=hwr.len;omega)⟩
 unfold Oper.wp
 rw [hrun]
 exact hnext _ _ _ _ hK hle hsim (.any _)
theorem new_role {w':World} {ob:Obj} (hp:Pushed w w' ob) (hs:Sim σ w) {r:Role} (hr:∀ {σ':ASt},Le σ w σ' w'->RoleOk σ' w' w.heap.size r) :
  Le σ w (σ.set w.heap.size (some r)) w'/\Sim (σ.set w.heap.size (some r)) w'/\σ w.heap.size=none:=by
 have hle:Le σ w (σ.set w.heap.size (some r)) w':=hp.le fun b hb=>by rw [ASt.set_ne (by omega)]
 refine ⟨hle,fun x q hx=>?_,hs.fresh (Nat.le_refl _)⟩
 by_cases hne:x=w.heap.size
 ·subst hne
  rw [ASt.set_same] at hx
  injection hx with hx
  subst hx
  exact hr hle
 ·rw [ASt.set_ne hne] at hx
  exact (hs x q hx).keep hle (hp.old (hs.lt hx))
theorem new_obj {o:Obj} {w':World} {c:List Value} {T:TypeId} (hp:Pushed w w' (.cells ⟨c⟩ T)) (hs:Sim σ w) {cs:List AV} (hr:Reps σ w cs c) :
  Le σ w (σ.set w.heap.size (some (.obj cs))) w'/\Sim (σ.set w.heap.size (some (.obj cs))) w'/\σ w.heap.size=none:=
 new_role hp hs fun hle=>⟨⟨c⟩,T,(0,0),hp.new,by
  rw [hr.length,List.take_length];exact hr.mono hle,fun o _=>by
  simp only [World.frozen?,hp.new]
  simp⟩
theorem new_typ {w':World} {c:List Value} {T:TypeId} (hp:Pushed w w' (.cells ⟨c⟩ T)) (hs:Sim σ w) :
  Le σ w (σ.set w.heap.size (some (.typ T c))) w'/\Sim (σ.set w.heap.size (some (.typ T c))) w'/\σ w.heap.size=none:=
 new_role hp hs fun hle=>hp.new
theorem goes_s2b {T D e:TypeId} {x:Operand} {o:Oper} {act:Act} {next:Act->World->Prop} {Q:Exit->Act->World->Prop} {K:AV->ASt->Prop} (ho:o.op = .convert T D x) (hT:P.underlying T=some .string) (hD:P.underlying D=some (.slice e))
  (he:P.underlying e=some (.int .u8)) (hs:Sim σ w) {l:List UInt8} (hx:act.eval x = .string ⟨⟨l⟩⟩)
  (hK:K (.sl .shr (l.map fun c => .int .u8 c.toNat)) σ\/∀ b c,σ b=none->l.length<=c->K (.msl b 0 l.length c) (σ.set b (some (.obj (l.map fun c => .int .u8 c.toNat))))):Goes P o act σ w K next Q:=by
 intro hnext
 rcases hK with hK|hK
 ·obtain ⟨u,w',h1,h2,h3,h4⟩:=ok_s2b (P:=P) hT hD he l hs
  have hrun:(execOp act.eval o).run P w = .ok (.value u) w':=by
   simp only [execOp,ho,hx]
   exact run_value h1
  unfold Oper.wp
  rw [hrun]
  exact hnext _ _ _ _ hK h2 h3 h4
 ·have h:=run_bytes_of_string (P:=P) w T D e ⟨⟨l⟩⟩ hT hD he
  have hp:=Pushed.drew w (.cells (bytesRow ⟨⟨l⟩⟩ (grownCap w l.length 0 e)) e ((bytesRow ⟨⟨l⟩⟩ (grownCap w l.length 0 e)).size,(bytesRow ⟨⟨l⟩⟩ (grownCap w l.length 0 e)).size+1))
  obtain ⟨h1,h2,h3⟩:=new_role hp hs (r := .obj (l.map fun c => .int .u8 c.toNat)) fun hle=>⟨_,_,_,hp.new,by
   have:((bytesRow ⟨⟨l⟩⟩ (grownCap w l.length 0 e)).toList.take (l.map fun c=>AV.int .u8 c.toNat).length)=l.map fun c=>Value.int .u8 c.toNat:=by
    unfold bytesRow
    simp
   rw [this]
   exact Reps.bytes l,fun o ho=>by
   simp only [World.frozen?,hp.new]
   simp
   omega⟩
  have hrun:(execOp act.eval o).run P w = .ok (.value (.slice (some ⟨w.heap.size,0,none⟩) l.length (grownCap w l.length 0 e))) (w.drew.alloc (.cells (bytesRow ⟨⟨l⟩⟩ (grownCap w l.length 0 e)) e ((bytesRow ⟨⟨l⟩⟩ (grownCap w l.length 0 e)).size,(bytesRow ⟨⟨l⟩⟩ (grownCap w l.length 0 e)).size+1))):=by
   simp only [execOp,ho,hx]
   exact run_value h
  unfold Oper.wp
  rw [hrun]
  exact hnext _ _ _ _ (hK _ _ h3 (grownCap_ge _ _ _ _)) h1 h2 (.msl _ _ _ _)
theorem goes_s2r {T D e:TypeId} {x:Operand} {o:Oper} {act:Act} {next:Act->World->Prop} {Q:Exit->Act->World->Prop} {K:AV->ASt->Prop} (ho:o.op = .convert T D x) (hT:P.underlying T=some .string) (hD:P.underlying D=some (.slice e))
  (he:P.underlying e=some (.int .i32)) (hs:Sim σ w) {l:List UInt8} (hx:act.eval x = .string ⟨⟨l⟩⟩) (hl:l.length<=70368744177664)
  (hK:∀ b c,σ b=none->(runesOf l).length<=c->K (.msl b 0 (runesOf l).length c) (σ.set b (some (.obj ((runesOf l).map (AV.int .i32)))))):Goes P o act σ w K next Q:=by
 intro hnext
 have hz:Conv.runesFrom (⟨⟨l⟩⟩:ByteArray) (⟨⟨l⟩⟩:ByteArray).size 0 #[]=((runesOf l).map (Value.int .i32)).toArray:=by
  rw [runesZ_spec]
  apply Array.ext'
  simp [runesOf]
  rfl
 have hsz:(Conv.runesFrom (⟨⟨l⟩⟩:ByteArray) (⟨⟨l⟩⟩:ByteArray).size 0 #[]).size=(runesOf l).length:=by rw [hz];simp
 have h:=run_runes_of_string (P:=P) w T D e ⟨⟨l⟩⟩ hT hD he (by rw [hsz];have:=runesOf_len l;omega)
 rw [hsz,hz] at h
 have hp:=Pushed.drew w (.cells (((runesOf l).map (Value.int .i32)).toArray++Array.replicate (grownCap w (runesOf l).length 0 e-(runesOf l).length) (Value.int .i32 0)) e)
 obtain ⟨h1,h2,h3⟩:=new_role hp hs (r := .obj ((runesOf l).map (AV.int .i32))) fun hle=>⟨_,_,_,hp.new,by
  have:((((runesOf l).map (Value.int .i32)).toArray++Array.replicate (grownCap w (runesOf l).length 0 e-(runesOf l).length) (Value.int .i32 0)).toList.take ((runesOf l).map (AV.int .i32)).length)=(runesOf l).map (Value.int .i32):=by
   simp
  rw [this]
  exact reps_kints _ _,fun o ho=>by
  simp only [World.frozen?,hp.new]
  simp⟩
 have hrun:(execOp act.eval o).run P w = .ok (.value (.slice (some ⟨w.heap.size,0,none⟩) (runesOf l).length (grownCap w (runesOf l).length 0 e))) (w.drew.alloc (.cells (((runesOf l).map (Value.int .i32)).toArray++Array.replicate (grownCap w (runesOf l).length 0 e-(runesOf l).length) (Value.int .i32 0)) e)):=by
  simp only [execOp,ho,hx]
  exact run_value h
 unfold Oper.wp
 rw [hrun]
 exact hnext _ _ _ _ (hK _ _ h3 (grownCap_ge _ _ _ _)) h1 h2 (.msl _ _ _ _)
theorem goes_mks {T e:TypeId} {n m:Operand} {i:TypeInfo} {z:AV} {o:Oper} {act:Act} {next:Act->World->Prop} {Q:Exit->Act->World->Prop} {K:AV->ASt->Prop} (ho:o.op = .makeSlice T n m) (hT:P.underlying T=some (.slice e)) (hi:P.info? e=some i)
  (hz:zeroT P e=some z) (h1:i.size=1) (hzl:z.cells.length=1) (hza:z.isAny=false) (hs:Sim σ w) {k k':IntKind} {N M:Int} (hn:act.eval n = .int k N) (hm:act.eval m = .int k' M)
  (h0:0<=N) (hNM:N<=M) (hM:M<=4611686018427387904) (hb:(i.bytes:Int)*M<=281474976710656)
  (hK:(∀ b,σ b=none->K (.msl b 0 N.toNat M.toNat) (σ.set b (some (.obj (List.replicate M.toNat (z.cells.headD .any))))))\/(N=0/\∀ b,σ b=none->K (.sl (.tok b 1 e) []) (σ.set b (some (.tok 0))))):Goes P o act σ w K next Q:=by
 intro hnext
 obtain ⟨i',v,hi',hv,hof⟩:=zeroT_spec hz
 rw [hi] at hi'
 injection hi' with hi'
 subst hi'
 have hzr:=ofVal_rep (σ:=σ) (w:=w) hof
 have hyc:=hzr.cells (by rintro rfl;cases hza)
 obtain ⟨x,hx⟩:∃ x,z.cells = [x]:=by
  match hzc:z.cells,hzl with
  | [x],_=>exact ⟨x,rfl⟩
 rw [hx] at hyc
 obtain ⟨u,hu,hxr⟩:∃ u,v.cells.toList = [u]/\Rep σ w x u:=by
  generalize v.cells.toList=cs at hyc
  cases hyc with
  | cons h3 h4=>cases h4;exact ⟨_,rfl,h3⟩
 have hvc:v.cells = #[u]:=by apply Array.ext';simpa using hu
 have hrun:=run_make (P:=P) w T e i v hT hi hv k k' N M h0 hNM hb (by omega)
 have hmade:(madeCells v.cells (M.toNat*i.size)).toList=List.replicate M.toNat u:=by
  rw [h1,Nat.mul_one,hvc]
  unfold madeCells
  apply List.ext_getElem?
  intro j
  by_cases hj:j<M.toNat
  ·simp [hj,Nat.mod_one]
  ·simp [hj]
 have hp:Pushed w (w.alloc (.cells (madeCells v.cells (M.toNat*i.size)) e)) _:=Pushed.alloc w _
 have hrun':(execOp act.eval o).run P w = .ok (.value (.slice (some ⟨w.heap.size,0,none⟩) N.toNat M.toNat)) (w.alloc (.cells (madeCells v.cells (M.toNat*i.size)) e)):=by
  simp only [execOp,ho,hn,hm]
  exact run_value hrun
 have hmsz:(madeCells v.cells (M.toNat*i.size)).size=M.toNat:=by rw [<-Array.length_toList,hmade];simp
 rcases hK with hK|⟨rfl,hK⟩
 ·obtain ⟨h2,h3,h4⟩:=new_role hp hs (r := .obj (List.replicate M.toNat (z.cells.headD .any))) fun hle=>⟨_,_,_,hp.new,by
   rw [hmade,hx]
   simp only [List.length_replicate,List.take_replicate,Nat.min_self,List.headD_cons]
   have:∀ n,Reps σ w (List.replicate n x) (List.replicate n u):=by
    intro n
    induction n with
    | zero=>exact .nil
    | succ n ih=>exact .cons hxr ih
   exact (this _).mono hle,fun o _=>by
   simp only [World.frozen?,hp.new]
   simp⟩
  unfold Oper.wp
  rw [hrun']
  exact hnext _ _ _ _ (hK _ h4) h2 h3 (.msl _ _ _ _)
 ·obtain ⟨h2,h3,h4⟩:=new_role hp hs (r := .tok 0) fun hle=>⟨_,_,_,hp.new,Nat.zero_le _,Nat.le_refl _⟩
  unfold Oper.wp
  rw [hrun']
  refine hnext _ _ _ _ (hK _ h4) h2 h3 (.sl (sz:=1) (.nil _ _ _) rfl (Nat.zero_le _) ⟨rfl,rfl,rfl,?_,fun cs hcs=>?_,fun l p hcs=>?_,fun T2 cs2 hcs2=>(by rw [ASt.set_same] at hcs2;cases hcs2),fun l2 hcs2=>(by rw [ASt.set_same] at hcs2;cases hcs2),fun l2 hcs2=>by rw [ASt.set_same] at hcs2;cases hcs2⟩ (by rw [hp.size];omega))
  ·simp only [World.shape?,hp.new,Option.map_some,hmsz,Nat.mul_one]
  ·rw [ASt.set_same] at hcs;cases hcs
  ·rw [ASt.set_same] at hcs;cases hcs
theorem flatten_get {α:Type} {l:List α} (h:0<l.length):∀ (m j:Nat),j<m*l.length->(List.replicate m l).flatten[j]? = l[j % l.length]?
 | 0,j,hj=>by omega
 | m+1,j,hj=>by
   rw [List.replicate_succ,List.flatten_cons]
   by_cases hlt:j<l.length
   ·rw [List.getElem?_append_left hlt,Nat.mod_eq_of_lt hlt]
   ·rw [List.getElem?_append_right (by omega),flatten_get h m (j-l.length) (by rw [Nat.add_mul] at hj;omega),← Nat.mod_eq_sub_mod (by omega)]
theorem flatten_len {α:Type} {l:List α} (m:Nat):(List.replicate m l).flatten.length=m*l.length:=by
 induction m with
 | zero=>simp
 | succ m ih=>rw [List.replicate_succ,List.flatten_cons,List.length_append,ih,Nat.add_mul];omega
theorem Reps.flatten {σ:ASt} {w:World} {as:List AV} {vs:List Value} (h:Reps σ w as vs):∀ m,Reps σ w (List.replicate m as).flatten (List.replicate m vs).flatten
 | 0 => .nil
 | m+1=>by rw [List.replicate_succ,List.replicate_succ,List.flatten_cons,List.flatten_cons];exact h.append (Reps.flatten h m)
theorem goes_mkb {T e:TypeId} {n m:Operand} {i:TypeInfo} {z:AV} {o:Oper} {act:Act} {next:Act->World->Prop} {Q:Exit->Act->World->Prop} {K:AV->ASt->Prop} (ho:o.op = .makeSlice T n m) (hT:P.underlying T=some (.slice e)) (hi:P.info? e=some i)
  (hz:zeroT P e=some z) (hzl:z.cells.length=i.size) (hpos:0<i.size) (hza:z.isAny=false) (hs:Sim σ w) {k k':IntKind} {N M:Int} (hn:act.eval n = .int k N) (hm:act.eval m = .int k' M)
  (h0:0<=N) (hNM:N<=M) (hM:M<=4611686018427387904) (hb:(i.bytes:Int)*M<=281474976710656)
  (hK:∀ b,σ b=none->K (.msl b 0 N.toNat M.toNat) (σ.set b (some (.obj (List.replicate M.toNat z.cells).flatten)))):Goes P o act σ w K next Q:=by
 intro hnext
 obtain ⟨i',v,hi',hv,hof⟩:=zeroT_spec hz
 rw [hi] at hi'
 injection hi' with hi'
 subst hi'
 have hzr:=ofVal_rep (σ:=σ) (w:=w) hof
 have hyc:=hzr.cells (by rintro rfl;cases hza)
 have hvl:v.cells.toList.length=i.size:=by rw [<-hyc.length];exact hzl
 have hrun:=run_make (P:=P) w T e i v hT hi hv k k' N M h0 hNM hb (by omega)
 have hmade:(madeCells v.cells (M.toNat*i.size)).toList=(List.replicate M.toNat v.cells.toList).flatten:=by
  have hvs:v.cells.size=i.size:=by simpa using hvl
  unfold madeCells
  apply List.ext_getElem?
  intro j
  by_cases hj:j<M.toNat*i.size
  ·rw [flatten_get (by omega) _ _ (by rw [hvl];exact hj),hvl]
   have hm:j % i.size<v.cells.size:=by rw [hvs];exact Nat.mod_lt _ hpos
   simp [hj,hvs,hm]
   rw [getElem!_pos v.cells (j % i.size) hm,Array.getElem?_eq_getElem hm]
  ·rw [List.getElem?_eq_none (by simp;omega),List.getElem?_eq_none (by rw [flatten_len,hvl];omega)]
 have hp:Pushed w (w.alloc (.cells (madeCells v.cells (M.toNat*i.size)) e)) _:=Pushed.alloc w _
 have hrun':(execOp act.eval o).run P w = .ok (.value (.slice (some ⟨w.heap.size,0,none⟩) N.toNat M.toNat)) (w.alloc (.cells (madeCells v.cells (M.toNat*i.size)) e)):=by
  simp only [execOp,ho,hn,hm]
  exact run_value hrun
 obtain ⟨h2,h3,h4⟩:=new_role hp hs (r := .obj (List.replicate M.toNat z.cells).flatten) fun hle=>⟨_,_,_,hp.new,by
  rw [hmade,List.take_of_length_le (by rw [flatten_len,flatten_len,hvl,hzl];exact Nat.le_refl _)]
  exact (hyc.flatten _).mono hle,fun o _=>by
  simp only [World.frozen?,hp.new]
  simp⟩
 unfold Oper.wp
 rw [hrun']
 exact hnext _ _ _ _ (hK _ h4) h2 h3 (.msl _ _ _ _)
theorem goes_rng {T:TypeId} {x:Operand} {o:Oper} {act:Act} {next:Act->World->Prop} {Q:Exit->Act->World->Prop} {K:AV->ASt->Prop} (ho:o.op = .range T x) (hT:P.underlying T=some .string) (hs:Sim σ w) {l:List UInt8} (hx:act.eval x = .string ⟨⟨l⟩⟩)
  (hK:∀ b,σ b=none->K (.ptr b 0) (σ.set b (some (.iter l 0)))):Goes P o act σ w K next Q:=by
 intro hnext
 have hp:Pushed w (w.alloc (.stringIter ⟨⟨l⟩⟩ 0)) _:=Pushed.alloc w _
 obtain ⟨h1,h2,h3⟩:=new_role hp hs (r := .iter l 0) fun hle=>hp.new
 have hrun:(execOp act.eval o).run P w = .ok (.value (.pointer (some ⟨w.heap.size,0,none⟩))) (w.alloc (.stringIter ⟨⟨l⟩⟩ 0)):=by
  simp only [execOp,ho,hx]
  refine run_value ?_
  unfold Instr.range
  rw [Sem.run_bind,run_und hT]
  simp [Result.andThen]
 unfold Oper.wp
 rw [hrun]
 exact hnext _ _ _ _ (hK _ h3) h1 h2 (.ptr _ _)
theorem goes_nxt {x:Operand} {o:Oper} {act:Act} {next:Act->World->Prop} {Q:Exit->Act->World->Prop} {K:AV->ASt->Prop} (ho:o.op = .next x true) (hs:Sim σ w) {b:Nat} (hx:act.eval x = .pointer (some ⟨b,0,none⟩)) {l:List UInt8} {p:Nat} (hb:σ b=some (.iter l p))
  (hK:if p<l.length then K (.tuple [.bool true,.int .i64 p,.int .i32 (Utf8.decode ⟨⟨l⟩⟩ p).1]) (σ.set b (some (.iter l (p+(Utf8.decode ⟨⟨l⟩⟩ p).2)))) else K (.tuple [.bool false]) σ):Goes P o act σ w K next Q:=by
 intro hnext
 have hr:w.heap[b]? = some (.stringIter ⟨⟨l⟩⟩ p):=hs b _ hb
 by_cases hp:p<l.length
 ·rw [if_pos hp] at hK
  have hrun:(execOp act.eval o).run P w = .ok (.value (.tuple #[.bool true,goInt p,.int .i32 (Utf8.decode ⟨⟨l⟩⟩ p).1])) { w with heap:=w.heap.setIfInBounds b (.stringIter ⟨⟨l⟩⟩ (p+(Utf8.decode ⟨⟨l⟩⟩ p).2)) }:=by
   simp only [execOp,ho,hx]
   refine run_value ?_
   have:p<(⟨⟨l⟩⟩:ByteArray).size:=by simpa [ByteArray.size] using hp
   simp [Instr.next,getObj,setObj,Sem.run_bind,Sem.run,hr,Result.andThen,this,pure]
  have hlt:=(Array.getElem?_eq_some_iff.1 hr).1
  have hle:Le σ w (σ.set b (some (.iter l (p+(Utf8.decode ⟨⟨l⟩⟩ p).2)))) { w with heap:=w.heap.setIfInBounds b (.stringIter ⟨⟨l⟩⟩ (p+(Utf8.decode ⟨⟨l⟩⟩ p).2)) }:=by
   have hoth:∀ x,x≠b->(w.heap.setIfInBounds b (.stringIter ⟨⟨l⟩⟩ (p+(Utf8.decode ⟨⟨l⟩⟩ p).2)))[x]? = w.heap[x]? := fun x hx=>by
    rw [Array.getElem?_setIfInBounds_ne (Ne.symm hx)]
   refine ⟨rfl,rfl,rfl,by simp,fun x hx hn=>?_,fun x cs hx hn=>?_,fun x f hx hn=>?_⟩
   ·have hne:x≠b:=by rintro rfl;rw [hb] at hn;cases hn
    rw [ASt.set_ne hne];exact ⟨hn,hoth x hne⟩
   ·have hne:x≠b:=by rintro rfl;rw [hb] at hn;cases hn
    rw [ASt.set_ne hne];exact ⟨.inr hn,hoth x hne⟩
   ·have hne:x≠b:=by rintro rfl;rw [hb] at hn;cases hn
    rw [ASt.set_ne hne]
    exact ⟨.inr ⟨f,Nat.le_refl _,hn⟩,shape_of_heap_eq (hoth x hne),fun o _=>cell_of_heap_eq (hoth x hne) o⟩
  have hsim:Sim (σ.set b (some (.iter l (p+(Utf8.decode ⟨⟨l⟩⟩ p).2)))) { w with heap:=w.heap.setIfInBounds b (.stringIter ⟨⟨l⟩⟩ (p+(Utf8.decode ⟨⟨l⟩⟩ p).2)) }:=by
   intro x q hx
   by_cases hne:x=b
   ·subst hne
    rw [ASt.set_same] at hx
    injection hx with hx
    subst hx
    simp [RoleOk,hlt]
   ·rw [ASt.set_ne hne] at hx
    exact (hs x q hx).keep hle (by simp [Array.getElem?_setIfInBounds_ne (Ne.symm hne)])
  unfold Oper.wp
  rw [hrun]
  exact hnext _ _ _ _ hK hle hsim (.tuple (.cons (.bool _) (.cons (.int _ _) (.cons (.int _ _) .nil))))
 ·rw [if_neg hp] at hK
  have hrun:(execOp act.eval o).run P w = .ok (.value (.tuple #[.bool false])) w:=by
   simp only [execOp,ho,hx]
   refine run_value ?_
   have:¬ p<(⟨⟨l⟩⟩:ByteArray).size:=by simpa [ByteArray.size] using hp
   simp [Instr.next,getObj,Sem.run_bind,Sem.run,hr,Result.andThen,this,pure]
  unfold Oper.wp
  rw [hrun]
  exact hnext _ _ _ _ hK (Le.refl _ _) hs (.tuple (.cons (.bool _) .nil))
theorem goes_box {T:TypeId} {x:Operand} {o:Oper} {act:Act} {next:Act->World->Prop} {Q:Exit->Act->World->Prop} {K:AV->ASt->Prop} (ho:o.op = .box T x) (hs:Sim σ w) {y:AV} (hy:Rep σ w y (act.eval x)) (ha:y.isAny=false)
  (hK:∀ b,σ b=none->K (.ptr b 0) (σ.set b (some (.obj y.cells)))):Goes P o act σ w K next Q:=by
 intro hnext
 have hyc:=hy.cells (by rintro rfl;cases ha)
 have hp:Pushed w (w.alloc (.cells (act.eval x).cells T)) (.cells ⟨(act.eval x).cells.toList⟩ T):=Pushed.alloc w _
 obtain ⟨h1,h2,h3⟩:=new_obj (o := .cells #[] T) hp hs hyc
 have hrun:(execOp act.eval o).run P w = .ok (.value (.pointer (some ⟨w.heap.size,0,none⟩))) (w.alloc (.cells (act.eval x).cells T)):=by
  simp only [execOp,ho]
  exact run_value (by simp [Instr.box,newVar,newRow])
 unfold Oper.wp
 rw [hrun]
 exact hnext _ _ _ _ (hK _ h3) h1 h2 (.ptr _ _)
theorem goes_alloc {T:TypeId} {z:AV} {o:Oper} {act:Act} {next:Act->World->Prop} {Q:Exit->Act->World->Prop} {K:AV->ASt->Prop} (ho:o.op = .alloc T) (hs:Sim σ w) (hz:zeroT P T=some z)
  (hK:∀ b,σ b=none->K (.ptr b 0) (σ.set b (some (.obj z.cells)))):Goes P o act σ w K next Q:=by
 intro hnext
 obtain ⟨i,v,hi,hv,hof⟩:=zeroT_spec hz
 have hzr:=ofVal_rep (σ:=σ) (w:=w) hof
 have hyc:=hzr.cells (by
  rintro rfl
  unfold ofVal at hof
  split at hof
  ·rename_i cs
   cases h:ofLeaves cs.toList<;>simp [h] at hof
  ·unfold ofLeaf at hof
   split at hof<;>cases hof)
 have hp:Pushed w (w.alloc (.cells v.cells T)) (.cells ⟨v.cells.toList⟩ T):=Pushed.alloc w _
 obtain ⟨h1,h2,h3⟩:=new_obj (o := .cells #[] T) hp hs hyc
 have hrun:(execOp act.eval o).run P w = .ok (.value (.pointer (some ⟨w.heap.size,0,none⟩))) (w.alloc (.cells v.cells T)):=by
  simp only [execOp,ho]
  exact run_value (by unfold Instr.alloc;rw [Sem.run_bind,run_zv hi hv];simp [newVar,newRow])
 unfold Oper.wp
 rw [hrun]
 exact hnext _ _ _ _ (hK _ h3) h1 h2 (.ptr _ _)
theorem goes_allocT {T:TypeId} {o:Oper} {act:Act} {next:Act->World->Prop} {Q:Exit->Act->World->Prop} {K:AV->ASt->Prop} (ho:o.op = .alloc T) (hs:Sim σ w) {i:TypeInfo} (hi:P.info? T=some i) (hv:i.zero=some (.agg ⟨[.pointer none,.slice none 0 0]⟩))
  (hK:∀ b,σ b=none->K (.ptr b 0) (σ.set b (some (.typ T [.pointer none,.slice none 0 0])))):Goes P o act σ w K next Q:=by
 intro hnext
 have hp:Pushed w (w.alloc (.cells ⟨[.pointer none,.slice none 0 0]⟩ T)) (.cells ⟨[.pointer none,.slice none 0 0]⟩ T):=Pushed.alloc w _
 obtain ⟨h1,h2,h3⟩:=new_typ hp hs
 have hrun:(execOp act.eval o).run P w = .ok (.value (.pointer (some ⟨w.heap.size,0,none⟩))) (w.alloc (.cells ⟨[.pointer none,.slice none 0 0]⟩ T)):=by
  simp only [execOp,ho]
  exact run_value (by unfold Instr.alloc;rw [Sem.run_bind,run_zv hi hv];simp [newVar,newRow,Value.cells])
 unfold Oper.wp
 rw [hrun]
 exact hnext _ _ _ _ (hK _ h3) h1 h2 (.ptr _ _)
end
end Go.A
namespace Go.A
section
variable {P:Program} {σ:ASt} {w:World}
theorem Row.lens:∀ {b o sz:Nat} {xs:List AV},Row σ w b o sz xs->∀ x∈xs,x.cells.length=sz
 | _,_,_,_,.nil ..,x,h=>by cases h
 | _,_,_,_,.cons h1 h2 h3,x,h=>by
   rcases List.mem_cons.1 h with rfl|h
   ·exact h1
   ·exact h3.lens x h
theorem wellSz_lens {s:Nat}:∀ {xs:List AV},wellSz s xs=true->∀ x∈xs,x.cells.length=s
 | [],_,x,h=>by cases h
 | y::ys,hw,x,h=>by
   simp only [wellSz,Bool.and_eq_true,beq_iff_eq] at hw
   rcases List.mem_cons.1 h with rfl|h
   ·exact hw.1.2
   ·exact wellSz_lens hw.2 x h
theorem lens_flat {s:Nat}:∀ {xs:List AV},(∀ x∈xs,x.cells.length=s)->(xs.flatMap AV.cells).length=xs.length*s
 | [],_=>by simp
 | x::xs,h=>by
   simp only [List.flatMap_cons,List.length_append,List.length_cons,Nat.add_mul,h x (by simp),lens_flat (xs:=xs) fun y hy=>h y (by simp [hy])]
   omega
theorem sl_vals {k:SK} {xs:List AV} {A:Option Addr} {n c s:Nat} (h:Rep σ w (.sl k xs) (.slice A n c)) (hw:∀ x∈xs,x.cells.length=s) :
  ∃ us,Reps σ w (xs.flatMap AV.cells) us/\us.length=n*s/\n=xs.length/\n<=c/\(xs = []\/∃ b o,A=some ⟨b,o,none⟩/\∀ (j:Nat) (v:Value),us[j]? = some v->w.cell? ⟨b,o+j,none⟩=some v):=by
 cases h with
 | slE A c=>exact ⟨[],.nil,by simp,rfl,by omega,.inl rfl⟩
 | slN=>exact ⟨[],.nil,by simp,rfl,by omega,.inl rfl⟩
 | sl h1 h2 h3 h4 h5=>
   obtain ⟨us,h6,h7⟩:=h1.flat.1.vals
   refine ⟨us,h6,?_,h2,h3,.inr ⟨_,_,rfl,h7⟩⟩
   rw [<-h6.length,lens_flat hw,h2]
theorem src_of {k:SK} {ys:List AV} {v:Value} {u e':TypeId} {s:Nat} (hu:P.underlying u=some (.slice e')) (h:Rep σ w (.sl k ys) v) (hw:∀ x∈ys,x.cells.length=s) (hl:leaves (ys.flatMap AV.cells)=true) :
  ∃ news,Src P s u v ys.length news w/\Reps σ w (ys.flatMap AV.cells) news:=by
 cases hv:v with
 | slice A n c=>
   subst hv
   obtain ⟨us,h1,h2,rfl,h3,h4⟩:=sl_vals h hw
   refine ⟨us,?_,h1⟩
   rcases h4 with rfl|⟨b,o,rfl,h4⟩
   ·have:us = []:=by cases h1;rfl
    subst this
    cases A with
    | none=>exact Src.ofNil w hu c
    | some A=>exact Src.ofSlice w hu A 0 c [] (by simp) (by simp) (by simp)
   ·exact Src.ofSlice w hu _ _ c us h2 (fun j v hj=>by rw [addr_add'];exact h4 j v hj) (leaves_one h1 hl)
 | _=>subst hv;cases h
theorem src_str {l:List UInt8} {u:TypeId} (hu:P.underlying u=some .string):Src P 1 u (.string ⟨⟨l⟩⟩) l.length (l.map fun c=>Value.int .u8 c.toNat) w:=
 Src.ofString w hu ⟨⟨l⟩⟩
theorem run_app {t u ty e:TypeId} {i:TypeInfo} {z:Value} (ht:P.underlying t=some (.slice e)) (hi:P.info? e=some i) (hz:i.zero=some z) (hpos:0<i.size) (hzs:z.cells.size=i.size)
  {k:SK} {xs ys:List AV} {xv yv:Value} {news:List Value} (hs:Sim σ w) (hx:Rep σ w (.sl k xs) xv) (hc:canApp σ k xs i.size) (hsrc:Src P i.size u yv ys.length news w) (hy:∀ y∈ys,y.cells.length=i.size)
  (hr:Reps σ w (ys.flatMap AV.cells) news) (hb:(xs.length+ys.length)*i.bytes<=140737488355328) (h63:xs.length+ys.length<=4611686018427387904) :
  ∃ v w' k' σ',(Builtin.append_ #[t,u] ty #[xv,yv]).run P w = .ok v w'/\App e σ k i.size xs.length ys.length k' σ'/\Le σ w σ' w'/\Sim σ' w'/\Rep σ' w' (.sl k' (xs++ys)) v:=by
 have hxl:∀ x∈xs,x.cells.length=i.size:=by
  cases k with
  | full=>exact wellSz_lens hc
  | shr=>exact hc.elim
  | lit=>exact hc.elim
  | tok b s' T0=>
    cases hx with
    | sl h1 h2 h3 h4 h5=>
      obtain ⟨_,h6,_⟩:=h4
      obtain ⟨h7,_⟩:=hc
      intro x hx
      rw [<-h7,h6]
      exact h1.lens x hx
 cases xv with
 | slice A n c=>
   obtain ⟨us,hus,hul,hn,hnc,hA⟩:=sl_vals hx hxl
   subst hn
   by_cases hm:ys.length=0
   ·have hys:ys = []:=List.eq_nil_of_length_eq_zero hm
    subst hys
    have hnews:news = []:=by cases hr;rfl
    subst hnews
    refine ⟨_,w,k,σ,run_append_nothing w t u ty e i ht hi A _ c hnc yv hsrc,.none rfl,Le.refl _ _,hs,by simpa using hx⟩
   ·have grow:c<xs.length+ys.length->∃ v w' k' σ',(Builtin.append_ #[t,u] ty #[.slice A xs.length c,yv]).run P w = .ok v w'/\App e σ k i.size xs.length ys.length k' σ'/\Le σ w σ' w'/\Sim σ' w'/\Rep σ' w' (.sl k' (xs++ys)) v:=by
     intro hg
     have hold:(Builtin.firstCells i.size xs.length (.slice A xs.length c)).run P w.drew = .ok us.toArray w.drew:=by
      rcases hA with rfl|⟨b,o,rfl,h4⟩
      ·have:us = []:=by cases hus;rfl
       subst this
       cases A with
       | none=>exact run_firstCells_none w.drew _ _ _ _
       | some A=>exact run_firstCells_some w.drew _ _ _ _ _ [] (by simp) (by simp)
      ·exact run_firstCells_some w.drew _ _ _ _ _ us hul (fun j v hj=>by rw [addr_add'];exact h4 j v hj)
     have hrun:=run_append_grow_src (P:=P) w t u ty e i z ht hi hz A xs.length c us hold yv ys.length news hsrc hg (by omega) (growslice_fits hg hb)
     have hp:Pushed w (w.drew.alloc (.cells ((us++news).toArray++Builtin.zeroCells z.cells (grownCap w (xs.length+ys.length) c e-(xs.length+ys.length))) e)) _:=Pushed.drew w _
     have hge:=grownCap_ge w (xs.length+ys.length) c e
     have hfresh:=hs.fresh (Nat.le_refl w.heap.size)
     have htl:(us++news).length=(xs.length+ys.length)*i.size:=by rw [List.length_append,hul,hsrc.newsLen,Nat.add_mul]
     have hsize:((us++news).toArray++Builtin.zeroCells z.cells (grownCap w (xs.length+ys.length) c e-(xs.length+ys.length))).size=grownCap w (xs.length+ys.length) c e*i.size:=by
      rw [Array.size_append,size_zeroCells,hzs]
      simp only [List.size_toArray,htl,← Nat.add_mul]
      congr 1;omega
     have hdrop:∀ x,x≠w.heap.size->((dropTok σ k).set w.heap.size (some (.tok ((xs.length+ys.length)*i.size)))) x=dropTok σ k x:=fun x hx=>ASt.set_ne hx
     have hle0:Le σ w (dropTok σ k) w:=by
      cases k with
      | shr=>exact Le.refl _ _
      | lit=>exact Le.refl _ _
      | full=>exact Le.refl _ _
      | tok b s' T0=>
        show Le σ w (σ.set b none) w
        refine ⟨rfl,rfl,rfl,Nat.le_refl _,fun x hx hn=>?_,fun x cs hx hn=>?_,fun x f hx hn=>?_⟩
        ·by_cases hxb:x=b
         ·subst hxb;exact ⟨ASt.set_same _ _ _,rfl⟩
         ·rw [ASt.set_ne hxb];exact ⟨hn,rfl⟩
        ·by_cases hxb:x=b
         ·subst hxb;exact ⟨.inl (ASt.set_same _ _ _),rfl⟩
         ·rw [ASt.set_ne hxb];exact ⟨.inr hn,rfl⟩
        ·by_cases hxb:x=b
         ·subst hxb;exact ⟨.inl (ASt.set_same _ _ _),rfl,fun _ _=>rfl⟩
         ·rw [ASt.set_ne hxb];exact ⟨.inr ⟨f,Nat.le_refl _,hn⟩,rfl,fun _ _=>rfl⟩
     have hs0:Sim (dropTok σ k) w:=by
      intro x q hxq
      have hxq':σ x=some q:=by
       cases k with
       | shr=>exact hxq
       | lit=>exact hxq
       | full=>exact hxq
       | tok b s' T0=>
         by_cases hxb:x=b
         ·subst hxb;simp only [dropTok,ASt.set_same] at hxq;cases hxq
         ·simp only [dropTok,ASt.set_ne hxb] at hxq;exact hxq
      exact (hs x q hxq').keep hle0 rfl
     have hle1:Le (dropTok σ k) w ((dropTok σ k).set w.heap.size (some (.tok ((xs.length+ys.length)*i.size)))) _:=hp.le fun b hb=>hdrop b (by omega)
     have hle:=hle0.trans hle1
     refine ⟨_,_,.tok w.heap.size i.size e,(dropTok σ k).set w.heap.size (some (.tok ((xs.length+ys.length)*i.size))),hrun,.grow w.heap.size hfresh ?_,hle,?_,?_⟩
     ·rintro b' T' rfl hbb
      have:=(hc.2)
      rw [<-hbb,hfresh] at this
      cases this
     ·intro x q hxq
      by_cases hne:x=w.heap.size
      ·subst hne
       rw [ASt.set_same] at hxq
       injection hxq with hxq
       subst hxq
       refine ⟨_,_,_,hp.new,?_,Nat.zero_le _⟩
       ·rw [hsize];exact Nat.mul_le_mul_right _ hge
      ·rw [hdrop x hne] at hxq
       exact (hs0 x q hxq).keep hle1 (hp.old (hs0.lt hxq))
     ·have hall:∀ x∈xs++ys,x.cells.length=i.size:=fun x hx=>by
       rcases List.mem_append.1 hx with h|h
       ·exact hxl x h
       ·exact hy x h
      refine .sl (sz:=i.size) (Row.unflat hall ?_) (by simp) hge ⟨rfl,rfl,rfl,?_,fun cs hcs=>?_,fun l p hcs=>?_,fun T2 cs2 hcs2=>(by rw [ASt.set_same] at hcs2;cases hcs2),fun l2 hcs2=>(by rw [ASt.set_same] at hcs2;cases hcs2),fun l2 hcs2=>by rw [ASt.set_same] at hcs2;cases hcs2⟩ (by rw [hp.size];omega)
      ·rw [List.flatMap_append]
       refine At.mk' ((hus.append hr).mono hle) (fun j hj=>⟨by rw [hp.size];omega,.inr (.inr ⟨_,ASt.set_same _ _ _,?_⟩)⟩) (fun j v hj=>?_)
       ·rw [htl] at hj;omega
       ·simp only [World.cell?,hp.new,Nat.zero_add,Option.isSome_none,Bool.false_eq_true,if_false]
        rw [Array.getElem?_append_left (by simpa using (List.getElem?_eq_some_iff.1 hj).1)]
        simpa using hj
      ·simp only [World.shape?,hp.new,Option.map_some,hsize]
      ·rw [ASt.set_same] at hcs
       cases hcs
      ·rw [ASt.set_same] at hcs
       cases hcs
    cases k with
    | shr=>exact hc.elim
    | lit=>exact hc.elim
    | full=>
      refine grow ?_
      cases hx with
      | slN=>simp;omega
      | sl h1 h2 h3 h4 h5=>have:c=xs.length:=h4;omega
    | tok b s' T0=>
      by_cases hroom:xs.length+ys.length<=c
      ·cases hx with
       | sl h1 h2 h3 h4 h5=>
         obtain ⟨rfl,h6,rfl,h7,h8⟩:=h4
         obtain ⟨rfl,hrole⟩:=hc
         subst h6
         obtain ⟨⟨cc⟩,T,fr,h9,h10,h11⟩:=hs b _ hrole
         obtain ⟨hTT,hcs⟩:T=T0/\cc.length=c*i.size:=by
          simp only [World.shape?,h9,Option.map_some,Option.some.injEq] at h7
          simpa using h7
         subst hTT
         have hnl:=hsrc.newsLen
         have hfit:xs.length*i.size+news.length<=cc.length:=by
          rw [hnl,hcs,← Nat.add_mul];exact Nat.mul_le_mul_right _ hroom
         have hcell:∀ j,j<news.length->(w.cell? ⟨b,0+xs.length*i.size+j,none⟩).isSome=true:=fun j hj=>by
          simp only [World.cell?,h9,Nat.zero_add,Option.isSome_none,Bool.false_eq_true,if_false]
          rw [Array.getElem?_eq_getElem (by simp;omega)]
          rfl
         have hrun:=run_append_room_src (P:=P) w t u ty e i ht hi b 0 xs.length c yv ys.length news hsrc hroom hcell
          (fun j hj=>by
           simp only [World.frozen?,h9]
           rw [Bool.and_eq_false_iff]
           exact .inr (by simp only [decide_eq_false_iff_not];omega))
         rw [Nat.zero_add] at hrun
         have hwr:=Wrote.setCells news (xs.length*i.size) w cc h9 hfit
         have hle:=hwr.le_tok hrole (f':=(xs.length+ys.length)*i.size) (Nat.mul_le_mul_right _ (by omega)) (fun o ho=>by
          simp only [List.getElem?_toArray]
          rw [List.append_assoc,List.getElem?_append_left (by simp;omega),List.getElem?_take,if_pos ho])
         have hsim:=hwr.sim hs hle ⟨_,_,_,hwr.new,by
          rw [hwr.len]
          simp only [List.size_toArray,hcs]
          exact Nat.mul_le_mul_right _ hroom,by
           rw [Nat.add_mul];omega⟩
         refine ⟨_,_,.tok b i.size T,σ.set b (some (.tok ((xs.length+ys.length)*i.size))),hrun,.room b T rfl,hle,hsim,?_⟩
         have hall:∀ x∈xs++ys,x.cells.length=i.size:=fun x hx=>by
          rcases List.mem_append.1 hx with h|h
          ·exact hxl x h
          ·exact hy x h
         refine .sl (sz:=i.size) (Row.unflat hall ?_) (by simp) hroom ⟨rfl,rfl,rfl,?_,fun cs hcs'=>?_,fun l p hcs'=>?_,fun T2 cs2 hcs2=>(by rw [ASt.set_same] at hcs2;cases hcs2),fun l2 hcs2=>(by rw [ASt.set_same] at hcs2;cases hcs2),fun l2 hcs2=>by rw [ASt.set_same] at hcs2;cases hcs2⟩ (by rw [hwr.size];exact h5)
         ·rw [List.flatMap_append]
          refine At.mk' ((hus.append hr).mono hle) (fun j hj=>⟨by rw [hwr.size];exact h5,.inr (.inr ⟨_,ASt.set_same _ _ _,?_⟩)⟩) (fun j v hj=>?_)
          ·rw [List.length_append,hul,hnl,← Nat.add_mul] at hj;omega
          ·simp only [World.cell?,hwr.new,Nat.zero_add,Option.isSome_none,Bool.false_eq_true,if_false,List.getElem?_toArray]
           by_cases hju:j<us.length
           ·rw [List.getElem?_append_left hju] at hj
            rw [List.append_assoc,List.getElem?_append_left (by simp;omega),List.getElem?_take,if_pos (by omega)]
            rcases hA with rfl|⟨b',o',hA',h12⟩
            ·have:us = []:=by simpa using hul
             subst this
             simp at hju
            ·injection hA' with hA'
             injection hA' with hA1 hA2
             subst hA1 hA2
             have:=h12 j v hj
             simp only [World.cell?,h9,Nat.zero_add,Option.isSome_none,Bool.false_eq_true,if_false,List.getElem?_toArray] at this
             exact this
           ·rw [List.getElem?_append_right (by omega)] at hj
            have hjn:=(List.getElem?_eq_some_iff.1 hj).1
            rw [List.getElem?_append_left (by simp;omega),List.getElem?_append_right (by simp;omega)]
            rw [List.length_take,Nat.min_eq_left (by omega),← hul]
            exact hj
         ·simp only [World.shape?,hwr.new,Option.map_some,hwr.len,List.size_toArray,hcs]
         ·rw [ASt.set_same] at hcs'
          cases hcs'
         ·rw [ASt.set_same] at hcs'
          cases hcs'
      ·exact grow (by omega)
 | _=>cases hx
theorem run_app_room {t u ty e:TypeId} {i:TypeInfo} (ht:P.underlying t=some (.slice e)) (hi:P.info? e=some i)
  {b o n c:Nat} {cs ys:List AV} {yv:Value} {news:List Value} (hs:Sim σ w) (hb:σ b=some (.obj cs)) (hsrc:Src P i.size u yv ys.length news w)
  (hr:Reps σ w (ys.flatMap AV.cells) news) (hroom:n+ys.length<=c) (hfit:o+(n+ys.length)*i.size<=cs.length) :
  ∃ v w',(Builtin.append_ #[t,u] ty #[.slice (some ⟨b,o,none⟩) n c,yv]).run P w = .ok v w' ∧
   Le σ w (σ.set b (some (.obj (splice cs (o+n*i.size) (ys.length*i.size) (ys.flatMap AV.cells))))) w'/\Sim (σ.set b (some (.obj (splice cs (o+n*i.size) (ys.length*i.size) (ys.flatMap AV.cells))))) w' ∧
   Rep (σ.set b (some (.obj (splice cs (o+n*i.size) (ys.length*i.size) (ys.flatMap AV.cells))))) w' (.msl b o (n+ys.length) c) v:=by
 obtain ⟨⟨cc⟩,T,fr,h9,h10,h11⟩:=hs b _ hb
 have hnl:=hsrc.newsLen
 have hyl:(ys.flatMap AV.cells).length=ys.length*i.size:=by rw [hr.length,hnl]
 have hcl:cs.length<=cc.length:=by have:=h10.length;simp at this;omega
 have hmul:(n+ys.length)*i.size=n*i.size+ys.length*i.size:=Nat.add_mul _ _ _
 have hcell:∀ j,j<news.length->(w.cell? ⟨b,o+n*i.size+j,none⟩).isSome=true:=fun j hj=>by
  simp only [World.cell?,h9,Option.isSome_none,Bool.false_eq_true,if_false]
  rw [Array.getElem?_eq_getElem (by simp;omega)]
  rfl
 have hrun:=run_append_room_src (P:=P) w t u ty e i ht hi b o n c yv ys.length news hsrc hroom hcell
  (fun j hj=>h11 _ (by simp;omega))
 have hwr:=Wrote.setCells news (o+n*i.size) w cc h9 (by omega)
 have hle:=hwr.le_obj hb (some (.obj (splice cs (o+n*i.size) (ys.length*i.size) (ys.flatMap AV.cells))))
 refine ⟨_,_,hrun,hle,hwr.sim hs hle ⟨_,_,_,hwr.new,?_,fun j hj=>?_⟩,.msl _ _ _ _⟩
 ·have:=splice_take (off:=o+n*i.size) (h10.mono hle) (hr.mono hle) (by omega)
  rw [hyl] at this
  exact this
 ·rw [hwr.frozen];exact h11 j (by have:=hwr.len;omega)
theorem run_app_own {t u ty e:TypeId} {i:TypeInfo} {z:Value} {za:List AV} (ht:P.underlying t=some (.slice e)) (hi:P.info? e=some i) (hz:i.zero=some z) (hzs:z.cells.size=i.size)
  (hza:Reps σ w za z.cells.toList) {A:Option Addr} {n c:Nat} {ocs ys:List AV} {us:List Value} {yv:Value} {news:List Value} (hs:Sim σ w)
  (hold:(Builtin.firstCells i.size n (.slice A n c)).run P w.drew = .ok us.toArray w.drew) (hus:Reps σ w ocs us) (hul:us.length=n*i.size) (hsrc:Src P i.size u yv ys.length news w)
  (hr:Reps σ w (ys.flatMap AV.cells) news) (hg:c<n+ys.length) (hb:(n+ys.length)*i.bytes<=140737488355328) (h63:n+ys.length<=4611686018427387904) :
  ∃ v w' c',(Builtin.append_ #[t,u] ty #[.slice A n c,yv]).run P w = .ok v w'/\n+ys.length<=c'/\σ w.heap.size=none ∧
   Le σ w (σ.set w.heap.size (some (.obj (ownRow i.size za (ocs++ys.flatMap AV.cells) (n+ys.length) c')))) w'/\Sim (σ.set w.heap.size (some (.obj (ownRow i.size za (ocs++ys.flatMap AV.cells) (n+ys.length) c')))) w' ∧
   Rep (σ.set w.heap.size (some (.obj (ownRow i.size za (ocs++ys.flatMap AV.cells) (n+ys.length) c')))) w' (.msl w.heap.size 0 (n+ys.length) c') v:=by
 have hrun:=run_append_grow_src (P:=P) w t u ty e i z ht hi hz A n c us hold yv ys.length news hsrc hg (by omega) (growslice_fits hg hb)
 have hp:Pushed w (w.drew.alloc (.cells ((us++news).toArray++Builtin.zeroCells z.cells (grownCap w (n+ys.length) c e-(n+ys.length))) e)) _:=Pushed.drew w _
 have hge:=grownCap_ge w (n+ys.length) c e
 generalize grownCap w (n+ys.length) c e=c' at *
 have hzl:za.length=i.size:=by rw [hza.length,Array.length_toList,hzs]
 have hrep:Reps σ w (ownRow i.size za (ocs++ys.flatMap AV.cells) (n+ys.length) c') ((us++news)++(Builtin.zeroCells z.cells (c'-(n+ys.length))).toList):=by
  unfold ownRow
  refine (hus.append hr).append ?_
  have hzc:(Builtin.zeroCells z.cells (c'-(n+ys.length))).toList=(List.range ((c'-(n+ys.length))*i.size)).map fun j=>z.cells[j % z.cells.size]! := by
   unfold Builtin.zeroCells
   rw [Array.toList_map,Array.toList_range,hzs]
  rw [hzc]
  have key:∀ l:List Nat,(l ≠ []->0<i.size)->Reps σ w (l.map fun j=>za.getD (j % i.size) .any) (l.map fun j=>z.cells[j % z.cells.size]!):=by
   intro l
   induction l with
   | nil=>exact fun _ => .nil
   | cons j l ih=>
     intro hne
     have hpos:=hne (by simp)
     refine .cons ?_ (ih fun _=>hpos)
     have hlt:j % i.size<i.size:=Nat.mod_lt _ hpos
     obtain ⟨v, hv, hvr⟩ := hza.get (i := j % i.size) (a := za[j % i.size]'(by omega)) (List.getElem?_eq_getElem _)
     have e1 : za.getD (j % i.size) .any = za[j % i.size]'(by omega) := by
      rw [List.getD_eq_getElem?_getD,List.getElem?_eq_getElem (by omega)];rfl
     have e2:z.cells[j % z.cells.size]! = v:=by
      rw [hzs,getElem!_def]
      have:z.cells[j % i.size]? = some v:=by simpa using hv
      rw [this]
     show Rep σ w (za.getD (j % i.size) .any) z.cells[j % z.cells.size]!
     rw [e1,e2]
     exact hvr
  refine key _ fun hne=>?_
  rcases Nat.eq_zero_or_pos i.size with h|h
  ·rw [h] at hne;simp at hne
  ·exact h
 obtain ⟨h1,h2,h3⟩:=new_role hp hs (r := .obj (ownRow i.size za (ocs++ys.flatMap AV.cells) (n+ys.length) c')) fun hle=>⟨_,_,_,hp.new,by
  have hm:=hrep.mono hle
  have e:((us++news).toArray++Builtin.zeroCells z.cells (c'-(n+ys.length))).toList=(us++news)++(Builtin.zeroCells z.cells (c'-(n+ys.length))).toList:=by simp
  rw [e,hm.length,List.take_length]
  exact hm,fun o _=>by
  simp only [World.frozen?,hp.new]
  simp⟩
 exact ⟨_,_,c',hrun,hge,h3,h1,h2,.msl _ _ _ _⟩
end
end Go.A
namespace Go.A
section
variable {P:Program} {σ:ASt} {w:World}
theorem okFn_spec {f : FuncId} (h : okFn P f = true) : ∃ fn, P.funcs[f]? = some fn ∧ fn.body.isSome = true ∧ (fn.name == "runtime.NumGoroutine") = false := by
 unfold okFn at h
 split at h
 ·rename_i fn hf
  simp only [Bool.and_eq_true,bne_iff_ne,ne_eq] at h
  exact ⟨fn,hf,h.1,by simpa using h.2⟩
 ·cases h
theorem run_callFunc {f:FuncId} (h:okFn P f=true) (args:Array Value):(callFunc f args).run P w = .ok (.enter f args) w:=by
 obtain ⟨fn,h1,h2,h3⟩:=okFn_spec h
 have h4:fn.body.isNone=false:=by cases hb:fn.body<;>simp_all
 unfold callFunc
 simp only [program,Sem.run_bind,Sem.run,Result.andThen,h1,h3,h4,Bool.false_eq_true,if_false,Sem.run_pure]
theorem goes_call {o:Oper} {c:Call} {x:Operand} {f:FuncId} {act:Act} {next:Act->World->Prop} {Q:Exit->Act->World->Prop} {K:AV->ASt->Prop} {first cap as:List AV} {first' cap':List Value}
  (ho:o.op = .call c) (hc:c.callee = .value x) (hx:act.eval x = .func (.func f) ⟨first'⟩ ⟨cap'⟩) (hf:okFn P f=true) (hs:Sim σ w) (h1:Reps σ w first first') (h2:Reps σ w cap cap')
  (h3:Reps σ w as (c.args.toList.map act.eval)) (hK:ACalls P f (first++as++cap) σ K):Goes P o act σ w K next Q:=by
 intro hnext
 have hargs:c.args.map act.eval=⟨c.args.toList.map act.eval⟩:=by apply Array.ext';simp
 have hrun:(execOp act.eval o).run P w = .ok (.enter f ⟨first'++c.args.toList.map act.eval++cap'⟩) w:=by
  simp only [execOp,ho,resolve,hc,hx,Deferred.ofValue,Sem.run_bind,Sem.run_pure,Result.andThen,invoke,hargs]
  rw [run_callFunc hf]
  congr 2
  apply Array.ext'
  simp
 unfold Oper.wp
 rw [hrun,Oper.upon_enter]
 refine (hK w _ hs ((h1.append h3).append h2)).mono ?_
 rintro e w' ⟨u,r,σ',rfl,h4,h5,h6,h7⟩
 exact hnext _ _ _ _ h4 h5 h6 h7
theorem goes_app {o:Oper} {t u e:TypeId} {i:TypeInfo} {z:Value} {x y:Operand} {act:Act} {next:Act->World->Prop} {Q:Exit->Act->World->Prop} {K:AV->ASt->Prop}
  (ho:o.op = .call { callee := .builtin .append,args:=⟨[x,y]⟩,argTypes:=⟨[t,u]⟩ }) (ht:P.underlying t=some (.slice e)) (hi:P.info? e=some i) (hz:i.zero=some z) (hpos:0<i.size) (hzs:z.cells.size=i.size)
  {k:SK} {xs ys:List AV} {news:List Value} (hs:Sim σ w) (hx:Rep σ w (.sl k xs) (act.eval x)) (hc:canApp σ k xs i.size) (hsrc:Src P i.size u (act.eval y) ys.length news w) (hy:∀ y∈ys,y.cells.length=i.size)
  (hr:Reps σ w (ys.flatMap AV.cells) news) (hb:(xs.length+ys.length)*i.bytes<=140737488355328) (h63:xs.length+ys.length<=4611686018427387904)
  (hK:∀ k' σ',App e σ k i.size xs.length ys.length k' σ'->K (.sl k' (xs++ys)) σ'):Goes P o act σ w K next Q:=by
 intro hnext
 obtain ⟨v,w',k',σ',h1,h2,h3,h4,h5⟩:=run_app (ty:=o.type) ht hi hz hpos hzs hs hx hc hsrc hy hr hb h63
 have hrun:(execOp act.eval o).run P w = .ok (.value v) w':=by
  obtain ⟨dst,op,type,pos,after,guard⟩:=o
  subst ho
  exact run_builtin (map_two act x y) (fun _=>rfl) h1
 unfold Oper.wp
 rw [hrun]
 exact hnext _ _ _ _ (hK k' σ' h2) h3 h4 h5
theorem goes_builtin {o:Oper} {t u:TypeId} {x y:Operand} {act:Act} {next:Act->World->Prop} {Q:Exit->Act->World->Prop} {K:AV->ASt->Prop} (ho:o.op = .call { callee := .builtin .append,args:=⟨[x,y]⟩,argTypes:=⟨[t,u]⟩ })
  {v:Value} {w':World} {r:AV} {σ':ASt} (h1:(Builtin.append_ #[t,u] o.type #[act.eval x,act.eval y]).run P w = .ok v w') (h2:K r σ') (h3:Le σ w σ' w') (h4:Sim σ' w') (h5:Rep σ' w' r v):Goes P o act σ w K next Q:=by
 intro hnext
 have hrun:(execOp act.eval o).run P w = .ok (.value v) w':=by
  obtain ⟨dst,op,type,pos,after,guard⟩:=o
  subst ho
  exact run_builtin (map_two act x y) (fun _=>rfl) h1
 unfold Oper.wp
 rw [hrun]
 exact hnext _ _ _ _ h2 h3 h4 h5
theorem goes_app0 {o:Oper} {t u e:TypeId} {i:TypeInfo} {x y:Operand} {act:Act} {next:Act->World->Prop} {Q:Exit->Act->World->Prop} {K:AV->ASt->Prop} (ho:o.op = .call { callee := .builtin .append,args:=⟨[x,y]⟩,argTypes:=⟨[t,u]⟩ })
  (ht:P.underlying t=some (.slice e)) (hi:P.info? e=some i) {k:SK} {xs:List AV} (hs:Sim σ w) (hx:Rep σ w (.sl k xs) (act.eval x)) (hsrc:Src P i.size u (act.eval y) 0 [] w) (hK:K (.sl k xs) σ):Goes P o act σ w K next Q:=by
 have hx0:=hx
 generalize hv:act.eval x=xv at hx
 have key:∀ (A:Option Addr) (n c:Nat),xv = .slice A n c->n<=c->Goes P o act σ w K next Q:=fun A n c he hle=>by
  subst he
  rw [hv] at hx0
  exact goes_builtin ho (by rw [hv];exact run_append_nothing w t u o.type e i ht hi A n c hle (act.eval y) hsrc) hK (Le.refl _ _) hs hx0
 cases hx with
 | slE A c=>exact key A 0 c rfl (Nat.zero_le _)
 | slN=>exact key none 0 0 rfl (Nat.le_refl _)
 | sl h1 h2 h3 h4 h5=>exact key _ _ _ rfl h3
theorem za_reps {z:Value} {σ:ASt} {w:World} {s:Nat} (hzs:z.cells.size=s) (hza:∀ v',ofVal z=some v'->Reps σ w v'.cells z.cells.toList) (hsome:(ofVal z).isSome=true):Reps σ w (((ofVal z).map AV.cells).getD []) z.cells.toList:=by
 obtain ⟨v',hv'⟩:=Option.isSome_iff_exists.1 hsome
 rw [hv']
 exact hza v' hv'
theorem goes_own {o:Oper} {t u e:TypeId} {i:TypeInfo} {z:Value} {x y:Operand} {act:Act} {next:Act->World->Prop} {Q:Exit->Act->World->Prop} {K:AV->ASt->Prop}
  (ho:o.op = .call { callee := .builtin .append,args:=⟨[x,y]⟩,argTypes:=⟨[t,u]⟩ }) (ht:P.underlying t=some (.slice e)) (hi:P.info? e=some i) (hz:i.zero=some z) (hzs:z.cells.size=i.size) (hsome:(ofVal z).isSome=true)
  (hza:∀ v',ofVal z=some v'->Reps σ w v'.cells z.cells.toList)
  {xs ys:List AV} {news:List Value} (hs:Sim σ w) (hx:Rep σ w (.sl .full xs) (act.eval x)) (hc:canApp σ .full xs i.size) (hsrc:Src P i.size u (act.eval y) ys.length news w)
  (hr:Reps σ w (ys.flatMap AV.cells) news) (hb:(xs.length+ys.length)*i.bytes<=140737488355328) (h63:xs.length+ys.length<=4611686018427387904) (hy0:0<ys.length)
  (hK:∀ b c,σ b=none->xs.length+ys.length<=c->K (.msl b 0 (xs.length+ys.length) c) (σ.set b (some (.obj (ownRow i.size (((ofVal z).map AV.cells).getD []) (xs.flatMap AV.cells++ys.flatMap AV.cells) (xs.length+ys.length) c))))):Goes P o act σ w K next Q:=by
 have hxl:∀ x∈xs,x.cells.length=i.size:=wellSz_lens hc
 cases hxv:act.eval x with
 | slice A n c=>
   rw [hxv] at hx
   obtain ⟨us,hus,hul,hn,hnc,hA⟩:=sl_vals hx hxl
   subst hn
   have hg:c<xs.length+ys.length:=by
    cases hx with
    | slN=>simp;omega
    | sl h1 h2 h3 h4 h5=>have:c=xs.length:=h4;omega
   have hold:(Builtin.firstCells i.size xs.length (.slice A xs.length c)).run P w.drew = .ok us.toArray w.drew:=by
    rcases hA with rfl|⟨b,o,rfl,h4⟩
    ·have:us = []:=by cases hus;rfl
     subst this
     cases A with
     | none=>exact run_firstCells_none w.drew _ _ _ _
     | some A=>exact run_firstCells_some w.drew _ _ _ _ _ [] (by simp) (by simp)
    ·exact run_firstCells_some w.drew _ _ _ _ _ us hul (fun j v hj=>by rw [addr_add'];exact h4 j v hj)
   obtain ⟨v,w',c',h1,h2,h3,h4,h5,h6⟩:=run_app_own (ty:=o.type) ht hi hz hzs (za_reps hzs hza hsome) hs hold hus hul hsrc hr hg hb h63
   exact goes_builtin ho (by rw [hxv];exact h1) (hK _ c' h3 h2) h4 h5 h6
 | _=>rw [hxv] at hx;cases hx
theorem goes_msl {o:Oper} {t u e:TypeId} {i:TypeInfo} {z:Value} {x y:Operand} {act:Act} {next:Act->World->Prop} {Q:Exit->Act->World->Prop} {K:AV->ASt->Prop}
  (ho:o.op = .call { callee := .builtin .append,args:=⟨[x,y]⟩,argTypes:=⟨[t,u]⟩ }) (ht:P.underlying t=some (.slice e)) (hi:P.info? e=some i) (hz:i.zero=some z) (hzs:z.cells.size=i.size) (hsome:(ofVal z).isSome=true)
  (hza:∀ v',ofVal z=some v'->Reps σ w v'.cells z.cells.toList)
  {b off n c:Nat} {cs ys:List AV} {news:List Value} (hs:Sim σ w) (hx:Rep σ w (.msl b off n c) (act.eval x)) (hbo:σ b=some (.obj cs)) (hsrc:Src P i.size u (act.eval y) ys.length news w)
  (hr:Reps σ w (ys.flatMap AV.cells) news) (hb:(n+ys.length)*i.bytes<=140737488355328) (h63:n+ys.length<=4611686018427387904) (h0:off+n*i.size<=cs.length)
  (hK1:n+ys.length<=c->off+(n+ys.length)*i.size<=cs.length/\K (.msl b off (n+ys.length) c) (σ.set b (some (.obj (splice cs (off+n*i.size) (ys.length*i.size) (ys.flatMap AV.cells))))))
  (hK2:c<n+ys.length->∀ b' c',σ b'=none->n+ys.length<=c'->K (.msl b' 0 (n+ys.length) c') (σ.set b' (some (.obj (ownRow i.size (((ofVal z).map AV.cells).getD []) ((cs.drop off).take (n*i.size)++ys.flatMap AV.cells) (n+ys.length) c'))))):Goes P o act σ w K next Q:=by
 generalize hxv:act.eval x=xv at hx
 cases hx
 by_cases hroom:n+ys.length<=c
 ·obtain ⟨h1,h2⟩:=hK1 hroom
  obtain ⟨v,w',h3,h4,h5,h6⟩:=run_app_room (ty:=o.type) ht hi hs hbo hsrc hr hroom h1
  exact goes_builtin ho (by rw [hxv];exact h3) h2 h4 h5 h6
 ·obtain ⟨vs,h1,h2,_⟩:=hs.objCell hbo
  have hvl:=h1.length
  have hus:=(h1.drop off).take (n*i.size)
  have hul:((vs.drop off).take (n*i.size)).length=n*i.size:=by rw [List.length_take,List.length_drop];omega
  have hold:(Builtin.firstCells i.size n (.slice (some ⟨b,off,none⟩) n c)).run P w.drew = .ok ((vs.drop off).take (n*i.size)).toArray w.drew:=
   run_firstCells_some w.drew _ _ _ _ _ _ hul (fun j v hj=>by
    rw [addr_add']
    rw [List.getElem?_take] at hj
    split at hj
    ·exact h2 (off+j) v (by simpa using hj)
    ·cases hj)
  obtain ⟨v,w',c',h1,h2,h3,h4,h5,h6⟩:=run_app_own (ty:=o.type) ht hi hz hzs (za_reps hzs hza hsome) hs hold hus hul hsrc hr (by omega) hb h63
  exact goes_builtin ho (by rw [hxv];exact h1) (hK2 (by omega) _ c' h3 h2) h4 h5 h6
/-! Copying,clearing,noughts behind. -/
theorem zero_cells {z:Array Value} (m:Nat):(Builtin.zeroCells z m).toList=(List.replicate m z.toList).flatten:=by
 unfold Builtin.zeroCells
 apply List.ext_getElem?
 intro j
 by_cases hj:j<m*z.size
 ·have hpos:0<z.size:=by
   rcases Nat.eq_zero_or_pos z.size with h|h
   ·rw [h] at hj;simp at hj
   ·exact h
  rw [flatten_get (by simpa using hpos) _ _ (by simpa using hj)]
  have hm:j % z.size<z.size:=Nat.mod_lt _ hpos
  simp [hj,hm]
 ·rw [List.getElem?_eq_none (by simp;omega),List.getElem?_eq_none (by rw [flatten_len];simpa using Nat.le_of_not_lt hj)]
theorem zav_reps {z:Value} (hsome:(ofVal z).isSome=true):Reps σ w (((ofVal z).map AV.cells).getD []) z.cells.toList:=by
 obtain ⟨v',hv'⟩:=Option.isSome_iff_exists.1 hsome
 rw [hv']
 exact (ofVal_rep hv').cells (by
  rintro rfl
  unfold ofVal at hv'
  split at hv'
  ·rename_i cs
   cases h:ofLeaves cs.toList<;>simp [h] at hv'
  ·unfold ofLeaf at hv'
   split at hv'<;>cases hv')
theorem write_obj {b off:Nat} {cs xs:List AV} {vs:List Value} (hs:Sim σ w) (hb:σ b=some (.obj cs)) (hx:Reps σ w xs vs) (h1:∀ v∈vs,v.oneCell'=true) (hfit:off+xs.length<=cs.length) :
  (storeCells ⟨b,off,none⟩ vs).run P w = .ok () (w.setCells b off vs)/\Le σ w (σ.set b (some (.obj (splice cs off xs.length xs)))) (w.setCells b off vs)/\Sim (σ.set b (some (.obj (splice cs off xs.length xs)))) (w.setCells b off vs):=by
 obtain ⟨⟨c⟩,T',fr,g1,g2,g3⟩:=hs b _ hb
 have hxl:=hx.length
 have hcl:cs.length<=c.length:=by have:=g2.length;simp at this;omega
 have hst:=run_storeCells_cells (P:=P) b off vs 0 w (fun j hj=>by
   simp only [World.cell?,g1,Nat.add_zero,Option.isSome_none,Bool.false_eq_true,if_false]
   rw [Array.getElem?_eq_getElem (by simp;omega)]
   rfl) (fun j hj=>g3 _ (by simp;omega)) h1
 simp only [Nat.add_zero] at hst
 have hwr:=Wrote.setCells vs off w c g1 (by omega)
 have hle:=hwr.le_obj hb (some (.obj (splice cs off xs.length xs)))
 refine ⟨hst,hle,hwr.sim hs hle ⟨_,_,_,hwr.new,?_,fun j hj=>?_⟩⟩
 ·exact splice_take (off:=off) (g2.mono hle) (hx.mono hle) hfit
 ·rw [hwr.frozen];exact g3 j (by have:=hwr.len;omega)
theorem bytes_one (l:List UInt8):∀ v∈(l.map fun c=>Value.int .u8 c.toNat),v.oneCell'=true:=by
 intro v hv
 obtain ⟨c,_,rfl⟩:=List.mem_map.1 hv
 rfl
theorem firstCells_str (l:List UInt8) (n:Nat):(Builtin.firstCells 1 n (.string ⟨⟨l⟩⟩)).run P w = .ok ((l.take n).map fun c=>Value.int .u8 c.toNat).toArray w:=by
 simp [Builtin.firstCells]
theorem goes_cpy {o:Oper} {t u e:TypeId} {i:TypeInfo} {x y:Operand} {act:Act} {next:Act->World->Prop} {Q:Exit->Act->World->Prop} {K:AV->ASt->Prop}
  (ho:o.op = .call { callee := .builtin .copy,args:=⟨[x,y]⟩,argTypes:=⟨[t,u]⟩ }) (ht:P.underlying t=some (.slice e)) (hi:P.info? e=some i) (h1:i.size=1)
  {b off n c:Nat} {l:List UInt8} {cs:List AV} (hs:Sim σ w) (hx:act.eval x = .slice (some ⟨b,off,none⟩) n c) (hy:act.eval y = .string ⟨⟨l⟩⟩) (hb:σ b=some (.obj cs)) (hfit:off+n<=cs.length)
  (hK:K (.int .i64 (l.take n).length) (σ.set b (some (.obj (splice cs off (l.take n).length ((l.take n).map fun c => .int .u8 c.toNat)))))):Goes P o act σ w K next Q:=by
 intro hnext
 have hm:Nat.min l.length n=(l.take n).length:=by rw [List.length_take,Nat.min_comm]
 have hxl:((l.take n).map fun c=>AV.int .u8 c.toNat).length=(l.take n).length:=List.length_map _
 have hle:(l.take n).length<=n:=by rw [List.length_take];omega
 obtain ⟨g1,g2,g3⟩:=write_obj (P:=P) hs hb (Reps.bytes (σ:=σ) (w:=w) (l.take n)) (bytes_one _) (off:=off) (by rw [hxl];omega)
 rw [hxl] at g2 g3
 have hfc:=firstCells_str (P:=P) (w:=w) l (l.take n).length
 have htk:l.take (l.take n).length=l.take n:=by
  rw [List.length_take,Nat.min_comm]
  exact List.take_eq_take_iff.2 (by omega)
 rw [htk] at hfc
 have hrun:(Builtin.copy_ #[t,u] o.type #[act.eval x,act.eval y]).run P w = .ok (.int .i64 (l.take n).length) (w.setCells b off ((l.take n).map fun c=>Value.int .u8 c.toNat)):=by
  rw [hx,hy]
  have hz:(⟨⟨l⟩⟩:ByteArray).size=l.length:=rfl
  simp only [Builtin.copy_,List.getElem?_toArray,List.getElem?_cons_zero,List.getElem?_cons_succ,Sem.run_bind,run_und ht,Result.andThen,Builtin.lenOf,Sem.run_pure,hz,hm,run_so hi,h1,hfc,g1,goInt]
 have hex:(execOp act.eval o).run P w = .ok (.value (.int .i64 (l.take n).length)) (w.setCells b off ((l.take n).map fun c=>Value.int .u8 c.toNat)):=by
  obtain ⟨dst,op,type,pos,after,guard⟩:=o
  subst ho
  exact run_builtin (map_two act x y) (fun _=>rfl) hrun
 unfold Oper.wp
 rw [hex]
 exact hnext _ _ _ _ hK g2 g3 (.int _ _)
theorem goes_clr {o:Oper} {t e:TypeId} {i:TypeInfo} {z:Value} {x:Operand} {act:Act} {next:Act->World->Prop} {Q:Exit->Act->World->Prop} {K:AV->ASt->Prop}
  (ho:o.op = .call { callee := .builtin .clear,args:=⟨[x]⟩,argTypes:=⟨[t]⟩ }) (ht:P.underlying t=some (.slice e)) (hi:P.info? e=some i) (hz:i.zero=some z) (hsome:(ofVal z).isSome=true)
  {b off n c:Nat} {cs:List AV} (hs:Sim σ w) (hx:act.eval x = .slice (some ⟨b,off,none⟩) n c) (hb:σ b=some (.obj cs)) (hl:leaves (((ofVal z).map AV.cells).getD [])=true)
  (hfit:off+n*(((ofVal z).map AV.cells).getD []).length<=cs.length)
  (hK:K .any (σ.set b (some (.obj (splice cs off (n*(((ofVal z).map AV.cells).getD []).length) (List.replicate n (((ofVal z).map AV.cells).getD [])).flatten))))):Goes P o act σ w K next Q:=by
 intro hnext
 have hzr:=zav_reps (σ:=σ) (w:=w) hsome
 generalize ((ofVal z).map AV.cells).getD []=za at *
 have hone:=leaves_one hzr hl
 have hfl:(List.replicate n za).flatten.length=n*za.length:=flatten_len n
 have hones:∀ v∈(List.replicate n z.cells.toList).flatten,v.oneCell'=true:=by
  intro v hv
  obtain ⟨q,hq,hvq⟩:=List.mem_flatten.1 hv
  rw [List.eq_of_mem_replicate hq] at hvq
  exact hone v hvq
 obtain ⟨g1,g2,g3⟩:=write_obj (P:=P) hs hb (hzr.flatten n) hones (off:=off) (by rw [hfl];exact hfit)
 rw [hfl] at g2 g3
 have fin:∀ w',(Builtin.clear_ #[t] o.type #[act.eval x]).run P w = .ok (.tuple #[]) w'->w'=w.setCells b off (List.replicate n z.cells.toList).flatten->o.wp P act w next Q:=by
  intro w' hrun hw'
  have hex:(execOp act.eval o).run P w = .ok (.value (.tuple #[])) w':=by
   obtain ⟨dst,op,type,pos,after,guard⟩:=o
   subst ho
   exact run_builtin (map_one act x) (fun _=>rfl) hrun
  unfold Oper.wp
  rw [hex]
  subst hw'
  exact hnext _ _ _ _ hK g2 g3 (.any _)
 cases n with
 | zero=>
   refine fin w ?_ rfl
   rw [hx]
   simp [Builtin.clear_,run_underlying ht]
 | succ n=>
   refine fin _ ?_ rfl
   rw [hx]
   have hzc:(Builtin.zeroCells z.cells (n+1)).toList=(List.replicate (n+1) z.cells.toList).flatten:=zero_cells _
   simp [Builtin.clear_,run_underlying ht,zeroValue,typeInfo,hi,hz,hzc,g1]
theorem run_appm_room {t u ty e:TypeId} {i:TypeInfo} {z:Value} {k k':IntKind} (ht:P.underlying t=some (.slice e)) (hu:P.underlying u=some (.int k)) (hi:P.info? e=some i) (hz:i.zero=some z) (hpos:0<i.size) (hzs:z.cells.size=i.size) {b o n c m:Nat} (hroom:n+m<=c) (hsmall:m*i.bytes<=140737488355328) (h63:m<=4611686018427387904)
  {w':World} (hst:(storeCells ⟨b,o+n*i.size,none⟩ (List.replicate m z.cells.toList).flatten).run P w = .ok () w') :
  (Builtin.append_ #[t,u] ty #[.slice (some ⟨b,o,none⟩) n c,.int k' m]).run P w = .ok (.slice (some ⟨b,o,none⟩) (n+m) c) w':=by
 have hzc:(Builtin.zeroCells z.cells m).toList=(List.replicate m z.cells.toList).flatten:=zero_cells _
 have hw:IntKind.i64.wrap (m:Int)=m:=by rw [IntKind.wrap_i64];omega
 have h48:¬ (281474976710656<(m:Int)*i.bytes):=by
  have:((m*i.bytes:Nat):Int)<=((140737488355328:Nat):Int):=Int.ofNat_le.2 hsmall
  rw [Int.natCast_mul] at this
  omega
 have hw0:IntKind.i64.wrap 0=0:=by decide
 by_cases h0:m=0
 ·subst h0
  have hr0:n<=c:=by omega
  rw [List.replicate_zero,List.flatten_nil] at hst
  have e:w'=w:=by
   have:(storeCells ⟨b,o+n*i.size,none⟩ []).run P w = .ok () w:=rfl
   rw [this] at hst
   injection hst with _ h;exact h.symm
  subst e
  simp [Builtin.append_,run_underlying ht,run_underlying hu,sizeOf,typeInfo,hi,asInt,asIntOf,hw0,hr0,Addr.add_lit,storeCells]
 ·have hm0:¬ (m=0\/i.size=0):=by omega
  have hm1:¬ (m*i.size=0):=by rw [Nat.mul_eq_zero];exact hm0
  have hm2:¬ ((m:Int)<0):=by omega
  simp [Builtin.append_,run_underlying ht,run_underlying hu,sizeOf,typeInfo,zeroValue,hi,hz,asInt,asIntOf,hw,h48,hroom,hm1,hm2,Addr.add_lit,hzc,hst]
theorem run_appm_grow {t u ty e:TypeId} {i:TypeInfo} {z:Value} {k k':IntKind} (ht:P.underlying t=some (.slice e)) (hu:P.underlying u=some (.int k)) (hi:P.info? e=some i) (hz:i.zero=some z) (hpos:0<i.size) (hzs:z.cells.size=i.size) {base:Option Addr} {n c m:Nat} (hg:c<n+m) (hsmall:m*i.bytes<=140737488355328)
  (h63:n+m<=4611686018427387904) (hfit:Builtin.nextslicecap (n+m) c*i.bytes<=281474976710656) {olds:List Value} (hold:(Builtin.firstCells i.size n (.slice base n c)).run P w.drew = .ok olds.toArray w.drew) :
  (Builtin.append_ #[t,u] ty #[.slice base n c,.int k' m]).run P w = .ok (.slice (some ⟨w.heap.size,0,none⟩) (n+m) (grownCap w (n+m) c e))
   (w.drew.alloc (.cells ((olds++(List.replicate m z.cells.toList).flatten).toArray++Builtin.zeroCells z.cells (grownCap w (n+m) c e-(n+m))) e)):=by
 have hzc:(Builtin.zeroCells z.cells m).toList=(List.replicate m z.cells.toList).flatten:=zero_cells _
 have hw:IntKind.i64.wrap (m:Int)=m:=by rw [IntKind.wrap_i64];omega
 have h48:¬ (281474976710656<(m:Int)*i.bytes):=by
  have:((m*i.bytes:Nat):Int)<=((140737488355328:Nat):Int):=Int.ofNat_le.2 hsmall
  rw [Int.natCast_mul] at this
  omega
 have hn:¬ (n+m<=c):=by omega
 have h63':¬ (9223372036854775807<((n:Int)+(m:Int))):=by omega
 have h48':¬ (281474976710656<Builtin.nextslicecap (n+m) c*i.bytes):=by omega
 have hw0:IntKind.i64.wrap 0=0:=by decide
 by_cases h0:m=0
 ·subst h0
  have hn0:¬ n<=c:=by omega
  have h63n:¬ (9223372036854775807<(n:Int)):=by omega
  rw [Nat.add_zero] at h48'
  simp [Builtin.append_,run_underlying ht,run_underlying hu,sizeOf,typeInfo,zeroValue,hi,hz,asInt,asIntOf,hw0,hn0,h63n,h48',Question.forced,hold,newRow,grownCap]
 ·have hm0:¬ (m=0\/i.size=0):=by omega
  have hm1:¬ (m*i.size=0):=by rw [Nat.mul_eq_zero];exact hm0
  have hm2:¬ ((m:Int)<0):=by omega
  simp [Builtin.append_,run_underlying ht,run_underlying hu,sizeOf,typeInfo,zeroValue,hi,hz,asInt,asIntOf,hw,h48,hn,h63',h48',hm1,hm2,Question.forced,hold,newRow,grownCap]
  congr 2
  apply Array.ext'
  simp [List.append_assoc,hzc]
theorem own_role {e:TypeId} {i:TypeInfo} {z:Value} {za:List AV} (hzs:z.cells.size=i.size) (hza:Reps σ w za z.cells.toList) {N c':Nat} {ocs nz:List AV} {us news:List Value} (hs:Sim σ w) (hus:Reps σ w ocs us) (hr:Reps σ w nz news) :
  Le σ w (σ.set w.heap.size (some (.obj (ownRow i.size za (ocs++nz) N c')))) (w.drew.alloc (.cells ((us++news).toArray++Builtin.zeroCells z.cells (c'-N)) e)) ∧
   Sim (σ.set w.heap.size (some (.obj (ownRow i.size za (ocs++nz) N c')))) (w.drew.alloc (.cells ((us++news).toArray++Builtin.zeroCells z.cells (c'-N)) e))/\σ w.heap.size=none:=by
 have hp:Pushed w (w.drew.alloc (.cells ((us++news).toArray++Builtin.zeroCells z.cells (c'-N)) e)) _:=Pushed.drew w _
 have hzl:za.length=i.size:=by rw [hza.length,Array.length_toList,hzs]
 have hrep:Reps σ w (ownRow i.size za (ocs++nz) N c') ((us++news)++(Builtin.zeroCells z.cells (c'-N)).toList):=by
  unfold ownRow
  refine (hus.append hr).append ?_
  have hzc:(Builtin.zeroCells z.cells (c'-N)).toList=(List.range ((c'-N)*i.size)).map fun j=>z.cells[j % z.cells.size]! := by
   unfold Builtin.zeroCells
   rw [Array.toList_map,Array.toList_range,hzs]
  rw [hzc]
  have key:∀ l:List Nat,(l ≠ []->0<i.size)->Reps σ w (l.map fun j=>za.getD (j % i.size) .any) (l.map fun j=>z.cells[j % z.cells.size]!):=by
   intro l
   induction l with
   | nil=>exact fun _ => .nil
   | cons j l ih=>
     intro hne
     have hpos:=hne (by simp)
     refine .cons ?_ (ih fun _=>hpos)
     have hlt:j % i.size<i.size:=Nat.mod_lt _ hpos
     obtain ⟨v, hv, hvr⟩ := hza.get (i := j % i.size) (a := za[j % i.size]'(by omega)) (List.getElem?_eq_getElem _)
     have e1 : za.getD (j % i.size) .any = za[j % i.size]'(by omega) := by
      rw [List.getD_eq_getElem?_getD,List.getElem?_eq_getElem (by omega)];rfl
     have e2:z.cells[j % z.cells.size]! = v:=by
      rw [hzs,getElem!_def]
      have:z.cells[j % i.size]? = some v:=by simpa using hv
      rw [this]
     show Rep σ w (za.getD (j % i.size) .any) z.cells[j % z.cells.size]!
     rw [e1,e2]
     exact hvr
  refine key _ fun hne=>?_
  rcases Nat.eq_zero_or_pos i.size with h|h
  ·rw [h] at hne;simp at hne
  ·exact h
 exact new_role hp hs (r := .obj (ownRow i.size za (ocs++nz) N c')) fun hle=>⟨_,_,_,hp.new,by
  have hm:=hrep.mono hle
  have e:((us++news).toArray++Builtin.zeroCells z.cells (c'-N)).toList=(us++news)++(Builtin.zeroCells z.cells (c'-N)).toList:=by simp
  rw [e,hm.length,List.take_length]
  exact hm,fun o _=>by
  simp only [World.frozen?,hp.new]
  simp⟩
theorem goes_appm {o:Oper} {t u e:TypeId} {i:TypeInfo} {z:Value} {x y:Operand} {k k':IntKind} {act:Act} {next:Act->World->Prop} {Q:Exit->Act->World->Prop} {K:AV->ASt->Prop}
  (ho:o.op = .call { callee := .builtin .append,args:=⟨[x,y]⟩,argTypes:=⟨[t,u]⟩ }) (ht:P.underlying t=some (.slice e)) (hu:P.underlying u=some (.int k)) (hi:P.info? e=some i) (hz:i.zero=some z) (hpos:0<i.size) (hzs:z.cells.size=i.size) (hsome:(ofVal z).isSome=true)
  {b off n c m:Nat} {cs:List AV} (hs:Sim σ w) (hx:act.eval x = .slice (some ⟨b,off,none⟩) n c) (hy:act.eval y = .int k' m) (hbo:σ b=some (.obj cs)) (hl:leaves (((ofVal z).map AV.cells).getD [])=true)
  (hb:(n+m)*i.bytes<=140737488355328) (h63:n+m<=4611686018427387904) (h0:off+n*i.size<=cs.length)
  (hK1:n+m<=c->off+(n+m)*i.size<=cs.length/\K (.msl b off (n+m) c) (σ.set b (some (.obj (splice cs (off+n*i.size) (m*i.size) (List.replicate m (((ofVal z).map AV.cells).getD [])).flatten)))))
  (hK2:c<n+m->∀ b' c',σ b'=none->n+m<=c'->K (.msl b' 0 (n+m) c') (σ.set b' (some (.obj (ownRow i.size (((ofVal z).map AV.cells).getD []) ((cs.drop off).take (n*i.size)++(List.replicate m (((ofVal z).map AV.cells).getD [])).flatten) (n+m) c'))))):Goes P o act σ w K next Q:=by
 have hzr:=zav_reps (σ:=σ) (w:=w) hsome
 generalize ((ofVal z).map AV.cells).getD []=za at *
 have hzl:za.length=i.size:=by rw [hzr.length,Array.length_toList,hzs]
 have hfl:(List.replicate m za).flatten.length=m*i.size:=by rw [flatten_len,hzl]
 have hmul:(n+m)*i.size=n*i.size+m*i.size:=Nat.add_mul _ _ _
 have hmb:m*i.bytes<=140737488355328:=by rw [Nat.add_mul] at hb;omega
 by_cases hroom:n+m<=c
 ·obtain ⟨h1,h2⟩:=hK1 hroom
  have hone:=leaves_one hzr hl
  have hones:∀ v∈(List.replicate m z.cells.toList).flatten,v.oneCell'=true:=by
   intro v hv
   obtain ⟨q,hq,hvq⟩:=List.mem_flatten.1 hv
   rw [List.eq_of_mem_replicate hq] at hvq
   exact hone v hvq
  obtain ⟨g1,g2,g3⟩:=write_obj (P:=P) hs hbo (hzr.flatten m) hones (off:=off+n*i.size) (by rw [hfl];omega)
  rw [hfl] at g2 g3
  exact goes_builtin ho (by rw [hx,hy];exact run_appm_room ht hu hi hz hpos hzs hroom hmb (by omega) g1) h2 g2 g3 (.msl _ _ _ _)
 ·obtain ⟨vs,h1,h2,_⟩:=hs.objCell hbo
  have hvl:=h1.length
  have hus:=(h1.drop off).take (n*i.size)
  have hul:((vs.drop off).take (n*i.size)).length=n*i.size:=by rw [List.length_take,List.length_drop];omega
  have hold:(Builtin.firstCells i.size n (.slice (some ⟨b,off,none⟩) n c)).run P w.drew = .ok ((vs.drop off).take (n*i.size)).toArray w.drew:=
   run_firstCells_some w.drew _ _ _ _ _ _ hul (fun j v hj=>by
    rw [addr_add']
    rw [List.getElem?_take] at hj
    split at hj
    ·exact h2 (off+j) v (by simpa using hj)
    ·cases hj)
  have hrun:=run_appm_grow (ty:=o.type) (k':=k') ht hu hi hz hpos hzs (base:=some ⟨b,off,none⟩) (by omega) hmb h63 (growslice_fits (by omega) hb) hold
  have hge:=grownCap_ge w (n+m) c e
  generalize grownCap w (n+m) c e=c' at *
  obtain ⟨g1,g2,g3⟩:=own_role (e:=e) (N:=n+m) (c':=c') hzs hzr hs hus (hzr.flatten m)
  exact goes_builtin ho (by rw [hx,hy];exact hrun) (hK2 (by omega) _ c' g3 hge) g1 g2 (.msl _ _ _ _)
theorem map_erase {α β:Type} (f:α->β):∀ (l:List α) (j:Nat),(l.eraseIdx j).map f=(l.map f).eraseIdx j
 | [],j=>by simp
 | x::l,0=>rfl
 | x::l,j+1=>by simp [map_erase f l j]
theorem map_write {b:Nat} {l l':List (Int×Int)} {es es':Array MapEntry} {clock clock':Nat} (hs:Sim σ w) (hb:σ b=some (.map l)) (hr:w.heap[b]? = some (.map es clock)) (hl:es'.toList.map (fun e=>(e.key,e.val))=prs l') :
  Le σ w (σ.set b (some (.map l'))) { w with heap:=w.heap.setIfInBounds b (.map es' clock') }/\Sim (σ.set b (some (.map l'))) { w with heap:=w.heap.setIfInBounds b (.map es' clock') }:=by
 have hlt:=(Array.getElem?_eq_some_iff.1 hr).1
 have hoth:∀ x,x≠b->(w.heap.setIfInBounds b (.map es' clock'))[x]? = w.heap[x]? := fun x hx=>by rw [Array.getElem?_setIfInBounds_ne (Ne.symm hx)]
 have hle:Le σ w (σ.set b (some (.map l'))) { w with heap:=w.heap.setIfInBounds b (.map es' clock') }:=by
  refine ⟨rfl,rfl,rfl,by simp,fun x hx hn=>?_,fun x cs hx hn=>?_,fun x f hx hn=>?_⟩
  ·have hne:x≠b:=by rintro rfl;rw [hb] at hn;cases hn
   rw [ASt.set_ne hne];exact ⟨hn,hoth x hne⟩
  ·have hne:x≠b:=by rintro rfl;rw [hb] at hn;cases hn
   rw [ASt.set_ne hne];exact ⟨.inr hn,hoth x hne⟩
  ·have hne:x≠b:=by rintro rfl;rw [hb] at hn;cases hn
   rw [ASt.set_ne hne]
   exact ⟨.inr ⟨f,Nat.le_refl _,hn⟩,shape_of_heap_eq (hoth x hne),fun o _=>cell_of_heap_eq (hoth x hne) o⟩
 refine ⟨hle,?_⟩
 intro x q hx
 by_cases hne:x=b
 ·subst hne
  rw [ASt.set_same] at hx
  injection hx with hx
  subst hx
  exact ⟨es',clock',by simp [hlt],hl⟩
 ·rw [ASt.set_ne hne] at hx
  exact (hs x q hx).keep hle (by simp [Array.getElem?_setIfInBounds_ne (Ne.symm hne)])
theorem maps_write {b:Nat} {l l':List (Int×List UInt8)} {es es':Array MapEntry} {clock clock':Nat} (hs:Sim σ w) (hb:σ b=some (.maps l)) (hr:w.heap[b]? = some (.map es clock)) (hl:es'.toList.map (fun e=>(e.key,e.val))=prss l'/\MapKept.Stamped es' clock') :
  Le σ w (σ.set b (some (.maps l'))) { w with heap:=w.heap.setIfInBounds b (.map es' clock') }/\Sim (σ.set b (some (.maps l'))) { w with heap:=w.heap.setIfInBounds b (.map es' clock') }:=by
 have hlt:=(Array.getElem?_eq_some_iff.1 hr).1
 have hoth:∀ x,x≠b->(w.heap.setIfInBounds b (.map es' clock'))[x]? = w.heap[x]? := fun x hx=>by rw [Array.getElem?_setIfInBounds_ne (Ne.symm hx)]
 have hle:Le σ w (σ.set b (some (.maps l'))) { w with heap:=w.heap.setIfInBounds b (.map es' clock') }:=by
  refine ⟨rfl,rfl,rfl,by simp,fun x hx hn=>?_,fun x cs hx hn=>?_,fun x f hx hn=>?_⟩
  ·have hne:x≠b:=by rintro rfl;rw [hb] at hn;cases hn
   rw [ASt.set_ne hne];exact ⟨hn,hoth x hne⟩
  ·have hne:x≠b:=by rintro rfl;rw [hb] at hn;cases hn
   rw [ASt.set_ne hne];exact ⟨.inr hn,hoth x hne⟩
  ·have hne:x≠b:=by rintro rfl;rw [hb] at hn;cases hn
   rw [ASt.set_ne hne]
   exact ⟨.inr ⟨f,Nat.le_refl _,hn⟩,shape_of_heap_eq (hoth x hne),fun o _=>cell_of_heap_eq (hoth x hne) o⟩
 refine ⟨hle,?_⟩
 intro x q hx
 by_cases hne:x=b
 ·subst hne
  rw [ASt.set_same] at hx
  injection hx with hx
  subst hx
  exact ⟨es',clock',by simp [hlt],hl⟩
 ·rw [ASt.set_ne hne] at hx
  exact (hs x q hx).keep hle (by simp [Array.getElem?_setIfInBounds_ne (Ne.symm hne)])
theorem run_mset {T:TypeId} {b:Nat} {es:Array MapEntry} {clock:Nat} {l:List (Int×Int)} (hT:intMap P T=true) (hb:w.heap[b]? = some (.map es clock)) (hl:es.toList.map (fun e=>(e.key,e.val))=prs l) (k v:Int) :
  ∃ es' clock',(Instr.mapUpdate T (.map (some b)) (.int .i64 k) (.int .i64 v)).run P w = .ok () { w with heap:=w.heap.setIfInBounds b (.map es' clock') }/\es'.toList.map (fun e=>(e.key,e.val))=prs (putM l k v):=by
 obtain ⟨kt,et,h1,h2,h3⟩:=intMap_spec hT
 have hf:=findNow_I (k:=k) 0 hl
 have hk:MapKept.IsKey (.int .i64) (Value.int .i64 k):=rfl
 cases hfi:findI l k 0 with
 | none=>
   rw [hfi] at hf
   obtain ⟨g1,_⟩:=findI_none hfi
   refine ⟨es.push { key := .int .i64 k,val := .int .i64 v,born:=clock },clock+1,?_,?_⟩
   ·simp [Instr.mapUpdate,run_und h1,MapKept.run_getObj_map hb,MapKept.run_checkKey h2 hk,MapKept.run_findKey h2 hf,MapKept.run_setObj_map _ hb,Result.andThen]
   ·rw [congrFun g1 v]
    simp [prsG,hl]
 | some q=>
   obtain ⟨j,u⟩:=q
   rw [hfi] at hf
   obtain ⟨d,hd,hg,hp⟩:=findI_at hfi
   rw [Nat.zero_add] at hd
   subst hd
   have hlen:es.size=l.length:=by have:=congrArg List.length hl;simpa [prsG] using this
   have hjl:=(List.getElem?_eq_some_iff.1 hg).1
   obtain ⟨e,he⟩:∃ e,es[j]? = some e:=⟨_,Array.getElem?_eq_getElem (by omega)⟩
   have hke:e.key = .int .i64 k:=by
    have:=congrArg (fun z:List (Value×Value)=>z[j]?) hl
    simp only [prsG,List.getElem?_map,Array.getElem?_toList,he,hg,Option.map_some,Option.some.injEq,Prod.mk.injEq] at this
    exact this.1
   refine ⟨es.modify j fun e => { e with key := .int .i64 k,val := .int .i64 v },clock,?_,?_⟩
   ·simp [Instr.mapUpdate,run_und h1,MapKept.run_getObj_map hb,MapKept.run_checkKey h2 hk,MapKept.run_findKey h2 hf,he,hke,MapKept.run_keyThatStays hk,MapKept.run_setObj_map _ hb,Result.andThen]
   ·rw [congrFun hp v]
    apply List.ext_getElem?
    intro i
    have hi:=congrArg (fun z:List (Value×Value)=>z[i]?) hl
    simp only [prsG,List.getElem?_map,Array.getElem?_toList] at hi
    simp only [prsG,List.getElem?_map,Array.getElem?_toList,Array.getElem?_modify]
    by_cases hij:j=i
    ·subst hij
     have htl:(l.take j).length=j:=by rw [List.length_take];omega
     rw [if_pos rfl,he,List.getElem?_append_right (by omega),htl,Nat.sub_self]
     rfl
    ·rw [if_neg hij,hi]
     congr 1
     by_cases hlt:i<j
     ·rw [List.getElem?_append_left (by rw [List.length_take];omega),List.getElem?_take,if_pos hlt]
     ·have htl:(l.take j).length=j:=by rw [List.length_take];omega
      rw [List.getElem?_append_right (by omega),htl]
      obtain ⟨m,hm⟩:∃ m,i-j=m+1:=⟨i-j-1,by omega⟩
      rw [hm,List.getElem?_cons_succ,List.getElem?_drop]
      congr 1
      omega
theorem findI_ne {α:Type}:∀ {l:List (Int×α)} {k:Int} {i:Nat},findI l k i=none->∀ y∈l,k≠y.1
 | p::l,k,i,h,y,hy=>by
   rw [findI] at h
   by_cases hk:k=p.1
   ·rw [if_pos hk] at h;cases h
   ·rw [if_neg hk] at h
    rcases List.mem_cons.1 hy with rfl|hy
    ·exact hk
    ·exact findI_ne h y hy
theorem run_msets {T:TypeId} {b:Nat} {es:Array MapEntry} {clock:Nat} {l:List (Int×List UInt8)} (hT:strMap P T=true) (hb:w.heap[b]? = some (.map es clock)) (hl:es.toList.map (fun e=>(e.key,e.val))=prss l) (hst:MapKept.Stamped es clock) (k:Int) (v:List UInt8) :
  ∃ es' clock',(Instr.mapUpdate T (.map (some b)) (.int .i64 k) (strG v)).run P w = .ok () { w with heap:=w.heap.setIfInBounds b (.map es' clock') }/\es'.toList.map (fun e=>(e.key,e.val))=prss (putM l k v)/\MapKept.Stamped es' clock':=by
 obtain ⟨kt,et,h1,h2,h3⟩:=strMap_spec hT
 have hf:=findNow_I (k:=k) 0 hl
 have hk:MapKept.IsKey (.int .i64) (Value.int .i64 k):=rfl
 cases hfi:findI l k 0 with
 | none=>
   rw [hfi] at hf
   obtain ⟨g1,g2⟩:=findI_none hfi
   refine ⟨es.push { key := .int .i64 k,val:=strG v,born:=clock },clock+1,?_,?_,MapKept.stamped_push hst fun x hx he=>?_⟩
   ·simp [Instr.mapUpdate,run_und h1,MapKept.run_getObj_map hb,MapKept.run_checkKey h2 hk,MapKept.run_findKey h2 hf,MapKept.run_setObj_map _ hb,Result.andThen]
   ·rw [congrFun g1 v]
    simp [prsG,hl]
   ·have hm:(x.key,x.val)∈prss l:=by rw [<-hl];exact List.mem_map.2 ⟨x,hx,rfl⟩
    unfold prsG at hm
    obtain ⟨y,hy,hye⟩:=List.mem_map.1 hm
    injection hye with h5 h6
    rw [he] at h5
    injection h5 with h5 h7
    exact findI_ne hfi y hy h7.symm
 | some q=>
   obtain ⟨j,u⟩:=q
   rw [hfi] at hf
   obtain ⟨d,hd,hg,hp⟩:=findI_at hfi
   rw [Nat.zero_add] at hd
   subst hd
   have hlen:es.size=l.length:=by have:=congrArg List.length hl;simpa [prsG] using this
   have hjl:=(List.getElem?_eq_some_iff.1 hg).1
   obtain ⟨e,he⟩:∃ e,es[j]? = some e:=⟨_,Array.getElem?_eq_getElem (by omega)⟩
   have hke:e.key = .int .i64 k:=by
    have:=congrArg (fun z:List (Value×Value)=>z[j]?) hl
    simp only [prsG,List.getElem?_map,Array.getElem?_toList,he,hg,Option.map_some,Option.some.injEq,Prod.mk.injEq] at this
    exact this.1
   refine ⟨es.modify j fun e => { e with key := .int .i64 k,val:=strG v },clock,?_,?_,MapKept.stamped_modify hst _ _ (fun _ _=>rfl) fun e' _ he'=>by rw [he] at he';injection he' with he';rw [<-he',hke]⟩
   ·simp [Instr.mapUpdate,run_und h1,MapKept.run_getObj_map hb,MapKept.run_checkKey h2 hk,MapKept.run_findKey h2 hf,he,hke,MapKept.run_keyThatStays hk,MapKept.run_setObj_map _ hb,Result.andThen]
   ·rw [congrFun hp v]
    apply List.ext_getElem?
    intro i
    have hi:=congrArg (fun z:List (Value×Value)=>z[i]?) hl
    simp only [prsG,List.getElem?_map,Array.getElem?_toList] at hi
    simp only [prsG,List.getElem?_map,Array.getElem?_toList,Array.getElem?_modify]
    by_cases hij:j=i
    ·subst hij
     have htl:(l.take j).length=j:=by rw [List.length_take];omega
     rw [if_pos rfl,he,List.getElem?_append_right (by omega),htl,Nat.sub_self]
     rfl
    ·rw [if_neg hij,hi]
     congr 1
     by_cases hlt:i<j
     ·rw [List.getElem?_append_left (by rw [List.length_take];omega),List.getElem?_take,if_pos hlt]
     ·have htl:(l.take j).length=j:=by rw [List.length_take];omega
      rw [List.getElem?_append_right (by omega),htl]
      obtain ⟨m,hm⟩:∃ m,i-j=m+1:=⟨i-j-1,by omega⟩
      rw [hm,List.getElem?_cons_succ,List.getElem?_drop]
      congr 1
      omega
theorem run_mdel {T K:TypeId} {ty:TypeId} {b:Nat} {es:Array MapEntry} {clock:Nat} {l:List (Int×Int)} (hT:intMap P T=true) (hb:w.heap[b]? = some (.map es clock)) (hl:es.toList.map (fun e=>(e.key,e.val))=prs l) (k:Int) :
  ∃ es' clock',(Builtin.delete_ #[T,K] ty #[.map (some b),.int .i64 k]).run P w = .ok (.tuple #[]) { w with heap:=w.heap.setIfInBounds b (.map es' clock') }/\es'.toList.map (fun e=>(e.key,e.val))=prs (delM l k):=by
 obtain ⟨kt,et,h1,h2,h3⟩:=intMap_spec hT
 have hf:=findNow_I (k:=k) 0 hl
 have hk:MapKept.IsKey (.int .i64) (Value.int .i64 k):=rfl
 cases hfi:findI l k 0 with
 | none=>
   rw [hfi] at hf
   obtain ⟨_,g1⟩:=findI_none hfi
   refine ⟨es,clock,?_,by rw [g1];exact hl⟩
   simp [Builtin.delete_,run_und h1,MapKept.run_getObj_map hb,MapKept.run_checkKey h2 hk,MapKept.run_findKey h2 hf,MapKept.run_setObj_map _ hb,Result.andThen]
 | some q=>
   obtain ⟨j,u⟩:=q
   rw [hfi] at hf
   have hg:=findI_del hfi
   rw [Nat.sub_zero] at hg
   refine ⟨es.eraseIdxIfInBounds j,clock,?_,?_⟩
   ·simp [Builtin.delete_,run_und h1,MapKept.run_getObj_map hb,MapKept.run_checkKey h2 hk,MapKept.run_findKey h2 hf,MapKept.run_setObj_map _ hb,Result.andThen]
   ·obtain ⟨d,hd,hgl,_⟩:=findI_at hfi
    rw [Nat.zero_add] at hd
    subst hd
    have hlen:es.size=l.length:=by have:=congrArg List.length hl;simpa [prsG] using this
    have hjl:=(List.getElem?_eq_some_iff.1 hgl).1
    rw [hg]
    unfold Array.eraseIdxIfInBounds
    rw [dif_pos (by omega)]
    simp only [Array.toList_eraseIdx,prsG]
    rw [map_erase,map_erase,hl]
    rfl
theorem goes_mkm {T:TypeId} {o:Oper} {act:Act} {next:Act->World->Prop} {Q:Exit->Act->World->Prop} {K:AV->ASt->Prop} (ho:o.op = .makeMap T none) (hs:Sim σ w)
  (hK:∀ b,σ b=none->K (.map (some b)) (σ.set b (some (.map [])))):Goes P o act σ w K next Q:=by
 intro hnext
 have hp:Pushed w (w.alloc (.map #[] 0)) _:=Pushed.alloc w _
 obtain ⟨h1,h2,h3⟩:=new_role hp hs (r := .map []) fun hle=>⟨#[],0,hp.new,rfl⟩
 have hrun:(execOp act.eval o).run P w = .ok (.value (.map (some w.heap.size))) (w.alloc (.map #[] 0)):=by
  simp only [execOp,ho]
  exact run_value rfl
 unfold Oper.wp
 rw [hrun]
 exact hnext _ _ _ _ (hK _ h3) h1 h2 (.map _)
theorem goes_mkms {T:TypeId} {o:Oper} {act:Act} {next:Act->World->Prop} {Q:Exit->Act->World->Prop} {K:AV->ASt->Prop} (ho:o.op = .makeMap T none) (hs:Sim σ w)
  (hK:∀ b,σ b=none->K (.map (some b)) (σ.set b (some (.maps [])))):Goes P o act σ w K next Q:=by
 intro hnext
 have hp:Pushed w (w.alloc (.map #[] 0)) _:=Pushed.alloc w _
 obtain ⟨h1,h2,h3⟩:=new_role hp hs (r := .maps []) fun hle=>⟨#[],0,hp.new,rfl,MapKept.stamped_empty 0⟩
 have hrun:(execOp act.eval o).run P w = .ok (.value (.map (some w.heap.size))) (w.alloc (.map #[] 0)):=by
  simp only [execOp,ho]
  exact run_value rfl
 unfold Oper.wp
 rw [hrun]
 exact hnext _ _ _ _ (hK _ h3) h1 h2 (.map _)
theorem goes_mset {T:TypeId} {m x y:Operand} {o:Oper} {act:Act} {next:Act->World->Prop} {Q:Exit->Act->World->Prop} {K:AV->ASt->Prop} (ho:o.op = .mapUpdate T m x y) (hT:intMap P T=true) (hs:Sim σ w) {b:Nat} {k v:Int} {l:List (Int×Int)}
  (hm:act.eval m = .map (some b)) (hx:act.eval x = .int .i64 k) (hy:act.eval y = .int .i64 v) (hb:σ b=some (.map l)) (hK:K .any (σ.set b (some (.map (putM l k v))))):Goes P o act σ w K next Q:=by
 intro hnext
 obtain ⟨es,clock,h1,h2⟩:=hs b _ hb
 obtain ⟨es',clock',h3,h4⟩:=run_mset hT h1 h2 k v
 obtain ⟨h5,h6⟩:=map_write (clock':=clock') hs hb h1 h4
 have hrun:(execOp act.eval o).run P w = .ok .skip { w with heap:=w.heap.setIfInBounds b (.map es' clock') }:=by
  simp only [execOp,ho,hm,hx,hy,Sem.run_bind,h3]
  rfl
 unfold Oper.wp
 rw [hrun]
 exact hnext _ _ _ _ hK h5 h6 (.any _)
theorem goes_msets {T:TypeId} {m x y:Operand} {o:Oper} {act:Act} {next:Act->World->Prop} {Q:Exit->Act->World->Prop} {K:AV->ASt->Prop} (ho:o.op = .mapUpdate T m x y) (hT:strMap P T=true) (hs:Sim σ w) {b:Nat} {k:Int} {v:List UInt8} {l:List (Int×List UInt8)}
  (hm:act.eval m = .map (some b)) (hx:act.eval x = .int .i64 k) (hy:act.eval y=strG v) (hb:σ b=some (.maps l)) (hK:K .any (σ.set b (some (.maps (putM l k v))))):Goes P o act σ w K next Q:=by
 intro hnext
 obtain ⟨es,clock,h1,h2⟩:=hs b _ hb
 obtain ⟨es',clock',h3,h4⟩:=run_msets hT h1 h2.1 h2.2 k v
 obtain ⟨h5,h6⟩:=maps_write (clock':=clock') hs hb h1 h4
 have hrun:(execOp act.eval o).run P w = .ok .skip { w with heap:=w.heap.setIfInBounds b (.map es' clock') }:=by
  simp only [execOp,ho,hm,hx,hy,Sem.run_bind,h3]
  rfl
 unfold Oper.wp
 rw [hrun]
 exact hnext _ _ _ _ hK h5 h6 (.any _)
theorem goes_mdel {t u:TypeId} {x y:Operand} {o:Oper} {act:Act} {next:Act->World->Prop} {Q:Exit->Act->World->Prop} {K:AV->ASt->Prop} (ho:o.op = .call { callee := .builtin .delete,args:=⟨[x,y]⟩,argTypes:=⟨[t,u]⟩ }) (hT:intMap P t=true) (hs:Sim σ w) {b:Nat} {k:Int} {l:List (Int×Int)}
  (hx:act.eval x = .map (some b)) (hy:act.eval y = .int .i64 k) (hb:σ b=some (.map l)) (hK:K .any (σ.set b (some (.map (delM l k))))):Goes P o act σ w K next Q:=by
 intro hnext
 obtain ⟨es,clock,h1,h2⟩:=hs b _ hb
 obtain ⟨es',clock',h3,h4⟩:=run_mdel (K:=u) (ty:=o.type) hT h1 h2 k
 obtain ⟨h5,h6⟩:=map_write (clock':=clock') hs hb h1 h4
 have hrun:(execOp act.eval o).run P w = .ok (.value (.tuple #[])) { w with heap:=w.heap.setIfInBounds b (.map es' clock') }:=by
  obtain ⟨dst,op,type,pos,after,guard⟩:=o
  subst ho
  refine run_builtin (map_two act x y) (fun _=>rfl) ?_
  rw [hx,hy]
  exact h3
 unfold Oper.wp
 rw [hrun]
 exact hnext _ _ _ _ hK h5 h6 (.any _)
theorem leaf_cells {x:AV} (h:x.leaf=true):x.cells = [x]:=by cases x<;>first|rfl|cases h
theorem leaves_flat:∀ {ys:List AV},leaves ys=true->ys.flatMap AV.cells=ys/\∀ y∈ys,y.cells.length=1
 | [],_=>⟨rfl,fun y h=>by cases h⟩
 | x::ys,h=>by
   simp only [leaves,Bool.and_eq_true] at h
   obtain ⟨h1,h2⟩:=leaves_flat h.2
   refine ⟨by rw [List.flatMap_cons,leaf_cells h.1,h1];rfl,fun y hy=>?_⟩
   rcases List.mem_cons.1 hy with rfl|hy
   ·rw [leaf_cells h.1];rfl
   ·exact h2 y hy
theorem leaves_take:∀ {ys:List AV} (n:Nat),leaves ys=true->leaves (ys.take n)=true
 | [],n,_=>by simp [leaves]
 | x::ys,0,_=>rfl
 | x::ys,n+1,h=>by
   simp only [leaves,Bool.and_eq_true] at h
   simp only [List.take_succ_cons,leaves,Bool.and_eq_true]
   exact ⟨h.1,leaves_take n h.2⟩
theorem src_vals {y:AV} {v:Value} {ys:List AV} (hs:Sim σ w) (h:Rep σ w y v) (hy:srcOf σ y=some ys) (hl:leaves ys=true) :
  ∃ A c us,v = .slice A ys.length c/\Reps σ w ys us/\us.length=ys.length/\(ys = []\/∃ b o,A=some ⟨b,o,none⟩/\∀ (j:Nat) (u:Value),us[j]? = some u->w.cell? ⟨b,o+j,none⟩=some u):=by
 unfold srcOf at hy
 split at hy
 ·rename_i k xs
  injection hy with hy;subst hy
  obtain ⟨h1,h2⟩:=leaves_flat hl
  cases hv:v with
  | slice A n c=>
    subst hv
    obtain ⟨us,g1,g2,g3,_,g4⟩:=sl_vals h h2
    rw [h1] at g1
    subst g3
    exact ⟨A,c,us,rfl,g1,g1.length.symm,g4⟩
  | _=>subst hv;cases h
 ·rename_i b o n c
  split at hy
  ·rename_i ds hk
   split at hy
   ·rename_i hle
    injection hy with hy;subst hy
    cases h
    obtain ⟨vs,g1,g2⟩:=hs.known hk
    have hll:((ds.drop o).take n).length=n:=by rw [List.length_take,List.length_drop];omega
    have g3:=(g1.drop o).take n
    refine ⟨some ⟨b,o,none⟩,c,(vs.drop o).take n,by rw [hll],g3,g3.length.symm,.inr ⟨b,o,rfl,fun j u hj=>?_⟩⟩
    rw [List.getElem?_take] at hj
    split at hj
    ·exact g2 (o+j) u (by simpa using hj)
    ·cases hj
   ·cases hy
  ·cases hy
 ·cases hy
theorem src_one {y:AV} {v:Value} {ys:List AV} {u e':TypeId} (hu:P.underlying u=some (.slice e')) (hs:Sim σ w) (h:Rep σ w y v) (hy:srcOf σ y=some ys) (hl:leaves ys=true) :
  ∃ news,Src P 1 u v ys.length news w/\Reps σ w ys news:=by
 obtain ⟨A,c,us,rfl,h1,h2,h3⟩:=src_vals hs h hy hl
 refine ⟨us,?_,h1⟩
 rcases h3 with rfl|⟨b,o,rfl,h4⟩
 ·have:us = []:=List.eq_nil_of_length_eq_zero h2
  subst this
  cases A with
  | none=>exact Src.ofNil w hu c
  | some A=>exact Src.ofSlice w hu A 0 c [] (by simp) (by simp) (by simp)
 ·exact Src.ofSlice w hu _ _ c us (by omega) (fun j v hj=>by rw [addr_add'];exact h4 j v hj) (leaves_one h1 hl)
theorem goes_cps {o:Oper} {t u e:TypeId} {i:TypeInfo} {x y:Operand} {act:Act} {next:Act->World->Prop} {Q:Exit->Act->World->Prop} {K:AV->ASt->Prop}
  (ho:o.op = .call { callee := .builtin .copy,args:=⟨[x,y]⟩,argTypes:=⟨[t,u]⟩ }) (ht:P.underlying t=some (.slice e)) (hi:P.info? e=some i) (h1:i.size=1)
  {b off n c:Nat} {yv:AV} {ys cs:List AV} (hs:Sim σ w) (hx:act.eval x = .slice (some ⟨b,off,none⟩) n c) (hy:Rep σ w yv (act.eval y)) (hsrc:srcOf σ yv=some ys) (hl:leaves ys=true) (hb:σ b=some (.obj cs)) (hfit:off+n<=cs.length)
  (hK:K (.int .i64 (ys.take n).length) (σ.set b (some (.obj (splice cs off (ys.take n).length (ys.take n)))))):Goes P o act σ w K next Q:=by
 intro hnext
 obtain ⟨A,cc,us,hv,g1,g2,g3⟩:=src_vals hs hy hsrc hl
 have hm:Nat.min ys.length n=(ys.take n).length:=by rw [List.length_take,Nat.min_comm]
 have hul:(us.take n).length=(ys.take n).length:=by rw [List.length_take,List.length_take,g2]
 have hle:(ys.take n).length<=n:=by rw [List.length_take];omega
 obtain ⟨k1,k2,k3⟩:=write_obj (P:=P) hs hb (g1.take n) (leaves_one (g1.take n) (leaves_take n hl)) (off:=off) (by omega)
 have hfc:(Builtin.firstCells 1 (ys.take n).length (.slice A ys.length cc)).run P w = .ok (us.take n).toArray w:=by
  rcases g3 with rfl|⟨b2,o2,rfl,g4⟩
  ·have:us = []:=List.eq_nil_of_length_eq_zero g2
   subst this
   cases A with
   | none=>simpa using run_firstCells_none (P:=P) w 1 0 0 cc
   | some A=>simpa using run_firstCells_some (P:=P) w 1 0 A 0 cc [] (by simp) (by simp)
  ·refine run_firstCells_some (P:=P) w 1 _ _ _ cc (us.take n) (by omega) (fun j v hj=>?_)
   rw [addr_add']
   rw [List.getElem?_take] at hj
   split at hj
   ·exact g4 j v hj
   ·cases hj
 have hrun:(Builtin.copy_ #[t,u] o.type #[act.eval x,act.eval y]).run P w = .ok (.int .i64 (ys.take n).length) (w.setCells b off (us.take n)):=by
  rw [hx,hv]
  simp only [Builtin.copy_,List.getElem?_toArray,List.getElem?_cons_zero,List.getElem?_cons_succ,Sem.run_bind,run_und ht,Result.andThen,Builtin.lenOf,Sem.run_pure,hm,run_so hi,h1,hfc,k1,goInt]
 have hex:(execOp act.eval o).run P w = .ok (.value (.int .i64 (ys.take n).length)) (w.setCells b off (us.take n)):=by
  obtain ⟨dst,op,type,pos,after,guard⟩:=o
  subst ho
  exact run_builtin (map_two act x y) (fun _=>rfl) hrun
 unfold Oper.wp
 rw [hex]
 exact hnext _ _ _ _ hK k2 k3 (.int _ _)
theorem ovl_find {fn : Func} (hn : fn.name = "slices.overlaps[uint64]" ∨ fn.name = "slices.overlaps[int]") (ho : fn.origin = "slices.overlaps") :
  Extern.findNext fn=none/\Extern.find fn=some (Extern.SlicesOverlaps.overlaps fn.params fn.resultTypes):=by
 unfold Extern.findNext Extern.find
 rcases hn with hn|hn
 ·rw [hn,ho]
  exact ⟨rfl,rfl⟩
 ·rw [hn,ho]
  exact ⟨rfl,rfl⟩
theorem goes_ovl {o:Oper} {c:Call} {x y:Operand} {f:FuncId} {act:Act} {next:Act->World->Prop} {Q:Exit->Act->World->Prop} {K:AV->ASt->Prop}
  (ho:o.op = .call c) (hc:c.callee = .value (.func f)) (hca:c.args=⟨[x,y]⟩) (hf:ovlFn P f=true) (hs:Sim σ w) {xs cs:List AV} {b off n k:Nat} (hx:Rep σ w (.sl .lit xs) (act.eval x)) (hy:act.eval y = .slice (some ⟨b,off,none⟩) n k)
  (hb:σ b=some (.obj cs)) (h0:0<cs.length) (hK:K (.bool false) σ):Goes P o act σ w K next Q:=by
 intro hnext
 unfold ovlFn at hf
 split at hf
 ·rename_i fn hfn
  simp only [Bool.and_eq_true,Bool.or_eq_true,beq_iff_eq] at hf
  obtain ⟨⟨⟨hbody,hname⟩,horig⟩,hpar⟩:=hf
  obtain ⟨hfx,hfd⟩:=ovl_find hname horig
  split at hpar
  ·rename_i t u r hp hr
   simp only [Bool.and_eq_true,beq_iff_eq] at hpar
   obtain ⟨rfl,hpar⟩:=hpar
   split at hpar
   ·rename_i e hu
    obtain ⟨i,hi⟩:=Option.isSome_iff_exists.1 hpar
    have hpa:fn.params = #[t,t]:=by apply Array.ext';simpa using hp
    have hra:fn.resultTypes = #[r]:=by apply Array.ext';simpa using hr
    have hrun:(Extern.SlicesOverlaps.overlaps fn.params fn.resultTypes #[act.eval x,act.eval y]).run P w = .ok (.bool false) w:=by
     rw [hpa,hra,hy]
     obtain ⟨cc,T,fr,g1,g2,_⟩:=hs b _ hb
     have hcl:cs.length<=cc.size:=by have:=g2.length;simp at this;omega
     cases hv:act.eval x with
     | slice A m q=>
       rw [hv] at hx
       cases hx with
       | sl h1 h2 h3 h4 h5=>
         obtain ⟨_,rfl,h6,ds,T2,h7⟩:=h4
         refine Lib.run_overlaps_apart w t r e hu i.size (fun w=>run_so hi) ⟨_,0,none⟩ ⟨b,off,none⟩ m q n k ?_ T2 T ds.size cc.size ?_ ?_ (by omega) ?_ ?_
         ·intro heq
          simp only at heq
          rw [heq,hb] at h6
          rcases h6 with h6|⟨_,h6⟩<;>cases h6
         ·simp [World.shape?,h7]
         ·simp [World.shape?,g1]
         ·simp [World.frozen?,h7]
         ·simp [World.frozen?,h7]
     | _=>rw [hv] at hx;cases hx
    have hargs:c.args.map act.eval = #[act.eval x,act.eval y]:=by rw [hca];exact map_two act x y
    have hex:(execOp act.eval o).run P w = .ok (.value (.bool false)) w:=by
     have hnm : (fn.name == "runtime.NumGoroutine") = false := by
      rcases hname with hname|hname<;>rw [hname]<;>decide
     have hcx:act.eval (.func f) = .func (.func f) #[] #[]:=rfl
     simp only [execOp,ho,resolve,hc,hcx,Deferred.ofValue,Sem.run_bind,Sem.run_pure,Result.andThen,invoke,hargs]
     have harr : #[] ++ #[act.eval x,act.eval y] ++ #[] = #[act.eval x,act.eval y]:=by apply Array.ext';simp
     rw [harr,run_callFunc_extern hfn hnm hbody hfx hfd,hrun]
     rfl
    unfold Oper.wp
    rw [hex]
    exact hnext _ _ _ _ hK (Le.refl _ _) hs (.bool _)
   ·cases hpar
  ·cases hpar
 ·cases hf
theorem goes_isn {o:Oper} {op:BinOp} {T T':TypeId} {x y:Operand} {act:Act} {next:Act->World->Prop} {Q:Exit->Act->World->Prop} {K:AV->ASt->Prop} (ho:o.op = .binOp op T x y T') (he:isEq op=true) (hT:isSlT P T=true) (hy:y = .const (.slice none 0 0))
  (hs:Sim σ w) {A:Option Addr} {n c:Nat} (hx:act.eval x = .slice A n c) (hK:K (.bool (if (op == .neq)=true then !A.isNone else A.isNone)) σ):Goes P o act σ w K next Q:=by
 intro hnext
 unfold isSlT at hT
 split at hT
 ·rename_i e hu
  have h1:(Op.equal T (.slice A n c) (.slice none 0 0)).run P w = .ok A.isNone w:=by
   unfold Op.equal Op.maxDepth Op.equalIn
   cases A<;>simp [underlying,program,hu,Sem.run,bind,Sem.bind,pure]
  have h2:(Go.binOp op T (.slice A n c) (.slice none 0 0)).run P w = .ok (.bool (if (op == .neq)=true then !A.isNone else A.isNone)) w:=by
   cases op<;>simp only [isEq,Bool.false_eq_true] at he<;>(simp only [Go.binOp,Sem.run_bind,h1,Result.andThen];rfl)
  have h3:(eqGuard op T x y (.slice A n c) (.slice none 0 0)).run P w = .ok () w:=by
   cases op<;>simp only [isEq,Bool.false_eq_true] at he<;>rfl
  have hey:act.eval y = .slice none 0 0:=by rw [hy];rfl
  have hex:(execOp act.eval o).run P w = .ok (.value (.bool (if (op == .neq)=true then !A.isNone else A.isNone))) w:=by
   obtain ⟨dst,op',type,pos,after,guard⟩:=o
   subst ho
   simp only [execOp,Sem.run_bind,hx,hey,h3,Result.andThen,h2]
   rfl
  unfold Oper.wp
  rw [hex]
  exact hnext _ _ _ _ hK (Le.refl _ _) hs (.bool _)
 ·cases hT
theorem opds_len:∀ {xs:List Operand} {ys:List Opd},opds xs=some ys->ys.length=xs.length
 | [],ys,h=>by injection h with h;subst h;rfl
 | x::xs,ys,h=>by
   unfold opds at h
   split at h
   ·rename_i h1 h2
    injection h with h;subst h
    simp [opds_len h2]
   ·cases h
theorem compE_sound {o:Oper} {q:EOp} {a:AFr} {act:Act} {next:Act->World->Prop} {Q:Exit->Act->World->Prop} {K:AV->ASt->Prop} (hq:compE P o=some q) (hs:Sim σ w)
  (hl:∀ t,Operand.tmp t∈o.op.operands.toList->Rep σ w (a t) (act.tmps.getD t undef)) (h:q.step P a σ K):Goes P o act σ w K next Q:=by
 obtain ⟨dst,op,type,pos,after,guard⟩:=o
 cases op<;>simp only [compE] at hq<;>simp only [Op.operands] at hl<;>(try cases hq;done)
 case binOp op T x y T'=>
  split at hq
  ·rename_i x' hx hy
   split at hq
   ·rename_i hc
    injection hq with hq;subst hq
    simp only [Bool.and_eq_true] at hc
    have hxr:=opd_rep (σ:=σ) (w:=w) hx fun t ht=>hl t (by simp [ht])
    have hyn:=opd_nils hy
    simp only [EOp.step] at h
    generalize hu:act.eval x=u at hxr
    split at h
    ·rename_i k hxe
     rw [hxe] at hxr
     have both:∀ (A:Option Addr) (n c:Nat),u = .slice A n c->Goes P ⟨dst,.binOp op T x y T',type,pos,after,guard⟩ act σ w K next Q:=fun A n c hu2=>
      goes_isn rfl hc.1 hc.2 hyn hs (hu.trans hu2) (by cases A<;>cases op<;>first|exact h.1|exact h.2)
     cases hxr with
     | slE A c=>exact both _ _ _ rfl
     | slN=>exact both _ _ _ rfl
     | sl h1 h2 h3 h4 h5=>exact both _ _ _ rfl
    ·rename_i k y0 ys hxe
     rw [hxe] at hxr
     cases hxr with
     | sl h1 h2 h3 h4 h5=>exact goes_isn rfl hc.1 hc.2 hyn hs hu (by cases op<;>exact h)
    ·rename_i b off n c hxe
     rw [hxe] at hxr
     cases hxr
     exact goes_isn rfl hc.1 hc.2 hyn hs hu (by cases op<;>exact h)
    ·exact h.elim
   ·cases hq
  ·cases hq
 case alloc T=>
  split at hq
  ·rename_i i hi
   split at hq
   ·rename_i hv
    injection hq with hq;subst hq
    exact goes_allocT rfl hs hi hv h
   ·split at hq
    ·rename_i z hz
     injection hq with hq;subst hq
     exact goes_alloc rfl hs hz h
    ·cases hq
  ·cases hq
 case convert S D x=>
  split at hq
  ·rename_i x' e hx hS hD
   split at hq
   ·rename_i he
    injection hq with hq;subst hq
    have hxr:=opd_rep (σ:=σ) (w:=w) hx fun t ht=>hl t (by simp [ht])
    simp only [EOp.step] at h
    split at h
    ·rename_i l hxe
     rw [hxe] at hxr
     generalize hu:act.eval x=u at hxr
     cases hxr
     exact goes_s2b (x:=x) rfl hS hD he hs hu h
    ·exact h.elim
   ·rename_i he
    injection hq with hq;subst hq
    have hxr:=opd_rep (σ:=σ) (w:=w) hx fun t ht=>hl t (by simp [ht])
    simp only [EOp.step] at h
    split at h
    ·rename_i l hxe
     rw [hxe] at hxr
     generalize hu:act.eval x=u at hxr
     cases hxr
     exact goes_s2r (x:=x) rfl hS hD he hs hu h.1 h.2
    ·exact h.elim
   ·cases hq
  ·cases hq
 case makeSlice T n m=>
  split at hq
  ·rename_i e n' m' hT hn hm
   split at hq
   ·rename_i i z hi hz
    split at hq
    ·rename_i hc
     injection hq with hq;subst hq
     have hnr:=opd_rep (σ:=σ) (w:=w) hn fun t ht=>hl t (by simp [ht])
     have hmr:=opd_rep (σ:=σ) (w:=w) hm fun t ht=>hl t (by simp [ht])
     simp only [EOp.step] at h
     split at h
     ·rename_i kn N km M hne hme
      obtain ⟨h1,h2,h3,h4,h5⟩:=h
      rw [hne] at hnr
      rw [hme] at hmr
      generalize hun:act.eval n=un at hnr
      generalize hum:act.eval m=um at hmr
      cases hnr
      cases hmr
      exact goes_mks (n:=n) (m:=m) rfl hT hi hz hc.1 hc.2.1 hc.2.2 hs hun hum h1 h2 h3 h4 h5
     ·exact h.elim
    ·split at hq
     ·rename_i hc
      injection hq with hq;subst hq
      have hnr:=opd_rep (σ:=σ) (w:=w) hn fun t ht=>hl t (by simp [ht])
      have hmr:=opd_rep (σ:=σ) (w:=w) hm fun t ht=>hl t (by simp [ht])
      simp only [EOp.step] at h
      split at h
      ·rename_i kn N km M hne hme
       obtain ⟨h1,h2,h3,h4,h5⟩:=h
       rw [hne] at hnr
       rw [hme] at hmr
       generalize hun:act.eval n=un at hnr
       generalize hum:act.eval m=um at hmr
       cases hnr
       cases hmr
       exact goes_mkb (n:=n) (m:=m) rfl hT hi hz hc.1 hc.2.1 hc.2.2 hs hun hum h1 h2 h3 h4 h5
      ·exact h.elim
     ·cases hq
   ·cases hq
  ·cases hq
 case makeMap T r=>
  cases r with
  | some r=>cases hq
  | none=>
    simp only at hq
    split at hq
    ·injection hq with hq;subst hq
     exact goes_mkm rfl hs h
    ·split at hq
     ·injection hq with hq;subst hq
      exact goes_mkms rfl hs h
     ·cases hq
 case mapUpdate T m k v=>
  split at hq
  ·rename_i m' k' v' hm hk hv
   split at hq
   ·rename_i hT
    injection hq with hq;subst hq
    have hmr:=opd_rep (σ:=σ) (w:=w) hm fun t ht=>hl t (by simp [ht])
    have hkr:=opd_rep (σ:=σ) (w:=w) hk fun t ht=>hl t (by simp [ht])
    have hvr:=opd_rep (σ:=σ) (w:=w) hv fun t ht=>hl t (by simp [ht])
    simp only [EOp.step] at h
    split at h
    ·rename_i b kk vv hme hke hve
     split at h
     ·rename_i l hml
      rw [hme] at hmr
      rw [hke] at hkr
      rw [hve] at hvr
      generalize hum:act.eval m=um at hmr
      generalize huk:act.eval k=uk at hkr
      generalize huv:act.eval v=uv at hvr
      cases hmr
      cases hkr
      cases hvr
      unfold mapAt at hml
      split at hml
      ·rename_i l' hb
       injection hml with hml;subst hml
       exact goes_mset rfl hT hs hum huk huv hb h
      ·cases hml
     ·exact h.elim
    ·exact h.elim
   ·split at hq
    ·rename_i hT
     injection hq with hq;subst hq
     have hmr:=opd_rep (σ:=σ) (w:=w) hm fun t ht=>hl t (by simp [ht])
     have hkr:=opd_rep (σ:=σ) (w:=w) hk fun t ht=>hl t (by simp [ht])
     have hvr:=opd_rep (σ:=σ) (w:=w) hv fun t ht=>hl t (by simp [ht])
     simp only [EOp.step] at h
     split at h
     ·rename_i b kk vv hme hke hve
      split at h
      ·rename_i l hml
       rw [hme] at hmr
       rw [hke] at hkr
       rw [hve] at hvr
       generalize hum:act.eval m=um at hmr
       generalize huk:act.eval k=uk at hkr
       generalize huv:act.eval v=uv at hvr
       cases hmr
       cases hkr
       cases hvr
       unfold mapsAt at hml
       split at hml
       ·rename_i l' hb
        injection hml with hml;subst hml
        exact goes_msets rfl hT hs hum huk huv hb h
       ·cases hml
      ·exact h.elim
     ·exact h.elim
    ·cases hq
  ·cases hq
 case range T x=>
  split at hq
  ·rename_i x' hT hx
   injection hq with hq;subst hq
   have hxr:=opd_rep (σ:=σ) (w:=w) hx fun t ht=>hl t (by simp [ht])
   simp only [EOp.step] at h
   split at h
   ·rename_i l hxe
    rw [hxe] at hxr
    generalize hu:act.eval x=u at hxr
    cases hxr
    exact goes_rng (x:=x) rfl hT hs hu h
   ·exact h.elim
  ·cases hq
 case next x isS=>
  cases isS with
  | false=>cases hq
  | true=>
    simp only at hq
    cases hx:opd x with
    | none=>simp [hx] at hq
    | some x'=>
      simp only [hx,Option.map_some,Option.some.injEq] at hq
      subst hq
      have hxr:=opd_rep (σ:=σ) (w:=w) hx fun t ht=>hl t (by simp [ht])
      simp only [EOp.step] at h
      split at h
      ·rename_i b hxe
       split at h
       ·rename_i l p hb
        rw [hxe] at hxr
        generalize hu:act.eval x=u at hxr
        cases hxr
        exact goes_nxt (x:=x) rfl hs hu hb h
       ·exact h.elim
      ·exact h.elim
 case panic x=>
  injection hq with hq;subst hq
  exact h.elim
 case box T x=>
  cases hx:opd x with
  | none=>simp [hx] at hq
  | some x'=>
    simp only [hx,Option.map_some,Option.some.injEq] at hq
    subst hq
    have hxr:=opd_rep (σ:=σ) (w:=w) hx fun t ht=>hl t (by simp [ht])
    exact goes_box rfl hs hxr h.1 h.2
 case store T p x=>
  split at hq
  ·rename_i p' x' n hp hx hn
   injection hq with hq;subst hq
   have hpr:=opd_rep (σ:=σ) (w:=w) hp fun t ht=>hl t (by simp [ht])
   have hxr:=opd_rep (σ:=σ) (w:=w) hx fun t ht=>hl t (by simp [ht])
   simp only [EOp.step] at h
   split at h
   ·rename_i b off hpe
    split at h
    ·rename_i cs hb
     obtain ⟨h1,h2,h3,h4⟩:=h
     rw [hpe] at hpr
     generalize hu:act.eval p=u at hpr
     cases hpr
     exact goes_store (x:=x) rfl hn hs hu hxr hb h1 h2 h3 h4
    ·exact h.elim
   ·exact h.elim
  ·cases hq
 case call c=>
  obtain ⟨callee,⟨args⟩,⟨ats⟩⟩:=c
  cases callee with
  | invoke r m=>cases hq
  | value f=>
    have viaV:∀ {args':List Opd} {x':Opd},opds args=some args'->opd f=some x'->q = .callv x' args'->Goes P ⟨dst,.call { callee := .value f,args:=⟨args⟩,argTypes:=⟨ats⟩ },type,pos,after,guard⟩ act σ w K next Q:=by
     rintro args' x' ha hx rfl
     have hxr:=opd_rep (σ:=σ) (w:=w) hx fun t ht=>hl t (by simp [Call.operands,ht])
     have har:=opds_rep (σ:=σ) (w:=w) ha fun t ht=>hl t (by simp [Call.operands,ht])
     simp only [EOp.step] at h
     split at h
     ·rename_i g first cap hxe
      rw [hxe] at hxr
      generalize hu:act.eval f=u at hxr
      cases hxr with
      | func h1 h2=>exact goes_call rfl rfl hu h.1 hs h1 h2 har h.2
     ·exact h.elim
    simp only at hq
    cases ha:opds args with
    | none=>cases f<;>simp [ha] at hq
    | some as'=>
      have gen:∀ x',opd f=some x'->(opd f).map (fun x=>EOp.callv x as')=some q->Goes P ⟨dst,.call { callee := .value f,args:=⟨args⟩,argTypes:=⟨ats⟩ },type,pos,after,guard⟩ act σ w K next Q:=by
       intro x' hx hq
       rw [hx] at hq
       simp only [Option.map_some,Option.some.injEq] at hq
       exact viaV ha hx hq.symm
      cases f with
      | func g=>
        simp only [ha] at hq
        split at hq
        ·rename_i hok
         injection hq with hq;subst hq
         have har:=opds_rep (σ:=σ) (w:=w) ha fun t ht=>hl t (by simp [Call.operands,ht])
         refine goes_call (first := []) (cap := []) rfl rfl (by rfl) hok hs .nil .nil har ?_
         simpa [EOp.step] using h
        ·match as',hq,ha with
         | [x',y'],hq,ha=>
           simp only at hq
           split at hq
           ·rename_i hov
            injection hq with hq;subst hq
            match args,ha,hl with
            | [x,y],ha,hl=>
              have har:=opds_rep (σ:=σ) (w:=w) (xs := [x,y]) ha fun t ht=>hl t (by simp [Call.operands,ht])
              simp only [EOp.step] at h
              split at h
              ·rename_i xs b off n k hxe hye
               split at h
               ·rename_i cs hb
                simp only [List.map_cons,List.map_nil,hxe,hye] at har
                cases har with
                | cons h1 h2=>
                  cases h2 with
                  | cons h2 h3=>
                    generalize huy:act.eval y=uy at h2
                    cases h2
                    exact goes_ovl rfl rfl rfl hov hs h1 huy hb h.1 h.2
               ·exact h.elim
              ·exact h.elim
            | [],ha,hl=>exact absurd (opds_len ha) (by simp)
            | [x],ha,hl=>exact absurd (opds_len ha) (by simp)
            | x::y::z::r,ha,hl=>exact absurd (opds_len ha) (by simp)
           ·cases hq
         | [],hq,_=>cases hq
         | [_],hq,_=>cases hq
         | _::_::_::_,hq,_=>cases hq
      | tmp t=>simp only [ha] at hq;exact gen _ rfl hq
      | global g=>simp only [ha] at hq;exact gen _ rfl hq
      | const v=>
        simp only [ha] at hq
        cases hx:opd (.const v) with
        | none=>rw [hx] at hq;cases hq
        | some x'=>exact gen x' hx hq
  | builtin b=>
    cases b<;>(try simp only at hq)<;>(try cases hq;done)
    case append=>
     match args,ats,hq with
     | [x,y],[t,u],hq=>
       simp only at hq
       split at hq
       ·rename_i x' y' e hx hy ht
        have hxr:=opd_rep (σ:=σ) (w:=w) hx fun t ht=>hl t (by simp [Call.operands,ht])
        have hyr:=opd_rep (σ:=σ) (w:=w) hy fun t ht=>hl t (by simp [Call.operands,ht])
        split at hq
        ·rename_i i e' hi hu
         split at hq
         ·rename_i z hz
          split at hq
          ·rename_i hc
           injection hq with hq;subst hq
           simp only [EOp.step] at h
           have hza:∀ v',ofVal z=some v'->Reps σ w v'.cells z.cells.toList:=fun v' hv'=>(ofVal_rep hv').cells (by
            rintro rfl
            unfold ofVal at hv'
            split at hv'
            ·rename_i cs
             cases h:ofLeaves cs.toList<;>simp [h] at hv'
            ·unfold ofLeaf at hv'
             split at hv'<;>cases hv')
           split at h
           ·rename_i k xs k2 ys hxe hye
            obtain ⟨h1,h2,h3,h4,h5,h6⟩:=h
            rw [hxe] at hxr
            rw [hye] at hyr
            obtain ⟨news,hsrc,hr⟩:=src_of hu hyr (wellSz_lens h2) h3
            rcases h6 with h6|⟨rfl,hy0,h6⟩|⟨rfl,h6⟩
            ·exact goes_app rfl ht hi hz hc.1 hc.2.1 hs hxr h1 hsrc (wellSz_lens h2) hr h4 h5 h6
            ·exact goes_own rfl ht hi hz hc.2.1 hc.2.2 hza hs hxr h1 hsrc hr h4 h5 hy0 h6
            ·have hnews:news = []:=by cases hr;rfl
             subst hnews
             exact goes_app0 rfl ht hi hs hxr hsrc h6
           ·rename_i b o n c k2 ys hxe hye
            split at h
            ·rename_i cs hb
             obtain ⟨h2,h3,h4,h5,h0,h6,h7⟩:=h
             rw [hxe] at hxr
             rw [hye] at hyr
             obtain ⟨news,hsrc,hr⟩:=src_of hu hyr (wellSz_lens h2) h3
             exact goes_msl rfl ht hi hz hc.2.1 hc.2.2 hza hs hxr hb hsrc hr h4 h5 h0 h6 h7
            ·exact h.elim
           ·rename_i b o n c b2 o2 n2 c2 hxe hye
            split at h
            ·rename_i cs ys hb hsr
             obtain ⟨hs1,hlv,h4,h5,h0,h6,h7⟩:=h
             rw [hxe] at hxr
             rw [hye] at hyr
             obtain ⟨hfl,_⟩:=leaves_flat hlv
             obtain ⟨news,hsrc,hr⟩:=src_one hu hs hyr hsr hlv
             have hyl:n2=ys.length:=by
              unfold srcOf at hsr
              simp only at hsr
              split at hsr
              ·split at hsr
               ·injection hsr with hsr;rw [<-hsr,List.length_take,List.length_drop];omega
               ·cases hsr
              ·cases hsr
             subst hyl
             rw [<-hs1] at hsrc
             exact goes_msl rfl ht hi hz hc.2.1 hc.2.2 hza hs hxr hb hsrc (by rw [hfl];exact hr) h4 h5 (by rw [hs1,Nat.mul_one];exact h0) (fun hroom=>by rw [hs1,Nat.mul_one,Nat.mul_one,Nat.mul_one,hfl];exact h6 hroom) (fun hg b' c' hb' hc'=>by rw [hs1,Nat.mul_one,hfl];exact h7 hg b' c' hb' hc')
            ·exact h.elim
           ·exact h.elim
          ·cases hq
         ·cases hq
        ·rename_i i hi hu
         split at hq
         ·rename_i z hz
          split at hq
          ·rename_i hc
           injection hq with hq;subst hq
           simp only [EOp.step] at h
           split at h
           ·rename_i k xs l hxe hye
            obtain ⟨h1,h2,h6⟩:=h
            rw [hxe] at hxr
            rw [hye] at hyr
            generalize huy:act.eval y=uy at hyr
            cases hyr
            have hsrc:Src P i.size u (act.eval y) (l.map fun c=>AV.int .u8 c.toNat).length (l.map fun c=>Value.int .u8 c.toNat) w:=by
             rw [huy,List.length_map,hc.1];exact src_str hu
            have hfl:(l.map fun c=>AV.int .u8 c.toNat).flatMap AV.cells=l.map fun c=>AV.int .u8 c.toNat:=flat_one (by simp [AV.cells])
            refine goes_app rfl ht hi hz (by omega) (by omega) hs hxr (by rw [hc.1];exact h1) hsrc (by rw [hc.1];simp [AV.cells]) (by rw [hfl];exact Reps.bytes l) (by rw [hc.2.1,List.length_map];omega) (by rw [List.length_map];omega) ?_
            rw [hc.1,List.length_map]
            exact h6
           ·exact h.elim
          ·cases hq
         ·cases hq
        ·rename_i i k hi hu
         split at hq
         ·rename_i z hz
          split at hq
          ·rename_i hc
           injection hq with hq;subst hq
           simp only [EOp.step] at h
           split at h
           ·rename_i b o n c km m hxe hye
            split at h
            ·rename_i cs hb
             obtain ⟨h0,h1,h2,h3,h4,h5,h6⟩:=h
             rw [hxe] at hxr
             rw [hye] at hyr
             generalize hux:act.eval x=ux at hxr
             generalize huy:act.eval y=uy at hyr
             cases hxr
             cases hyr
             obtain ⟨M,rfl⟩:∃ M:Nat,m=(M:Int):=⟨m.toNat,by omega⟩
             simp only [Int.toNat_natCast] at h2 h3 h5 h6
             exact goes_appm rfl ht hu hi hz hc.1 hc.2.1 hc.2.2 hs hux huy hb h0 h2 h3 h4 h5 h6
            ·exact h.elim
           ·exact h.elim
          ·cases hq
         ·cases hq
        ·cases hq
       ·cases hq
    case delete=>
     match args,ats,hq with
     | [x,y],[t,u],hq=>
       simp only at hq
       split at hq
       ·rename_i x' y' hx hy
        split at hq
        ·rename_i hT
         injection hq with hq;subst hq
         have hxr:=opd_rep (σ:=σ) (w:=w) hx fun t ht=>hl t (by simp [Call.operands,ht])
         have hyr:=opd_rep (σ:=σ) (w:=w) hy fun t ht=>hl t (by simp [Call.operands,ht])
         simp only [EOp.step] at h
         split at h
         ·rename_i b kk hxe hye
          split at h
          ·rename_i l hml
           rw [hxe] at hxr
           rw [hye] at hyr
           generalize hux:act.eval x=ux at hxr
           generalize huy:act.eval y=uy at hyr
           cases hxr
           cases hyr
           unfold mapAt at hml
           split at hml
           ·rename_i l' hb
            injection hml with hml;subst hml
            exact goes_mdel rfl hT hs hux huy hb h
           ·cases hml
          ·exact h.elim
         ·exact h.elim
        ·cases hq
       ·cases hq
    case clear=>
     match args,ats,hq with
     | [x],[t],hq=>
       simp only at hq
       split at hq
       ·rename_i x' e hx ht
        have hxr:=opd_rep (σ:=σ) (w:=w) hx fun t ht=>hl t (by simp [Call.operands,ht])
        split at hq
        ·rename_i i hi
         split at hq
         ·rename_i z hz
          split at hq
          ·rename_i hc
           injection hq with hq;subst hq
           simp only [EOp.step] at h
           split at h
           ·rename_i b o n c hxe
            split at h
            ·rename_i cs hb
             obtain ⟨h0,h1,h2⟩:=h
             rw [hxe] at hxr
             generalize hux:act.eval x=ux at hxr
             cases hxr
             exact goes_clr rfl ht hi hz hc hs hux hb h0 h1 h2
            ·exact h.elim
           ·exact h.elim
          ·cases hq
         ·cases hq
        ·cases hq
       ·cases hq
    case copy=>
     match args,ats,hq with
     | [x,y],[t,u],hq=>
       simp only at hq
       split at hq
       ·rename_i x' y' e hx hy ht
        have hxr:=opd_rep (σ:=σ) (w:=w) hx fun t ht=>hl t (by simp [Call.operands,ht])
        have hyr:=opd_rep (σ:=σ) (w:=w) hy fun t ht=>hl t (by simp [Call.operands,ht])
        split at hq
        ·rename_i i hi hu
         split at hq
         ·rename_i hc
          injection hq with hq;subst hq
          simp only [EOp.step] at h
          split at h
          ·rename_i b o n c l hxe hye
           split at h
           ·rename_i cs hb
            rw [hxe] at hxr
            rw [hye] at hyr
            generalize hux:act.eval x=ux at hxr
            generalize huy:act.eval y=uy at hyr
            cases hxr
            cases hyr
            exact goes_cpy rfl ht hi hc hs hux huy hb h.1 h.2
           ·exact h.elim
          ·exact h.elim
         ·cases hq
        ·rename_i i e' hi hu
         split at hq
         ·rename_i hc
          injection hq with hq;subst hq
          simp only [EOp.step] at h
          split at h
          ·rename_i b o n c ys hxe hye
           split at h
           ·rename_i cs hb
            rw [hxe] at hxr
            generalize hux:act.eval x=ux at hxr
            cases hxr
            exact goes_cps rfl ht hi hc hs hux hyr hye h.1 hb h.2.1 h.2.2
           ·exact h.elim
          ·exact h.elim
         ·cases hq
        ·cases hq
       ·cases hq
end
end Go.A
namespace Go.A
inductive AOp where
 | q (q:QOp)
 | e (e:EOp)
 deriving Inhabited
structure Watch where
 guard:Option (Nat×Bool)
 q:QOp
 dst:Nat
 deriving Inhabited
structure AItem where
 dst:Option Nat
 guard:Option (Nat×Bool)
 op:AOp
 watch:List Watch
 deriving Inhabited
def watchOk (a:AFr) (σ:ASt):List Watch->Prop
 | []=>True
 | x::xs=>(match x.guard with
   | none=>x.q.ev a σ=some (a x.dst)
   | some (t,want)=>a t = .bool want->x.q.ev a σ=some (a x.dst))/\watchOk a σ xs
def AOp.step (P:Program) (op:AOp) (a:AFr) (σ:ASt) (K:AV->ASt->Prop):Prop:=
 match op with
 | .q x=>match x.ev a σ with
   | some v=>K v σ
   | none=>False
 | .e x=>x.step P a σ K
theorem AOp.step_mono {P:Program} {op:AOp} {a:AFr} {σ:ASt} {K K':AV->ASt->Prop} (h:op.step P a σ K) (hk:∀ v σ',K v σ'->K' v σ'):op.step P a σ K':=by
 cases op with
 | q q=>
   simp only [AOp.step] at h ⊢
   split at h
   ·exact hk _ _ h
   ·exact h.elim
 | e e=>exact EOp.step_mono h hk
def AItem.step (P:Program) (it:AItem) (K:AFr->ASt->Prop) (a:AFr) (σ:ASt):Prop:=
 it.op.step P a σ fun v σ'=>watchOk (a.put it.dst v) σ' it.watch/\K (a.put it.dst v) σ'
def AV.word:AV->Option (Option Bool)
 | .bool b=>some (some b)
 | .tuple []=>some none
 | _=>none
def uword:Value->Option Bool
 | .bool b=>some b
 | _=>none
theorem word_bool {v:AV} {b:Bool} (h:v.word=some (some b)):v = .bool b:=by
 unfold AV.word at h
 split at h<;>simp at h
 subst h;rfl
theorem word_rep {σ:ASt} {w:World} {v:AV} {u:Value} {x:Option Bool} (h:v.word=some x) (hr:Rep σ w v u):uword u=x:=by
 unfold AV.word at h
 split at h
 ·injection h with h;subst h;cases hr;rfl
 ·injection h with h;subst h;cases hr with
  | tuple h1=>rfl
 ·cases h
def runI (P:Program):List AItem->(AFr->ASt->Prop)->AFr->ASt->Prop
 | [],K,a,σ=>K a σ
 | it::rest,K,a,σ=>match it.guard with
   | none=>it.step P (runI P rest K) a σ
   | some (t,want)=>match (a t).word with
     | some x=>if x=some want then it.step P (runI P rest K) a σ else runI P rest K (a.put it.dst (.tuple [])) σ
     | none=>False
theorem runI_mono {P:Program}:∀ (l:List AItem) (K1 K2:AFr->ASt->Prop),(∀ a σ,K1 a σ->K2 a σ)->∀ a σ,runI P l K1 a σ->runI P l K2 a σ:=by
 intro l
 induction l with
 | nil=>exact fun K1 K2 h a σ hh=>h _ _ hh
 | cons it r ih=>
   intro K1 K2 h a σ hh
   have st:it.step P (runI P r K1) a σ->it.step P (runI P r K2) a σ:=fun hst=>AOp.step_mono hst fun v σ' hv=>⟨hv.1,ih _ _ h _ _ hv.2⟩
   simp only [runI] at hh ⊢
   split
   ·rename_i hg;rw [hg] at hh;exact st hh
   ·rename_i t want hg
    rw [hg] at hh
    simp only at hh
    split
    ·rename_i b hb
     rw [hb] at hh
     simp only at hh
     split
     ·rename_i hbw;rw [if_pos hbw] at hh;exact st hh
     ·rename_i hbw;rw [if_neg hbw] at hh;exact ih _ _ h _ _ hh
    ·rename_i hne
     rw [hne] at hh
     exact hh
theorem runI_app {P:Program}:∀ (xs ys:List AItem) (K:AFr->ASt->Prop),runI P (xs++ys) K=runI P xs (runI P ys K)
 | [],ys,K=>rfl
 | x::xs,ys,K=>by
   funext a σ
   simp only [List.cons_append,runI,runI_app xs ys K]
def stepI (P:Program) (it:AItem) (K:AFr->ASt->Prop) (a:AFr) (σ:ASt):Prop:=match it.guard with
 | none=>it.step P K a σ
 | some (t,want)=>match (a t).word with
   | some x=>if x=some want then it.step P K a σ else K (a.put it.dst (.tuple [])) σ
   | none=>False
theorem stepI_mono {P:Program} {it:AItem} {K1 K2:AFr->ASt->Prop} (h:∀ a σ,K1 a σ->K2 a σ) {a:AFr} {σ:ASt} (hh:stepI P it K1 a σ):stepI P it K2 a σ:=by
 have st:it.step P K1 a σ->it.step P K2 a σ:=fun hst=>AOp.step_mono hst fun v σ' hv=>⟨hv.1,h _ _ hv.2⟩
 unfold stepI at hh ⊢
 split
 ·rename_i hg;rw [hg] at hh;exact st hh
 ·rename_i t want hg
  rw [hg] at hh
  simp only at hh
  split
  ·rename_i b hb
   rw [hb] at hh
   simp only at hh
   split
   ·rename_i hbw;rw [if_pos hbw] at hh;exact st hh
   ·rename_i hbw;rw [if_neg hbw] at hh;exact h _ _ hh
  ·rename_i hne
   rw [hne] at hh
   exact hh
inductive ATree where
 | done
 | seg (l:List AItem) (t:ATree)
 | both (t u:ATree)
 deriving Inhabited
def runT (P:Program):ATree->(AFr->ASt->Prop)->AFr->ASt->Prop
 | .done,K,a,σ=>K a σ
 | .seg l t,K,a,σ=>runI P l (runT P t K) a σ
 | .both t u,K,a,σ=>runT P t K a σ/\runT P u K a σ
theorem runT_mono {P:Program} {K1 K2:AFr->ASt->Prop} (h:∀ a σ,K1 a σ->K2 a σ):∀ (t:ATree) (a:AFr) (σ:ASt),runT P t K1 a σ->runT P t K2 a σ
 | .done,_,_,hh=>h _ _ hh
 | .seg l t,a,σ,hh=>runI_mono l _ _ (fun a σ hh=>runT_mono h t a σ hh) a σ hh
 | .both t u,a,σ,hh=>⟨runT_mono h t a σ hh.1,runT_mono h u a σ hh.2⟩
theorem runI_swap {P:Program} {d1 d2:Option Nat} {z1 z2:List AV} (hd:∀ d,d1=some d->d2≠some d) {rest:List AItem} {K:AFr->ASt->Prop} {a:AFr} {σ:ASt}
  (h:runI P (⟨d1,none,.e (.alloc z1),[]⟩::⟨d2,none,.e (.alloc z2),[]⟩::rest) K a σ):runI P (⟨d2,none,.e (.alloc z2),[]⟩::⟨d1,none,.e (.alloc z1),[]⟩::rest) K a σ:=by
 simp only [runI,AItem.step,AOp.step,EOp.step,watchOk,true_and] at h ⊢
 intro b2 hb2 b1 hb1
 have hne:b1≠b2:=by rintro rfl;rw [ASt.set_same] at hb1;cases hb1
 rw [ASt.set_ne hne] at hb1
 have:=h b1 hb1 b2 (by rw [ASt.set_ne (Ne.symm hne)];exact hb2)
 have e1:(σ.set b1 (some (.obj z1))).set b2 (some (.obj z2))=(σ.set b2 (some (.obj z2))).set b1 (some (.obj z1)):=by
  funext x
  simp only [ASt.set]
  by_cases h1:x=b1
  ·subst h1;simp [hne]
  ·by_cases h2:x=b2
   ·subst h2;simp [h1]
   ·simp [h1,h2]
 have e2:(a.put d1 (.ptr b1 0)).put d2 (.ptr b2 0)=(a.put d2 (.ptr b2 0)).put d1 (.ptr b1 0):=by
  cases d1 with
  | none=>rfl
  | some x=>
    cases d2 with
    | none=>rfl
    | some y=>
      have hxy:x≠y:=fun h=>hd x rfl (by rw [h])
      funext t
      simp only [AFr.put,AFr.upd]
      by_cases h1:t=x
      ·subst h1;simp [hxy]
      ·by_cases h2:t=y
       ·subst h2;simp [h1]
       ·simp [h1,h2]
 rw [e1,e2] at this
 exact this
def compG (l:List Oper) (o:Oper):Option (Option (Nat×Bool)):=
 match o.guard with
 | none=>some none
 | some (j,want)=>match (l[j]?).bind (·.dst) with
   | some t=>some (some (t,want))
   | none=>none
def compO (P:Program) (o:Oper):Option AOp:=
 match compQ P o with
 | some q=>some (.q q)
 | none=>match compE P o with
   | some e=>some (.e e)
   | none=>none
def dstOk (n:Nat) (o:Oper):Bool:=
 match o.dst with
 | some d=>decide (d<n)
 | none=>true
def tmpOk (n:Nat):Operand->Bool
 | .tmp t=>decide (t<n)
 | _=>true
def gOk (n:Nat):Option (Nat×Bool)->Bool
 | some (t,_)=>decide (t<n)
 | none=>true
def compI (P:Program) (n:Nat) (l:List Oper) (o:Oper):Option AItem:=
 match compG l o,compO P o with
 | some g,some op=>if dstOk n o && o.op.operands.toList.all (tmpOk n) && gOk n g then some { dst:=o.dst,guard:=g,op:=op,watch := [] } else none
 | _,_=>none
def compL (P:Program) (n:Nat) (l:List Oper):List Oper->Option (List AItem)
 | []=>some []
 | o::os=>match compI P n l o,compL P n l os with
   | some it,some its=>some (it::its)
   | _,_=>none
section
variable {P:Program}
theorem compI_spec {n:Nat} {l:List Oper} {o:Oper} {it:AItem} (h:compI P n l o=some it) :
  it.dst=o.dst/\compG l o=some it.guard/\compO P o=some it.op/\it.watch = []/\(∀ d,o.dst=some d->d<n)/\(∀ t,Operand.tmp t∈o.op.operands.toList->t<n)/\(∀ t b,it.guard=some (t,b)->t<n):=by
 unfold compI at h
 split at h
 ·rename_i g op hg ho
  split at h
  ·rename_i hc
   injection h with h;subst h
   simp only [Bool.and_eq_true,List.all_eq_true] at hc
   refine ⟨rfl,hg,ho,rfl,fun d hd=>?_,fun t ht=>by simpa [tmpOk] using hc.1.2 _ ht,fun t b hb=>?_⟩
   ·have:=hc.1.1;simp only [dstOk,hd,decide_eq_true_eq] at this;exact this
   ·have:=hc.2;simp only at hb;rw [hb] at this;simpa [gOk] using this
  ·cases h
 ·cases h
theorem guard_none {l:List Oper} {o:Oper} (h:compG l o=some none) (tmps:Array Value):Region.wanted o (yielded l.toArray tmps)=true:=by
 unfold compG at h
 split at h
 ·rename_i hg;simp [Region.wanted,hg]
 ·split at h<;>simp at h
theorem guard_some {l:List Oper} {o:Oper} {t:Nat} {want:Bool} {x:Option Bool} {u:Value} (h:compG l o=some (some (t,want))) {tmps:Array Value} (hb:tmps[t]? = some u) (hu:uword u=x):Region.wanted o (yielded l.toArray tmps)=(x==some want):=by
 unfold compG at h
 split at h
 ·simp at h
 ·rename_i j w' hg
  split at h
  ·rename_i t' ht
   simp only [Option.some.injEq,Prod.mk.injEq] at h
   obtain ⟨rfl,rfl⟩:=h
   have ht':(l.toArray[j]?).bind (·.dst)=some t':=by simpa using ht
   simp only [Region.wanted,hg,yielded,ht',Option.bind_some,hb]
   rw [<-hu]
   cases u<;>rfl
  ·cases h
theorem compO_wp {n:Nat} {σ:ASt} {w:World} {o:Oper} {op:AOp} {a:AFr} {act:Act} {next:Act->World->Prop} {Q:Exit->Act->World->Prop} {K:AV->ASt->Prop} (hc:compO P o=some op) (hs:Sim σ w)
  (hl:∀ t,Operand.tmp t∈o.op.operands.toList->Rep σ w (a t) (act.tmps.getD t undef))
  (h:op.step P a σ K)
  (hnext:∀ v σ' u w',K v σ'->Le σ w σ' w'->Sim σ' w'->Rep σ' w' v u->next (act.put o.dst u) w'):o.wp P act w next Q:=by
 unfold compO at hc
 split at hc
 ·rename_i q hq
  injection hc with hc;subst hc
  simp only [AOp.step] at h
  split at h
  ·rename_i v hv
   obtain ⟨u,w',h1,h2,h3,h4⟩:=compQ_sound hq hv hs hl
   unfold Oper.wp
   rw [h1]
   exact hnext _ _ _ _ h h2 h3 h4
  ·exact h.elim
 ·split at hc
  ·rename_i e he
   injection hc with hc;subst hc
   exact compE_sound he hs hl h hnext
  ·cases hc
theorem getD_of_lt {α:Type} {xs:Array α} {t:Nat} (d:α) (h:t<xs.size):xs[t]? = some (xs.getD t d):=by
 simp [Array.getElem?_eq_getElem h,Array.getD,h]
theorem run_plain {n:Nat} {D:List Deferred} {l:List Oper} {K:AFr->ASt->Prop} {Q:Exit->Act->World->Prop} {σ0:ASt} {w0:World} (hQ:∀ a σ act w,K a σ->Le σ0 w0 σ w->Sim σ w->FRel n D σ w a act->Q .normal act w) :
  ∀ (os:List Oper) (k:Nat) (its:List AItem),l.drop k=os->compL P n l os=some its->∀ (a:AFr) (σ:ASt) (act:Act) (w:World),runI P its K a σ->Le σ0 w0 σ w->Sim σ w->FRel n D σ w a act →
   wpOps P l.toArray Q (List.range' k os.length) act w
 | [],k,its,hk,hc,a,σ,act,w,h,hle,hs,hf=>by
   injection hc with hc;subst hc
   exact hQ a σ act w h hle hs hf
 | o::os,k,its,hk,hc,a,σ,act,w,h,hle,hs,hf=>by
   unfold compL at hc
   split at hc
   ·rename_i it its' h1 h2
    injection hc with hc;subst hc
    obtain ⟨hd,hg,ho,hw,hdn,hln,hgn⟩:=compI_spec h1
    have hlk:l[k]? = some o:=by
     have:(l.drop k)[0]? = some o:=by rw [hk];rfl
     simpa using this
    have hk':l.drop (k+1)=os:=by rw [<-List.drop_drop,hk];rfl
    have ih:=run_plain hQ os (k+1) its' hk' h2
    have hlo:l.toArray[k]? = some o:=by simpa using hlk
    simp only [List.length_cons,List.range'_succ,wpOps,hlo]
    have go:it.step P (runI P its' K) a σ->o.wp P act w (wpOps P l.toArray Q (List.range' (k+1) os.length)) Q:=fun hst=>by
     refine compO_wp (n:=n) (K:=fun v σ'=>runI P its' K (a.put it.dst v) σ') ho hs (fun t ht=>hf.rep t (hln t ht)) (AOp.step_mono hst fun v σ' hh=>hh.2) (fun v σ' u w' h3 h4 h5 h6=>?_)
     rw [hd] at h3
     exact ih _ _ _ _ h3 (hle.trans h4) h5 ((hf.mono h4).put _ hdn h6)
    simp only [runI] at h
    split at h
    ·rename_i hgd
     rw [hgd] at hg
     rw [if_pos (guard_none hg _)]
     exact .inl (go h)
    ·rename_i t want hgd
     rw [hgd] at hg
     split at h
     ·rename_i b hab
      have htn:=hgn t want hgd
      have hr:=word_rep hab (hf.rep t htn)
      have hat:act.tmps[t]? = some (act.tmps.getD t undef):=getD_of_lt undef (by rw [hf.size];exact htn)
      rw [guard_some hg hat hr]
      split at h
      ·rename_i hb
       rw [if_pos (by simp [hb])]
       exact .inl (go h)
      ·rename_i hb
       rw [if_neg (by simp [hb])]
       rw [hd] at h
       exact ih _ _ _ _ h hle hs (hf.put _ hdn (.tuple .nil))
     ·exact h.elim
   ·cases hc
end
end Go.A
namespace Go
section
variable {P:Program} {ops:Array Oper} {md:Region.Mode} {C:World->Prop} {Q:Exit->Act->World->Prop}
def RegClosed (md:Region.Mode) (ops:Array Oper) (listed:Array Bool):Prop:=
 ∀ k o,ops[k]? = some o->listed.getD k false=true->∀ e∈o.after,Region.binds md e=true->listed.getD e.on false=true
theorem RegClosed.set {listed:Array Bool} {i:Nat} (hc:RegClosed md ops listed) (hi:i∈Region.ready md ops listed):RegClosed md ops (listed.setIfInBounds i true):=by
 intro k o ho hk e he hb
 have grow:∀ n,listed.getD n false=true->(listed.setIfInBounds i true).getD n false=true:=by
  intro n hn
  by_cases hin:i=n
  ·subst hin
   have hlt:i<listed.size:=by
    rcases Nat.lt_or_ge i listed.size with h|h
    ·exact h
    ·simp [Array.getElem?_eq_none h] at hn
   simp [hlt]
  ·rw [getD_set_ne false hin];exact hn
 by_cases hik:i=k
 ·subst hik
  obtain ⟨_,o',ho',hall⟩:=mem_ready.1 hi
  rw [ho] at ho'
  injection ho' with ho'
  subst ho'
  exact grow _ (hall e he hb)
 ·rw [getD_set_ne false hik] at hk
  exact grow _ (hc k o ho hk e he hb)
end
end Go
namespace Go
open Go.RowKit
structure Extra where
 objs:Array Obj
 drawn:Nat
instance:Inhabited Extra:=⟨⟨#[],0⟩⟩
def World.more (w:World) (x:Extra):World := { w with heap:=w.heap++x.objs,drawn:=x.drawn }
section
variable (w:World) (x y:Extra) (a:Addr)
theorem World.size_more:(w.more x).heap.size=w.heap.size+x.objs.size:=by simp [World.more]
theorem World.size_le_more:w.heap.size<=(w.more x).heap.size:=by rw [World.size_more];omega
theorem World.heap_more {k:Nat} (h:k<w.heap.size):(w.more x).heap[k]? = w.heap[k]? := by
 show (w.heap++x.objs)[k]? = _
 rw [Array.getElem?_append_left h]
end
def Ext (w w':World):Prop:=∃ x,w'=w.more x
theorem Ext.of_below {w w':World} (h:Below w.heap.size w w'):Ext w w':=by
 refine ⟨⟨w'.heap.extract w.heap.size w'.heap.size,w'.drawn⟩,?_⟩
 obtain ⟨h1,h2,h3,h4,h5⟩:=h
 have hh:w'.heap=w.heap++w'.heap.extract w.heap.size w'.heap.size:=by
  apply Array.ext_getElem?
  intro i
  rcases Nat.lt_or_ge i w.heap.size with hi|hi
  ·rw [Array.getElem?_append_left hi,h5 i hi]
  ·rw [Array.getElem?_append_right hi,Array.getElem?_extract]
   split
   ·congr 1;omega
   ·rw [Array.getElem?_eq_none];omega
 cases w;cases w'
 simp only [World.more,World.mk.injEq]
 simp only at h1 h2 h3 hh
 exact ⟨hh,h2,trivial,h1,h3⟩
theorem Ext.below {w w':World} (h:Ext w w'):Below w.heap.size w w':=by
 obtain ⟨x,rfl⟩:=h
 exact ⟨rfl,rfl,rfl,World.size_le_more w x,fun k hk=>World.heap_more w x hk⟩
theorem Ext.refl (w:World):Ext w w:=Ext.of_below (Below.refl _ _)
theorem Ext.size {w w':World} (h:Ext w w'):w.heap.size<=w'.heap.size:=h.below.size
theorem Ext.alloc {a w:World} (h:Ext a w) (o:Obj):Ext a (w.alloc o):=Ext.of_below (h.below.alloc h.size o)
theorem addr_add (b off n:Nat):(⟨b,off,none⟩:Addr).add n=⟨b,off+n,none⟩:=by unfold Addr.add;split<;>simp_all
end Go
