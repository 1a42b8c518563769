/- Part 4 of what TabularStores leans on: Bp Hb. -/
import Derived.Deep.Slices
import Derived.ProofKit
import Derived.Lib.ItoaNum
import Derived.Lib.TrimByte
import Derived.Lib.IndexMore
import Derived.Lib.IndexBytes
import Derived.Test.YtngcggpbajgigaaGreatDoorZTabularStoresc
set_option linter.defProp false
set_option linter.unusedSimpArgs false
set_option linter.unusedVariables false
set_option maxRecDepth 100000
namespace Go.A
section
variable {P:Program} {Q:APost} {a:AFr} {σ:ASt} {K:AFr->ASt->Prop} {F:APost->AFr->ASt->Prop}
@[go_sem] theorem wp_skip':ACode.wp P .skip Q a σ=Q .normal a σ:=id rfl
@[go_sem] theorem wp_ret':ACode.wp P .ret Q a σ=Q .ret a σ:=id rfl
@[go_sem] theorem wp_exit' {i:Nat}:ACode.wp P (.exit i) Q a σ=Q (.exit i) a σ:=id rfl
@[go_sem] theorem wp_ops' {l:List AItem}:ACode.wp P (.ops l) Q a σ=runI P l (Q .normal) a σ:=id rfl
@[go_sem] theorem wp_seq' {x y:ACode}:ACode.wp P (.seq x y) Q a σ=x.wp P (SeqQ (y.wp P) Q) a σ:=id rfl
@[go_sem] theorem wp_block' {i:Nat} {x:ACode}:ACode.wp P (.block i x) Q a σ=x.wp P (BlockQ i Q) a σ:=id rfl
def condC (P:Program) (v:AV) (x y:ACode) (Q:APost) (a:AFr) (σ:ASt):Prop:=condWp v (x.wp P Q a σ) (y.wp P Q a σ)
@[go_sem] theorem wp_cond' {c:Opd} {x y:ACode}:ACode.wp P (.cond c x y) Q a σ=condC P (c.ev a) x y Q a σ:=id rfl
@[go_sem] theorem condC_t {x y:ACode}:condC P (.bool true) x y Q a σ=x.wp P Q a σ:=by simp [condC,condWp]
@[go_sem] theorem condC_f {x y:ACode}:condC P (.bool false) x y Q a σ=y.wp P Q a σ:=by simp [condC,condWp]
@[go_sem] theorem SeqQ_n:SeqQ F Q .normal a σ=F Q a σ:=id rfl
@[go_sem] theorem SeqQ_e {i:Nat}:SeqQ F Q (.exit i) a σ=Q (.exit i) a σ:=id rfl
@[go_sem] theorem SeqQ_r:SeqQ F Q .ret a σ=Q .ret a σ:=id rfl
@[go_sem] theorem BlockQ_n {i:Nat}:BlockQ i Q .normal a σ=Q .normal a σ:=id rfl
@[go_sem] theorem BlockQ_e {i j:Nat}:BlockQ i Q (.exit j) a σ=if j=i then Q .normal a σ else Q (.exit j) a σ:=id rfl
@[go_sem] theorem BlockQ_r {i:Nat}:BlockQ i Q .ret a σ=Q .ret a σ:=id rfl
def qC (P:Program) (v:Option AV) (d:Option Nat) (r:List AItem) (K:AFr->ASt->Prop) (a:AFr) (σ:ASt):Prop:=
 match v with
 | some v=>runI P r K (a.put d v) σ
 | none=>False
def eK (P:Program) (d:Option Nat) (ws:List Watch) (r:List AItem) (K:AFr->ASt->Prop) (a:AFr):AV->ASt->Prop:=fun v σ'=>watchOk (a.put d v) σ' ws/\runI P r K (a.put d v) σ'
def gC (P:Program) (v:AV) (want:Bool) (it:AItem) (r:List AItem) (K:AFr->ASt->Prop) (a:AFr) (σ:ASt):Prop:=
 match v.word with
 | some x=>if x=some want then runI P (it::r) K a σ else runI P r K (a.put it.dst (.tuple [])) σ
 | none=>False
@[go_sem] theorem run_nil:runI P [] K a σ=K a σ:=id rfl
@[go_sem] theorem run_q {d:Option Nat} {q:QOp} {r:List AItem}:runI P (⟨d,none,.q q,[]⟩::r) K a σ=qC P (q.ev a σ) d r K a σ:=by
 simp only [runI,AItem.step,AOp.step,qC,watchOk,true_and]
 cases q.ev a σ<;>rfl
@[go_sem] theorem run_e {d:Option Nat} {e:EOp} {ws:List Watch} {r:List AItem}:runI P (⟨d,none,.e e,ws⟩::r) K a σ=e.step P a σ (eK P d ws r K a):=id rfl
@[go_sem] theorem run_g {d:Option Nat} {t:Nat} {want:Bool} {op:AOp} {ws:List Watch} {r:List AItem}:runI P (⟨d,some (t,want),op,ws⟩::r) K a σ=gC P (a t) want ⟨d,none,op,ws⟩ r K a σ:=by
 simp only [runI,gC]
 cases (a t).word<;>rfl
@[go_sem] theorem qC_some {v:AV} {d:Nat} {r:List AItem}:qC P (some v) (some d) r K a σ=runI P r K (a.upd d v) σ:=id rfl
@[go_sem] theorem eK_app {d:Nat} {ws:List Watch} {r:List AItem} {v:AV}:eK P (some d) ws r K a v σ=(watchOk (a.upd d v) σ ws/\runI P r K (a.upd d v) σ):=id rfl
@[go_sem] theorem eK_app' {ws:List Watch} {r:List AItem} {v:AV}:eK P none ws r K a v σ=(watchOk a σ ws/\runI P r K a σ):=id rfl
@[go_sem] theorem watch_nil:watchOk a σ []=True:=id rfl
@[go_sem] theorem watch_n {q:QOp} {d:Nat} {ws:List Watch}:watchOk a σ (⟨none,q,d⟩::ws)=(q.ev a σ=some (a d)/\watchOk a σ ws):=id rfl
@[go_sem] theorem gC_tt {it:AItem} {r:List AItem}:gC P (.bool true) true it r K a σ=runI P (it::r) K a σ:=id rfl
@[go_sem] theorem gC_ff {it:AItem} {r:List AItem}:gC P (.bool false) false it r K a σ=runI P (it::r) K a σ:=id rfl
@[go_sem] theorem gC_tf {d:Nat} {op:AOp} {g:Option (Nat×Bool)} {ws:List Watch} {r:List AItem}:gC P (.bool true) false ⟨some d,g,op,ws⟩ r K a σ=runI P r K (a.upd d (.tuple [])) σ:=id rfl
@[go_sem] theorem gC_ft {d:Nat} {op:AOp} {g:Option (Nat×Bool)} {ws:List Watch} {r:List AItem}:gC P (.bool false) true ⟨some d,g,op,ws⟩ r K a σ=runI P r K (a.upd d (.tuple [])) σ:=id rfl
@[go_sem] theorem gC_u {want:Bool} {d:Nat} {op:AOp} {g:Option (Nat×Bool)} {ws:List Watch} {r:List AItem}:gC P (.tuple []) want ⟨some d,g,op,ws⟩ r K a σ=runI P r K (a.upd d (.tuple [])) σ:=id rfl
@[go_sem] theorem upd_app {t s:Nat} {v:AV}:(a.upd t v) s=if s=t then v else a s:=id rfl
@[go_sem] theorem init_app {args:List AV} {t:Nat}:init args t=args.getD t .any:=id rfl
attribute [go_sem high] ASt.set_same
attribute [go_sem] ASt.set_ne
theorem known_app {b:Nat}:known σ b=(match σ b with|some (.obj cs)=>some cs|some (.fix cs)=>some cs|_=>none):=rfl
def kn:Option Role->Option (List AV)
 | some (.obj cs)=>some cs
 | some (.fix cs)=>some cs
 | _=>none
theorem known_kn {b:Nat}:known σ b=kn (σ b):=by unfold known kn;rfl
@[go_sem] theorem kn_obj {cs:List AV}:kn (some (.obj cs))=some cs:=id rfl
@[go_sem] theorem kn_fix {cs:List AV}:kn (some (.fix cs))=some cs:=id rfl
theorem set_none {b x:Nat} {r:Role} (h:(σ.set b (some r)) x=none):x≠b/\b≠x/\σ x=none:=by
 by_cases hx:x=b
 ·subst hx;rw [ASt.set_same] at h;cases h
 ·rw [ASt.set_ne hx] at h;exact ⟨hx,Ne.symm hx,h⟩
def ldC (n:Option Nat) (σ:ASt):AV->Option AV
 | .ptr b o=>match known σ b with
   | some cs=>fieldVal o n cs
   | none=>none
 | .imm cs=>fieldVal 0 n cs
 | _=>none
@[go_sem] theorem opd_t {s:Nat}:Opd.ev a (.t s)=a s:=id rfl
@[go_sem] theorem opd_v {v:AV}:Opd.ev a (.v v)=v:=id rfl
@[go_sem] theorem cells_bool (b:Bool):AV.cells (.bool b) = [(.bool b)]:=id rfl
@[go_sem] theorem isAny_bool (b:Bool):AV.isAny (.bool b)=false:=id rfl
@[go_sem] theorem leaf_bool (b:Bool):AV.leaf (.bool b)=true:=id rfl
@[go_sem] theorem cells_int (k:IntKind) (n:Int):AV.cells (.int k n) = [(.int k n)]:=id rfl
@[go_sem] theorem isAny_int (k:IntKind) (n:Int):AV.isAny (.int k n)=false:=id rfl
@[go_sem] theorem leaf_int (k:IntKind) (n:Int):AV.leaf (.int k n)=true:=id rfl
@[go_sem] theorem cells_str (l:List UInt8):AV.cells (.str l) = [(.str l)]:=id rfl
@[go_sem] theorem isAny_str (l:List UInt8):AV.isAny (.str l)=false:=id rfl
@[go_sem] theorem leaf_str (l:List UInt8):AV.leaf (.str l)=true:=id rfl
@[go_sem] theorem cells_ptr (b o:Nat):AV.cells (.ptr b o) = [(.ptr b o)]:=id rfl
@[go_sem] theorem isAny_ptr (b o:Nat):AV.isAny (.ptr b o)=false:=id rfl
@[go_sem] theorem leaf_ptr (b o:Nat):AV.leaf (.ptr b o)=true:=id rfl
@[go_sem] theorem cells_nilp  : AV.cells .nilp = [.nilp]:=id rfl
@[go_sem] theorem leaf_nilp  : AV.leaf .nilp=true:=id rfl
@[go_sem] theorem cells_sl (k:SK) (xs:List AV):AV.cells (.sl k xs) = [(.sl k xs)]:=id rfl
@[go_sem] theorem leaf_sl (k:SK) (xs:List AV):AV.leaf (.sl k xs)=true:=id rfl
@[go_sem] theorem cells_msl (b o n c:Nat):AV.cells (.msl b o n c) = [(.msl b o n c)]:=id rfl
@[go_sem] theorem isAny_msl (b o n c:Nat):AV.isAny (.msl b o n c)=false:=id rfl
@[go_sem] theorem leaf_msl (b o n c:Nat):AV.leaf (.msl b o n c)=true:=id rfl
@[go_sem] theorem cells_map {r:Option Nat}:AV.cells (.map r) = [.map r]:=id rfl
@[go_sem] theorem isAny_map {r:Option Nat}:AV.isAny (.map r)=false:=id rfl
@[go_sem] theorem leaf_map {r:Option Nat}:AV.leaf (.map r)=true:=id rfl
@[go_sem] theorem cells_agg (cs:List AV):AV.cells (.agg cs)=cs:=id rfl
@[go_sem] theorem isSh_add:isSh .add=false:=id rfl
@[go_sem] theorem isSh_sub:isSh .sub=false:=id rfl
@[go_sem] theorem isSh_mul:isSh .mul=false:=id rfl
@[go_sem] theorem isSh_quo:isSh .quo=false:=id rfl
@[go_sem] theorem isSh_rem:isSh .rem=false:=id rfl
@[go_sem] theorem isSh_and:isSh .and=false:=id rfl
@[go_sem] theorem isSh_or:isSh .or=false:=id rfl
@[go_sem] theorem isSh_xor:isSh .xor=false:=id rfl
@[go_sem] theorem isSh_eql:isSh .eql=false:=id rfl
@[go_sem] theorem isSh_neq:isSh .neq=false:=id rfl
@[go_sem] theorem isSh_lss:isSh .lss=false:=id rfl
@[go_sem] theorem isSh_leq:isSh .leq=false:=id rfl
@[go_sem] theorem isSh_gtr:isSh .gtr=false:=id rfl
@[go_sem] theorem isSh_geq:isSh .geq=false:=id rfl
@[go_sem] theorem isSh_shl:isSh .shl=true:=id rfl
@[go_sem] theorem isSh_shr:isSh .shr=true:=id rfl
@[go_sem] theorem leaves_nil:leaves []=true:=id rfl
@[go_sem] theorem leaves_cons {x:AV} {xs:List AV}:leaves (x::xs)=(x.leaf && leaves xs):=id rfl
@[go_sem] theorem wellSz_nil {s:Nat}:wellSz s []=true:=id rfl
@[go_sem] theorem wellSz_cons {s:Nat} {x:AV} {xs:List AV}:wellSz s (x::xs)=(!x.isAny && x.cells.length==s && wellSz s xs):=id rfl
@[go_sem] theorem splice_app {cs vs:List AV} {o n:Nat}:splice cs o n vs=cs.take o++vs++cs.drop (o+n):=id rfl
def rvC (v:Option AV) (r:Option (List AV)):Option (List AV):=
 match v,r with
 | some v,some vs=>some (v::vs)
 | _,_=>none
@[go_sem] theorem rvs_nil:RV.evs a σ []=some []:=id rfl
@[go_sem] theorem rvs_cons {r:RV} {rs:List RV}:RV.evs a σ (r::rs)=rvC (r.ev a σ) (RV.evs a σ rs):=id rfl
@[go_sem] theorem rvC_some {v:AV} {vs:List AV}:rvC (some v) (some vs)=some (v::vs):=id rfl
@[go_sem] theorem rv_t {s:Nat}:RV.ev a σ (.t s)=some (a s):=id rfl
def evs (a:AFr):List Opd->List AV
 | [] => []
 | x::xs=>x.ev a::evs a xs
theorem evs_map {xs:List Opd}:xs.map (fun x=>x.ev a)=evs a xs:=by
 induction xs with
 | nil=>rfl
 | cons x xs ih=>simp only [List.map_cons,evs,ih]
@[go_sem] theorem evs_nil:evs a [] = []:=id rfl
@[go_sem] theorem evs_cons {x:Opd} {xs:List Opd}:evs a (x::xs)=x.ev a::evs a xs:=id rfl
def evp (a:AFr):List (Nat×Nat×Opd)->List (Nat×Nat×AV)
 | [] => []
 | (o,n,x)::xs=>(o,n,x.ev a)::evp a xs
theorem evp_map {xs:List (Nat×Nat×Opd)}:(xs.map fun (o,n,x)=>(o,n,x.ev a))=evp a xs:=by
 induction xs with
 | nil=>rfl
 | cons x xs ih=>obtain ⟨o,n,x⟩:=x;simp only [List.map_cons,evp,ih]
@[go_sem] theorem evp_nil:evp a [] = []:=id rfl
@[go_sem] theorem evp_cons {o n:Nat} {x:Opd} {xs:List (Nat×Nat×Opd)}:evp a ((o,n,x)::xs)=(o,n,x.ev a)::evp a xs:=id rfl
@[go_sem] theorem ev_mv {x:Opd}:QOp.ev (.mv x) a σ=some (x.ev a):=id rfl
@[go_sem] theorem ev_bin {op:BinOp} {x y:Opd}:QOp.ev (.bin op x y) a σ=binV op (x.ev a) (y.ev a):=id rfl
def pickC (c x y:AV):Option AV:=
 match c with
 | .bool b=>some (if b=true then x else y)
 | _=>none
@[go_sem] theorem ev_pick {c x y:Opd}:QOp.ev (.pick c x y) a σ=pickC (c.ev a) (x.ev a) (y.ev a):=by
 simp only [QOp.ev,pickC]
 cases c.ev a<;>simp
@[go_sem] theorem pickC_t {x y:AV}:pickC (.bool true) x y=some x:=id rfl
@[go_sem] theorem pickC_f {x y:AV}:pickC (.bool false) x y=some y:=id rfl
@[go_sem] theorem pickC_bb {b x y:Bool}:pickC (.bool b) (.bool x) (.bool y)=some (.bool (if b=true then x else y)):=by cases b<;>rfl
@[go_sem] theorem ev_ld {n:Option Nat} {p:Opd}:QOp.ev (.ld n p) a σ=ldC n σ (p.ev a):=by
 simp only [QOp.ev,ldC]
 cases p.ev a<;>rfl
def objC (o:Nat) (n:Option Nat):Option (List AV)->Option AV
 | some cs=>fieldVal o n cs
 | none=>none
@[go_sem] theorem ldC_ptr {n:Option Nat} {b o:Nat}:ldC n σ (.ptr b o)=objC o n (kn (σ b)):=by
 rw [<-known_kn]
 simp only [ldC]
 cases known σ b<;>rfl
@[go_sem] theorem ldC_imm {n:Option Nat} {cs:List AV}:ldC n σ (.imm cs)=fieldVal 0 n cs:=id rfl
@[go_sem] theorem objC_some {o:Nat} {n:Option Nat} {cs:List AV}:objC o n (some cs)=fieldVal o n cs:=id rfl
@[go_sem] theorem fieldVal_n {o:Nat} {cs:List AV}:fieldVal o none cs=cs[o]? := id rfl
@[go_sem] theorem fieldVal_s {o n:Nat} {cs:List AV}:fieldVal o (some n) cs=if o+n<=cs.length then some (.agg ((cs.drop o).take n)) else none:=id rfl
def faC (o:Nat):AV->Option AV
 | .ptr b p=>some (.ptr b (p+o))
 | .imm cs=>some (.imm (cs.drop o))
 | _=>none
@[go_sem] theorem ev_fa {o:Nat} {x:Opd}:QOp.ev (.fa o x) a σ=faC o (x.ev a):=by
 simp only [QOp.ev,faC]
 cases x.ev a<;>rfl
@[go_sem] theorem faC_ptr {o b p:Nat}:faC o (.ptr b p)=some (.ptr b (p+o)):=id rfl
@[go_sem] theorem faC_imm {o:Nat} {cs:List AV}:faC o (.imm cs)=some (.imm (cs.drop o)):=id rfl
def ncC:AV->Option AV
 | .ptr b o=>some (.ptr b o)
 | .imm cs=>some (.imm cs)
 | _=>none
@[go_sem] theorem ev_nc {x:Opd}:QOp.ev (.nc x) a σ=ncC (x.ev a):=by
 simp only [QOp.ev,ncC]
 cases x.ev a<;>rfl
@[go_sem] theorem ncC_ptr {b o:Nat}:ncC (.ptr b o)=some (.ptr b o):=id rfl
@[go_sem] theorem ncC_imm {cs:List AV}:ncC (.imm cs)=some (.imm cs):=id rfl
def elC (s:Nat):Option AV->Option AV
 | some y=>if y.cells.length=s then some (.imm y.cells) else none
 | none=>none
def iaC (s:Nat):AV->AV->Option AV
 | .sl _ xs,.int _ i=>if i<0 then none else elC s xs[i.toNat]?
 | .msl b o n _,.int _ i=>if i<0 then none else if i<n then some (.ptr b (o+i.toNat*s)) else none
 | _,_=>none
@[go_sem] theorem ev_ia {s:Nat} {x i:Opd}:QOp.ev (.ia s x i) a σ=iaC s (x.ev a) (i.ev a):=by
 simp only [QOp.ev,iaC]
 generalize x.ev a=u
 generalize i.ev a=v
 cases u<;>cases v<;>simp only [intV]
 rename_i k xs kk i
 split
 ·rfl
 ·cases xs[i.toNat]? <;> rfl
@[go_sem] theorem iaC_sl {s:Nat} {k:SK} {xs:List AV} {kk:IntKind} {i:Int} (h:0<=i):iaC s (.sl k xs) (.int kk i)=elC s xs[i.toNat]? := by
 simp only [iaC];rw [if_neg (by omega)]
@[go_sem] theorem iaC_msl {s b o n c:Nat} {kk:IntKind} {i:Int} (h:0<=i) (h1:i<n):iaC s (.msl b o n c) (.int kk i)=some (.ptr b (o+i.toNat*s)):=by
 simp only [iaC];rw [if_neg (by omega),if_pos h1]
@[go_sem] theorem elC_some {s:Nat} {y:AV}:elC s (some y)=if y.cells.length=s then some (.imm y.cells) else none:=id rfl
def iaaC (m s:Nat):AV->AV->Option AV
 | .ptr b o,.int _ i=>if i<0 then none else if i<m then some (.ptr b (o+i.toNat*s)) else none
 | .imm cs,.int _ i=>if i<0 then none else if i<m then some (.imm (cs.drop (i.toNat*s))) else none
 | _,_=>none
@[go_sem] theorem ev_iaa {m s:Nat} {x i:Opd}:QOp.ev (.iaa m s x i) a σ=iaaC m s (x.ev a) (i.ev a):=by
 simp only [QOp.ev,iaaC]
 generalize x.ev a=u
 generalize i.ev a=v
 cases u<;>cases v<;>simp only [intV]<;>rfl
@[go_sem] theorem iaaC_ptr {m s b o:Nat} {kk:IntKind} {i:Int} (h:0<=i) (h1:i<m):iaaC m s (.ptr b o) (.int kk i)=some (.ptr b (o+i.toNat*s)):=by
 simp only [iaaC];rw [if_neg (by omega),if_pos h1]
def byC:Option UInt8->Option AV
 | some c=>some (.int .u8 c.toNat)
 | none=>none
def idxC:AV->AV->Option AV
 | .str l,.int _ i=>if i<0 then none else byC l[i.toNat]?
 | _,_=>none
@[go_sem] theorem ev_idx {x i:Opd}:QOp.ev (.idx x i) a σ=idxC (x.ev a) (i.ev a):=by
 simp only [QOp.ev,idxC]
 generalize x.ev a=u
 generalize i.ev a=v
 cases u<;>cases v<;>simp only [intV]
 rename_i l kk i
 split
 ·rfl
 ·cases l[i.toNat]? <;> rfl
@[go_sem] theorem idxC_str {l:List UInt8} {kk:IntKind} {i:Int} (h:0<=i):idxC (.str l) (.int kk i)=byC l[i.toNat]? := by
 simp only [idxC];rw [if_neg (by omega)]
@[go_sem] theorem byC_some {c:UInt8}:byC (some c)=some (.int .u8 c.toNat):=id rfl
def lenC:AV->Option AV
 | .sl _ xs=>some (.int .i64 xs.length)
 | .msl _ _ n _=>some (.int .i64 n)
 | _=>none
@[go_sem] theorem ev_len {x:Opd}:QOp.ev (.len x) a σ=lenC (x.ev a):=by
 simp only [QOp.ev,lenC]
 cases x.ev a<;>rfl
@[go_sem] theorem lenC_sl {k:SK} {xs:List AV}:lenC (.sl k xs)=some (.int .i64 xs.length):=id rfl
@[go_sem] theorem lenC_msl {b o n c:Nat}:lenC (.msl b o n c)=some (.int .i64 n):=id rfl
def lenSC:AV->Option AV
 | .str l=>some (.int .i64 l.length)
 | _=>none
@[go_sem] theorem ev_lenS {x:Opd}:QOp.ev (.lenS x) a σ=lenSC (x.ev a):=by
 simp only [QOp.ev,lenSC]
 cases x.ev a<;>rfl
@[go_sem] theorem lenSC_str {l:List UInt8}:lenSC (.str l)=some (.int .i64 l.length):=id rfl
def convC (k:IntKind):AV->Option AV
 | .int _ n=>some (.int k (k.wrap n))
 | _=>none
@[go_sem] theorem ev_conv {k:IntKind} {x:Opd}:QOp.ev (.conv k x) a σ=convC k (x.ev a):=by
 simp only [QOp.ev,convC]
 cases x.ev a<;>rfl
@[go_sem] theorem convC_int {k kk:IntKind} {n:Int}:convC k (.int kk n)=some (.int k (k.wrap n)):=id rfl
def unC (op:UnOp) (v:AV):Option AV:=
 match op,v with
 | .neg,.int k n=>some (.int k (k.wrap (0-n)))
 | .not,.bool b=>some (.bool (!b))
 | .xor,.int k n=>binI .xor k (if k.signed then -1 else k.max) n
 | _,_=>none
@[go_sem] theorem ev_un {op:UnOp} {x:Opd}:QOp.ev (.un op x) a σ=unC op (x.ev a):=by
 simp only [QOp.ev,unC]
 cases op<;>cases x.ev a<;>rfl
@[go_sem] theorem unC_neg {k:IntKind} {n:Int}:unC .neg (.int k n)=some (.int k (k.wrap (0-n))):=id rfl
@[go_sem] theorem unC_not {b:Bool}:unC .not (.bool b)=some (.bool (!b)):=id rfl
@[go_sem] theorem unC_xor {k:IntKind} {n:Int}:unC .xor (.int k n)=binI .xor k (if k.signed then -1 else k.max) n:=id rfl
def extC (i:Nat):AV->Option AV
 | .tuple vs=>vs[i]?
 | _=>none
@[go_sem] theorem ev_ext {i:Nat} {x:Opd}:QOp.ev (.ext i x) a σ=extC i (x.ev a):=by
 simp only [QOp.ev,extC]
 cases x.ev a<;>rfl
@[go_sem] theorem extC_t {i:Nat} {vs:List AV}:extC i (.tuple vs)=vs[i]? := id rfl
@[go_sem] theorem ev_build {z:List AV} {ps:List (Nat×Nat×Opd)}:QOp.ev (.build z ps) a σ=(fillC z (evp a ps)).map .agg:=by rw [<-evp_map];rfl
@[go_sem] theorem fillC_nil {cs:List AV}:fillC cs []=some cs:=id rfl
@[go_sem] theorem fillC_cons {cs:List AV} {o n:Nat} {v:AV} {r:List (Nat×Nat×AV)}:fillC cs ((o,n,v)::r)=if v.isAny=false/\v.cells.length=n/\o+n<=cs.length then fillC (cs.take o++v.cells++cs.drop (o+n)) r else none:=id rfl
@[go_sem] theorem ev_bsl {s:Nat} {xs:List Opd}:QOp.ev (.bsl s xs) a σ=if wellSz s (evs a xs)=true then some (.sl .full (evs a xs)) else none:=by rw [<-evs_map];rfl
def mnxC (mx:Bool) (x y:AV):Option AV:=
 match x,y with
 | .int k m,.int _ n=>some (.int k (if mx then max m n else min m n))
 | _,_=>none
@[go_sem] theorem ev_mnx {mx:Bool} {x y:Opd}:QOp.ev (.mnx mx x y) a σ=mnxC mx (x.ev a) (y.ev a):=by
 simp only [QOp.ev,mnxC]
 generalize x.ev a=u
 generalize y.ev a=v
 cases u<;>cases v<;>simp only []
 cases mx<;>simp<;>omega
@[go_sem] theorem mnxC_mx {k kk:IntKind} {m n:Int}:mnxC true (.int k m) (.int kk n)=some (.int k (max m n)):=id rfl
@[go_sem] theorem mnxC_mn {k kk:IntKind} {m n:Int}:mnxC false (.int k m) (.int kk n)=some (.int k (min m n)):=id rfl
@[go_sem] theorem ev_mkf {fn:Fn} {f c:List Opd}:QOp.ev (.mkf fn f c) a σ=some (.func fn (evs a f) (evs a c)):=by rw [<-evs_map,← evs_map];rfl
def bytesAV (l:List UInt8):List AV:=l.map fun c => .int .u8 c.toNat
def strC:Option (List UInt8)->Option AV
 | some l=>some (.str l)
 | none=>none
def b2mC (o n:Nat):Option (List AV)->Option AV
 | some cs=>if o+n<=cs.length then strC (bytesOf ((cs.drop o).take n)) else none
 | none=>none
def b2sC (σ:ASt):AV->Option AV
 | .sl _ xs=>strC (bytesOf xs)
 | .msl b o n _=>b2mC o n (kn (σ b))
 | _=>none
@[go_sem] theorem ev_b2s {x:Opd}:QOp.ev (.b2s x) a σ=b2sC σ (x.ev a):=by
 simp only [QOp.ev,b2sC]
 cases x.ev a<;>(try rfl)
@[go_sem] theorem b2sC_sl {k:SK} {xs:List AV}:b2sC σ (.sl k xs)=strC (bytesOf xs):=id rfl
@[go_sem] theorem b2sC_msl {b o n c:Nat}:b2sC σ (.msl b o n c)=b2mC o n (kn (σ b)):=id rfl
@[go_sem] theorem b2mC_some {o n:Nat} {cs:List AV}:b2mC o n (some cs)=if o+n<=cs.length then strC (bytesOf ((cs.drop o).take n)) else none:=id rfl
@[go_sem] theorem strC_some {l:List UInt8}:strC (some l)=some (.str l):=id rfl
theorem bytesOf_bytesAV (l:List UInt8):bytesOf (bytesAV l)=some l:=by
 induction l with
 | nil=>rfl
 | cons c l ih=>
   have:bytesAV (c::l) = .int .u8 c.toNat::bytesAV l:=rfl
   rw [this]
   simp only [bytesOf,ih]
   simp
def slC (s:Bool×Nat) (x lo hi:AV):Option AV:=
 match lo,hi with
 | .int _ lo,.int _ hi=>slV s x lo hi
 | _,_=>none
def slaC (n:Nat) (x:AV):Option AV:=
 match x with
 | .ptr b o=>some (.msl b o n n)
 | _=>none
@[go_sem] theorem ev_sla {n:Nat} {x:Opd}:QOp.ev (.sla n x) a σ=slaC n (x.ev a):=by
 simp only [QOp.ev,slaC]
 cases x.ev a<;>rfl
@[go_sem] theorem slaC_ptr {n b o:Nat}:slaC n (.ptr b o)=some (.msl b o n n):=id rfl
@[go_sem] theorem ev_bslv {s:Nat} {xs:List Opd}:QOp.ev (.bslv s xs) a σ=if wellSz s (evs a xs)=true then some (.sl .lit (evs a xs)) else none:=by rw [<-evs_map];rfl
def capC:AV->Option AV
 | .msl _ _ _ c=>some (.int .i64 c)
 | _=>none
@[go_sem] theorem ev_capo {x:Opd}:QOp.ev (.capo x) a σ=capC (x.ev a):=by
 simp only [QOp.ev,capC]
 cases x.ev a<;>rfl
@[go_sem] theorem capC_msl {b o n c:Nat}:capC (.msl b o n c)=some (.int .i64 c):=id rfl
def sl3C (s:Nat) (x lo hi mx:AV):Option AV:=
 match lo,hi,mx with
 | .int _ lo,.int _ hi,.int _ mx=>sl3V s x lo hi mx
 | _,_,_=>none
@[go_sem] theorem ev_sl3 {s:Nat} {x lo hi mx:Opd}:QOp.ev (.sl3 s x lo hi mx) a σ=sl3C s (x.ev a) (lo.ev a) (hi.ev a) (mx.ev a):=by
 simp only [QOp.ev,sl3C]
 generalize lo.ev a=u
 generalize hi.ev a=v
 generalize mx.ev a=y
 cases u<;>cases v<;>cases y<;>simp only [intV]
@[go_sem] theorem sl3C_int {k k' k2:IntKind} {s:Nat} {x:AV} {lo hi mx:Int}:sl3C s x (.int k lo) (.int k' hi) (.int k2 mx)=sl3V s x lo hi mx:=id rfl
theorem sl3V_msl {s b o n c:Nat} {lo hi mx:Int} (h0:0<=lo) (h1:lo<=hi) (h2:hi<=mx) (h3:mx<=c) (h4:lo<mx):sl3V s (.msl b o n c) lo hi mx=some (.msl b (o+lo.toNat*s) (hi.toNat-lo.toNat) (mx.toNat-lo.toNat)):=by
 unfold sl3V
 rw [if_neg (by omega)]
 dsimp only
 rw [if_pos h3,if_neg (by omega)]
@[go_sem] theorem ev_sls {s:Bool×Nat} {x lo hi:Opd}:QOp.ev (.sls s x lo hi) a σ=slC s (x.ev a) (lo.ev a) (hi.ev a):=by
 simp only [QOp.ev,slC]
 generalize lo.ev a=u
 generalize hi.ev a=v
 cases u<;>cases v<;>simp only [intV]
def slfC (s:Bool×Nat) (x lo:AV):Option AV:=
 match lo,lenV x with
 | .int _ lo,some n=>slV s x lo n
 | _,_=>none
@[go_sem] theorem ev_slfrom {s:Bool×Nat} {x lo:Opd}:QOp.ev (.slfrom s x lo) a σ=slfC s (x.ev a) (lo.ev a):=by
 simp only [QOp.ev,slfC]
 generalize lo.ev a=u
 generalize x.ev a=v
 cases u<;>cases v<;>simp only [intV,lenV]
@[go_sem] theorem slfC_str {k:IntKind} {s:Bool×Nat} {l:List UInt8} {lo:Int}:slfC s (.str l) (.int k lo)=slV s (.str l) lo l.length:=id rfl
@[go_sem] theorem slfC_sl {k:IntKind} {s:Bool×Nat} {sk:SK} {xs:List AV} {lo:Int}:slfC s (.sl sk xs) (.int k lo)=slV s (.sl sk xs) lo xs.length:=id rfl
@[go_sem] theorem slfC_msl {k:IntKind} {s:Bool×Nat} {b o n c:Nat} {lo:Int}:slfC s (.msl b o n c) (.int k lo)=slV s (.msl b o n c) lo n:=id rfl
def sltC (s:Bool×Nat) (x hi:AV):Option AV:=
 match hi with
 | .int _ hi=>slV s x 0 hi
 | _=>none
@[go_sem] theorem ev_slto {s:Bool×Nat} {x hi:Opd}:QOp.ev (.slto s x hi) a σ=sltC s (x.ev a) (hi.ev a):=by
 simp only [QOp.ev,sltC]
 generalize hi.ev a=u
 cases u<;>simp only [intV]
@[go_sem] theorem sltC_int {k:IntKind} {s:Bool×Nat} {x:AV} {hi:Int}:sltC s x (.int k hi)=slV s x 0 hi:=id rfl
@[go_sem] theorem slC_int {k k':IntKind} {s:Bool×Nat} {x:AV} {lo hi:Int}:slC s x (.int k lo) (.int k' hi)=slV s x lo hi:=id rfl
@[go_sem] theorem slV_str {s:Nat} {l:List UInt8} {lo hi:Int} (h0:0<=lo) (h1:lo<=hi) (h2:hi<=l.length):slV (true,s) (.str l) lo hi=some (.str ((l.take hi.toNat).drop lo.toNat)):=by
 unfold slV
 rw [if_neg (by omega)]
 simp [h2]
@[go_sem] theorem slV_sl0 {s:Nat} {k:SK} {xs:List AV} {hi:Int} (h1:0<=hi) (h2:hi<=xs.length):slV (false,s) (.sl k xs) 0 hi=some (.sl .shr (xs.take hi.toNat)):=by
 unfold slV
 rw [if_neg (by omega)]
 simp [h2]
@[go_sem] theorem slV_sl {s:Nat} {k:SK} {xs:List AV} {lo hi:Int} (h0:0<=lo) (h1:lo<=hi) (h2:hi<=xs.length) (hz:allSz s xs=true):slV (false,s) (.sl k xs) lo hi=some (.sl .shr ((xs.take hi.toNat).drop lo.toNat)):=by
 unfold slV
 rw [if_neg (by omega)]
 simp only [h2,if_true,hz]
 split
 ·rename_i h;subst h;simp
 ·rfl
@[go_sem] theorem slV_msl {s b o n c:Nat} {lo hi:Int} (h0:0<=lo) (h1:lo<=hi) (h2:hi<=c) (h3:lo<c):slV (false,s) (.msl b o n c) lo hi=some (.msl b (o+lo.toNat*s) (hi.toNat-lo.toNat) (c-lo.toNat)):=by
 unfold slV
 rw [if_neg (by omega)]
 simp only [h2,if_true]
 rw [if_neg (by omega)]
def eqC (k:EqK) (neg:Bool) (x y:AV):Option AV:=
 match eqV k x y with
 | some b=>some (.bool (if neg then !b else b))
 | none=>none
@[go_sem] theorem ev_eq {k:EqK} {neg:Bool} {x y:Opd}:QOp.ev (.eq k neg x y) a σ=eqC k neg (x.ev a) (y.ev a):=id rfl
@[go_sem] theorem binV_int {op:BinOp} {k k':IntKind} {m n:Int}:binV op (.int k m) (.int k' n)=if isSh op then shI op k m n else if k=k' then binI op k m n else none:=id rfl
@[go_sem] theorem binV_str {op:BinOp} {x y:List UInt8}:binV op (.str x) (.str y)=binS op x y:=id rfl
@[go_sem] theorem binS_add {x y:List UInt8} (h:x.length+y.length<=9223372036854775807):binS .add x y=some (.str (x++y)):=by simp [binS,h]
@[go_sem] theorem binS_eql {x y:List UInt8}:binS .eql x y=some (.bool (decide (x=y))):=id rfl
@[go_sem] theorem binS_neq {x y:List UInt8}:binS .neq x y=some (.bool (!decide (x=y))):=id rfl
@[go_sem] theorem binI_add {k:IntKind} {x y:Int}:binI .add k x y=some (.int k (k.wrap (x+y))):=id rfl
@[go_sem] theorem binI_sub {k:IntKind} {x y:Int}:binI .sub k x y=some (.int k (k.wrap (x-y))):=id rfl
@[go_sem] theorem binI_mul {k:IntKind} {x y:Int}:binI .mul k x y=some (.int k (k.wrap (x*y))):=id rfl
@[go_sem] theorem binI_quo {k:IntKind} {x y:Int} (h:y≠0):binI .quo k x y=some (.int k (k.wrap (x.tdiv y))):=by simp [binI,h]
@[go_sem] theorem binI_rem {k:IntKind} {x y:Int} (h:y≠0):binI .rem k x y=some (.int k (x.tmod y)):=by simp [binI,h]
@[go_sem] theorem binI_and {k:IntKind} {x y:Int}:binI .and k x y=some (.int k (k.wrap (BitVec.ofInt k.bits x &&& BitVec.ofInt k.bits y).toNat)):=id rfl
@[go_sem] theorem binI_or {k:IntKind} {x y:Int}:binI .or k x y=some (.int k (k.wrap (BitVec.ofInt k.bits x ||| BitVec.ofInt k.bits y).toNat)):=id rfl
@[go_sem] theorem binI_xor {k:IntKind} {x y:Int}:binI .xor k x y=some (.int k (k.wrap (BitVec.ofInt k.bits x ^^^ BitVec.ofInt k.bits y).toNat)):=id rfl
@[go_sem] theorem binI_eql {k:IntKind} {x y:Int}:binI .eql k x y=some (.bool (decide (x=y))):=id rfl
@[go_sem] theorem binI_neq {k:IntKind} {x y:Int}:binI .neq k x y=some (.bool (!decide (x=y))):=id rfl
@[go_sem] theorem binI_lss {k:IntKind} {x y:Int}:binI .lss k x y=some (.bool (decide (x<y))):=id rfl
@[go_sem] theorem binI_leq {k:IntKind} {x y:Int}:binI .leq k x y=some (.bool (decide (x<=y))):=id rfl
@[go_sem] theorem binI_gtr {k:IntKind} {x y:Int}:binI .gtr k x y=some (.bool (decide (y<x))):=id rfl
@[go_sem] theorem binI_geq {k:IntKind} {x y:Int}:binI .geq k x y=some (.bool (decide (y<=x))):=id rfl
def mnb (a b:Nat):Nat:=min a b
@[go_sem] theorem mnb_le {a b:Nat} (h:a<=b):mnb a b=a:=Nat.min_eq_left h
@[go_sem] theorem shI_shl {k:IntKind} {x y:Int} (h:0<=y):shI .shl k x y=some (.int k (k.wrap (x*2 ^ mnb y.toNat k.bits))):=by
 unfold shI mnb;rw [if_neg (by omega)]
@[go_sem] theorem shI_shr {k:IntKind} {x y:Int} (h:0<=y):shI .shr k x y=some (.int k (x / 2 ^ mnb y.toNat k.bits)):=by
 unfold shI mnb;rw [if_neg (by omega)]
@[go_sem] theorem wrap_i64 {n:Int} (h1 : -9223372036854775808<=n) (h2:n<=9223372036854775807):IntKind.wrap .i64 n=n:=by
 have e:IntKind.wrap .i64 n=if 9223372036854775808<=n % 18446744073709551616 then n % 18446744073709551616-18446744073709551616 else n % 18446744073709551616:=by simp [IntKind.wrap,IntKind.bits,IntKind.signed]
 rw [e]
 split<;>omega
@[go_sem] theorem wrap_u64 {n:Int} (h1:0<=n) (h2:n<=18446744073709551615):IntKind.wrap .u64 n=n:=by
 have e:IntKind.wrap .u64 n=n % 18446744073709551616:=by simp [IntKind.wrap,IntKind.bits,IntKind.signed]
 rw [e]
 omega
@[go_sem] theorem wrap_u32 {n:Int} (h1:0<=n) (h2:n<=4294967295):IntKind.wrap .u32 n=n:=by
 have e:IntKind.wrap .u32 n=n % 4294967296:=by simp [IntKind.wrap,IntKind.bits,IntKind.signed]
 rw [e]
 omega
theorem wrap_u32' {n:Int}:IntKind.wrap .u32 n=n % 4294967296:=by
 simp [IntKind.wrap,IntKind.bits,IntKind.signed]
@[go_sem] theorem wrap_u8 {n:Int} (h1:0<=n) (h2:n<=255):IntKind.wrap .u8 n=n:=by
 have e:IntKind.wrap .u8 n=n % 256:=by simp [IntKind.wrap,IntKind.bits,IntKind.signed]
 rw [e]
 omega
@[go_sem] theorem dec_t {p:Prop} [Decidable p] (h:p):decide p=true:=decide_eq_true h
@[go_sem] theorem dec_f {p:Prop} [Decidable p] (h:¬ p):decide p=false:=decide_eq_false h
def storeD (n b o:Nat) (v:AV) (σ:ASt) (K:AV->ASt->Prop):Option Role->Prop
 | some (.obj cs)=>leaves v.cells=true/\v.cells.length=n/\o+n<=cs.length/\K .any (σ.set b (some (.obj (splice cs o n v.cells))))
 | _=>False
def storeC (n:Nat) (p v:AV) (σ:ASt) (K:AV->ASt->Prop):Prop:=
 match p with
 | .ptr b o=>storeD n b o v σ K (σ b)
 | _=>False
variable {KK:AV->ASt->Prop}
@[go_sem] theorem st_store {n:Nat} {p x:Opd}:EOp.step P (.store n p x) a σ KK=storeC n (p.ev a) (x.ev a) σ KK:=by
 simp only [EOp.step,storeC]
 cases p.ev a<;>rfl
@[go_sem] theorem storeC_ptr {n b o:Nat} {v:AV}:storeC n (.ptr b o) v σ KK=storeD n b o v σ KK (σ b):=id rfl
@[go_sem] theorem storeD_obj {n b o:Nat} {v:AV} {cs:List AV}:storeD n b o v σ KK (some (.obj cs))=(leaves v.cells=true/\v.cells.length=n/\o+n<=cs.length/\KK .any (σ.set b (some (.obj (splice cs o n v.cells))))):=id rfl
def boxC (v:AV) (σ:ASt) (K:AV->ASt->Prop):Prop:=v.isAny=false/\∀ b,σ b=none->K (.ptr b 0) (σ.set b (some (.obj v.cells)))
@[go_sem] theorem st_box {x:Opd}:EOp.step P (.box x) a σ KK=boxC (x.ev a) σ KK:=id rfl
def allocC (z:List AV) (σ:ASt) (K:AV->ASt->Prop):Prop:=∀ b,σ b=none->K (.ptr b 0) (σ.set b (some (.obj z)))
@[go_sem] theorem st_alloc {z:List AV}:EOp.step P (.alloc z) a σ KK=allocC z σ KK:=id rfl
@[go_sem] theorem st_call {f:FuncId} {args:List Opd}:EOp.step P (.call f args) a σ KK=ACalls P f (evs a args) σ KK:=by rw [<-evs_map];rfl
def callvC (P:Program) (x:AV) (args:List AV) (σ:ASt) (K:AV->ASt->Prop):Prop:=
 match x with
 | .func (.func f) first cap=>okFn P f=true/\ACalls P f (first++args++cap) σ K
 | _=>False
@[go_sem] theorem st_callv {x:Opd} {args:List Opd}:EOp.step P (.callv x args) a σ KK=callvC P (x.ev a) (evs a args) σ KK:=by
 rw [<-evs_map]
 simp only [EOp.step,callvC]
 cases x.ev a<;>rfl
@[go_sem] theorem callvC_f {f:FuncId} {first cap args:List AV}:callvC P (.func (.func f) first cap) args σ KK=(okFn P f=true/\ACalls P f (first++args++cap) σ KK):=id rfl
def appM (s bytes:Nat) (z:List AV) (b o n c:Nat) (ys:List AV) (σ:ASt) (K:AV->ASt->Prop) (r:Option Role):Prop:=
 match r with
 | some (.obj cs)=>wellSz s ys=true/\leaves (ys.flatMap AV.cells)=true/\(n+ys.length)*bytes<=140737488355328/\n+ys.length<=4611686018427387904/\o+n*s<=cs.length ∧
   (n+ys.length<=c->o+(n+ys.length)*s<=cs.length/\K (.msl b o (n+ys.length) c) (σ.set b (some (.obj (splice cs (o+n*s) (ys.length*s) (ys.flatMap AV.cells)))))) ∧
   (c<n+ys.length->∀ b' c',σ b'=none->n+ys.length<=c'->K (.msl b' 0 (n+ys.length) c') (σ.set b' (some (.obj (ownRow s z ((cs.drop o).take (n*s)++ys.flatMap AV.cells) (n+ys.length) c')))))
 | _=>False
def appN (s bytes:Nat) (z:List AV) (b o n c n2:Nat) (σ:ASt) (K:AV->ASt->Prop) (r:Option Role) (q:Option (List AV)):Prop:=
 match r,q with
 | some (.obj cs),some ys=>s=1/\leaves ys=true/\(n+n2)*bytes<=140737488355328/\n+n2<=4611686018427387904/\o+n<=cs.length ∧
   (n+n2<=c->o+(n+n2)<=cs.length/\K (.msl b o (n+n2) c) (σ.set b (some (.obj (splice cs (o+n) n2 ys))))) ∧
   (c<n+n2->∀ b' c',σ b'=none->n+n2<=c'->K (.msl b' 0 (n+n2) c') (σ.set b' (some (.obj (ownRow 1 z ((cs.drop o).take n++ys) (n+n2) c')))))
 | _,_=>False
def appC (e:TypeId) (s bytes:Nat) (z:List AV) (x y:AV) (σ:ASt) (K:AV->ASt->Prop):Prop:=
 match x,y with
 | .sl k xs,.sl _ ys=>canApp σ k xs s/\wellSz s ys=true/\leaves (ys.flatMap AV.cells)=true/\(xs.length+ys.length)*bytes<=140737488355328/\xs.length+ys.length<=4611686018427387904 ∧
    ((∀ k' σ',App e σ k s xs.length ys.length k' σ'->K (.sl k' (xs++ys)) σ') ∨
      (k = .full/\0<ys.length/\∀ b c,σ b=none->xs.length+ys.length<=c->K (.msl b 0 (xs.length+ys.length) c) (σ.set b (some (.obj (ownRow s z (xs.flatMap AV.cells++ys.flatMap AV.cells) (xs.length+ys.length) c))))) ∨
      (ys = []/\K (.sl k xs) σ))
 | .msl b o n c,.sl _ ys=>appM s bytes z b o n c ys σ K (σ b)
 | .msl b o n c,.msl b2 o2 n2 c2=>appN s bytes z b o n c n2 σ K (σ b) (srcOf σ (.msl b2 o2 n2 c2))
 | _,_=>False
@[go_sem] theorem st_app {e:TypeId} {s bytes:Nat} {z:List AV} {x y:Opd}:EOp.step P (.app e s bytes z x y) a σ KK=appC e s bytes z (x.ev a) (y.ev a) σ KK:=by
 simp only [EOp.step,appC]
 cases x.ev a<;>cases y.ev a<;>rfl
@[go_sem] theorem appC_msl {e:TypeId} {s bytes:Nat} {z:List AV} {b o n c:Nat} {k:SK} {ys:List AV}:appC e s bytes z (.msl b o n c) (.sl k ys) σ KK=appM s bytes z b o n c ys σ KK (σ b):=id rfl
theorem appM_by {s bytes:Nat} {z:List AV} {b o n c:Nat} {ys cs:List AV} (h2:wellSz s ys=true) (h3:leaves (ys.flatMap AV.cells)=true) (h4:(n+ys.length)*bytes<=140737488355328) (h5:n+ys.length<=4611686018427387904) (h0:o+n*s<=cs.length)
  (hK1:n+ys.length<=c->o+(n+ys.length)*s<=cs.length/\KK (.msl b o (n+ys.length) c) (σ.set b (some (.obj (splice cs (o+n*s) (ys.length*s) (ys.flatMap AV.cells))))))
  (hK2:c<n+ys.length->∀ b' c',σ b'=none->n+ys.length<=c'->KK (.msl b' 0 (n+ys.length) c') (σ.set b' (some (.obj (ownRow s z ((cs.drop o).take (n*s)++ys.flatMap AV.cells) (n+ys.length) c'))))) :
  appM s bytes z b o n c ys σ KK (some (.obj cs)):=⟨h2,h3,h4,h5,h0,hK1,hK2⟩
theorem appN_by {e:TypeId} {bytes:Nat} {z:List AV} {b o n c b2 o2 n2 c2:Nat} {cs ys:List AV} (hb:σ b=some (.obj cs)) (hy:srcOf σ (.msl b2 o2 n2 c2)=some ys) (h3:leaves ys=true) (h4:(n+n2)*bytes<=140737488355328) (h5:n+n2<=4611686018427387904) (h0:o+n<=cs.length)
  (hK1:n+n2<=c->o+(n+n2)<=cs.length/\KK (.msl b o (n+n2) c) (σ.set b (some (.obj (splice cs (o+n) n2 ys)))))
  (hK2:c<n+n2->∀ b' c',σ b'=none->n+n2<=c'->KK (.msl b' 0 (n+n2) c') (σ.set b' (some (.obj (ownRow 1 z ((cs.drop o).take n++ys) (n+n2) c'))))) :
  appC e 1 bytes z (.msl b o n c) (.msl b2 o2 n2 c2) σ KK:=by
 show appN 1 bytes z b o n c n2 σ KK (σ b) (srcOf σ (.msl b2 o2 n2 c2))
 rw [hb,hy]
 exact ⟨rfl,h3,h4,h5,h0,hK1,hK2⟩
theorem appO_by {e:TypeId} {s bytes:Nat} {z:List AV} {k:SK} {xs ys:List AV} (hx:wellSz s xs=true) (h2:wellSz s ys=true) (h3:leaves (ys.flatMap AV.cells)=true) (h4:(xs.length+ys.length)*bytes<=140737488355328) (h5:xs.length+ys.length<=4611686018427387904) (h6:0<ys.length)
  (hK:∀ b c,σ b=none->xs.length+ys.length<=c->KK (.msl b 0 (xs.length+ys.length) c) (σ.set b (some (.obj (ownRow s z (xs.flatMap AV.cells++ys.flatMap AV.cells) (xs.length+ys.length) c))))):appC e s bytes z (.sl .full xs) (.sl k ys) σ KK:=
 ⟨hx,h2,h3,h4,h5,.inr (.inl ⟨rfl,h6,hK⟩)⟩
def s2bC (x:AV) (σ:ASt) (K:AV->ASt->Prop):Prop:=
 match x with
 | .str l=>K (.sl .shr (bytesAV l)) σ\/∀ b c,σ b=none->l.length<=c->K (.msl b 0 l.length c) (σ.set b (some (.obj (bytesAV l))))
 | _=>False
@[go_sem] theorem st_s2b {x:Opd}:EOp.step P (.s2b x) a σ KK=s2bC (x.ev a) σ KK:=by
 simp only [EOp.step,s2bC,bytesAV]
 cases x.ev a<;>rfl
theorem s2b_shr {l:List UInt8} (h:KK (.sl .shr (bytesAV l)) σ):s2bC (.str l) σ KK := .inl h
theorem s2b_own {l:List UInt8} (h:∀ b c,σ b=none->l.length<=c->KK (.msl b 0 l.length c) (σ.set b (some (.obj (bytesAV l))))):s2bC (.str l) σ KK := .inr h
def mksC (e:TypeId) (bytes:Nat) (z n m:AV) (σ:ASt) (K:AV->ASt->Prop):Prop:=
 match n,m with
 | .int _ n,.int _ m=>0<=n/\n<=m/\m<=4611686018427387904/\(bytes:Int)*m<=281474976710656 ∧
   ((∀ b,σ b=none->K (.msl b 0 n.toNat m.toNat) (σ.set b (some (.obj (List.replicate m.toNat z)))))\/(n=0/\∀ b,σ b=none->K (.sl (.tok b 1 e) []) (σ.set b (some (.tok 0)))))
 | _,_=>False
@[go_sem] theorem st_mks {e:TypeId} {bytes:Nat} {z:AV} {n m:Opd}:EOp.step P (.mks e bytes z n m) a σ KK=mksC e bytes z (n.ev a) (m.ev a) σ KK:=by
 simp only [EOp.step,mksC]
 cases n.ev a<;>cases m.ev a<;>rfl
theorem mks_own {e:TypeId} {bytes:Nat} {z:AV} {k k':IntKind} {n m:Int} (h0:0<=n) (h1:n<=m) (h2:m<=4611686018427387904) (h3:(bytes:Int)*m<=281474976710656)
  (h:∀ b,σ b=none->KK (.msl b 0 n.toNat m.toNat) (σ.set b (some (.obj (List.replicate m.toNat z))))):mksC e bytes z (.int k n) (.int k' m) σ KK:=⟨h0,h1,h2,h3,.inl h⟩
def cpyD (b o n:Nat) (l:List UInt8) (r:Option Role) (σ:ASt) (K:AV->ASt->Prop):Prop:=
 match r with
 | some (.obj cs)=>o+n<=cs.length/\K (.int .i64 (l.take n).length) (σ.set b (some (.obj (splice cs o (l.take n).length (bytesAV (l.take n))))))
 | _=>False
def cpyC (x y:AV) (σ:ASt) (K:AV->ASt->Prop):Prop:=
 match x,y with
 | .msl b o n _,.str l=>cpyD b o n l (σ b) σ K
 | _,_=>False
@[go_sem] theorem st_cpy {x y:Opd}:EOp.step P (.cpy x y) a σ KK=cpyC (x.ev a) (y.ev a) σ KK:=by
 simp only [EOp.step,cpyC]
 cases x.ev a<;>cases y.ev a<;>rfl
theorem cpyC_by {b o n c:Nat} {l:List UInt8} {cs:List AV} (hb:σ b=some (.obj cs)) (h0:o+n<=cs.length) (h:KK (.int .i64 (l.take n).length) (σ.set b (some (.obj (splice cs o (l.take n).length (bytesAV (l.take n))))))):cpyC (.msl b o n c) (.str l) σ KK:=by
 show cpyD b o n l (σ b) σ KK
 rw [hb]
 exact ⟨h0,h⟩
theorem srcOf_msl {b o n c:Nat} {ds:List AV} (hb:σ b=some (.obj ds)) (h:o+n<=ds.length):srcOf σ (.msl b o n c)=some ((ds.drop o).take n):=by
 simp only [srcOf,known,hb]
 rw [if_pos h]
theorem srcOf_sl {k:SK} {ys:List AV}:srcOf σ (.sl k ys)=some ys:=rfl
def cpsD (b o n:Nat) (σ:ASt) (K:AV->ASt->Prop) (q:Option (List AV)) (r:Option Role):Prop:=
 match q with
 | some ys=>match r with
   | some (.obj cs)=>leaves ys=true/\o+n<=cs.length/\K (.int .i64 (ys.take n).length) (σ.set b (some (.obj (splice cs o (ys.take n).length (ys.take n)))))
   | _=>False
 | none=>False
def cpsC (x y:AV) (σ:ASt) (K:AV->ASt->Prop):Prop:=
 match x with
 | .msl b o n _=>cpsD b o n σ K (srcOf σ y) (σ b)
 | _=>False
@[go_sem] theorem st_cps {x y:Opd}:EOp.step P (.cps x y) a σ KK=cpsC (x.ev a) (y.ev a) σ KK:=by
 simp only [EOp.step,cpsC,cpsD]
 cases x.ev a<;>first|rfl|(cases srcOf σ (y.ev a)<;>rfl)
theorem cpsC_by {b o n c:Nat} {y:AV} {cs ys:List AV} (hb:σ b=some (.obj cs)) (hy:srcOf σ y=some ys) (hl:leaves ys=true) (h0:o+n<=cs.length) (h:KK (.int .i64 (ys.take n).length) (σ.set b (some (.obj (splice cs o (ys.take n).length (ys.take n)))))):cpsC (.msl b o n c) y σ KK:=by
 show cpsD b o n σ KK (srcOf σ y) (σ b)
 rw [hb,hy]
 exact ⟨hl,h0,h⟩
def ovlD (σ:ASt) (K:AV->ASt->Prop) (r:Option Role):Prop:=
 match r with
 | some (.obj cs)=>0<cs.length/\K (.bool false) σ
 | _=>False
def ovlC (x y:AV) (σ:ASt) (K:AV->ASt->Prop):Prop:=
 match x,y with
 | .sl .lit _,.msl b _ _ _=>ovlD σ K (σ b)
 | _,_=>False
@[go_sem] theorem st_ovl {x y:Opd}:EOp.step P (.ovl x y) a σ KK=ovlC (x.ev a) (y.ev a) σ KK:=by
 simp only [EOp.step,ovlC,ovlD]
 generalize x.ev a=u
 generalize y.ev a=v
 cases u with
 | sl k _=>cases k<;>cases v<;>rfl
 | _=>rfl
theorem ovlC_by {xs cs:List AV} {b o n c:Nat} (hb:σ b=some (.obj cs)) (h0:0<cs.length) (h:KK (.bool false) σ):ovlC (.sl .lit xs) (.msl b o n c) σ KK:=by
 show ovlD σ KK (σ b)
 rw [hb]
 exact ⟨h0,h⟩
def clrD (z:List AV) (b o n:Nat) (r:Option Role) (σ:ASt) (K:AV->ASt->Prop):Prop:=
 match r with
 | some (.obj cs)=>leaves z=true/\o+n*z.length<=cs.length/\K .any (σ.set b (some (.obj (splice cs o (n*z.length) (List.replicate n z).flatten))))
 | _=>False
def clrC (z:List AV) (x:AV) (σ:ASt) (K:AV->ASt->Prop):Prop:=
 match x with
 | .msl b o n _=>clrD z b o n (σ b) σ K
 | _=>False
@[go_sem] theorem st_clr {z:List AV} {x:Opd}:EOp.step P (.clr z x) a σ KK=clrC z (x.ev a) σ KK:=by
 simp only [EOp.step,clrC]
 cases x.ev a<;>rfl
theorem clrC_by {z:List AV} {b o n c:Nat} {cs:List AV} (hb:σ b=some (.obj cs)) (hz:leaves z=true) (h0:o+n*z.length<=cs.length) (h:KK .any (σ.set b (some (.obj (splice cs o (n*z.length) (List.replicate n z).flatten))))):clrC z (.msl b o n c) σ KK:=by
 show clrD z b o n (σ b) σ KK
 rw [hb]
 exact ⟨hz,h0,h⟩
def appmD (s bytes:Nat) (z:List AV) (b o n c:Nat) (m:Int) (r:Option Role) (σ:ASt) (K:AV->ASt->Prop):Prop:=
 match r with
 | some (.obj cs)=>leaves z=true/\0<=m/\(n+m.toNat)*bytes<=140737488355328/\n+m.toNat<=4611686018427387904/\o+n*s<=cs.length ∧
   (n+m.toNat<=c->o+(n+m.toNat)*s<=cs.length/\K (.msl b o (n+m.toNat) c) (σ.set b (some (.obj (splice cs (o+n*s) (m.toNat*s) (List.replicate m.toNat z).flatten))))) ∧
   (c<n+m.toNat->∀ b' c',σ b'=none->n+m.toNat<=c'->K (.msl b' 0 (n+m.toNat) c') (σ.set b' (some (.obj (ownRow s z ((cs.drop o).take (n*s)++(List.replicate m.toNat z).flatten) (n+m.toNat) c')))))
 | _=>False
def appmC (s bytes:Nat) (z:List AV) (x m:AV) (σ:ASt) (K:AV->ASt->Prop):Prop:=
 match x,m with
 | .msl b o n c,.int _ m=>appmD s bytes z b o n c m (σ b) σ K
 | _,_=>False
@[go_sem] theorem st_appm {s bytes:Nat} {z:List AV} {x m:Opd}:EOp.step P (.appm s bytes z x m) a σ KK=appmC s bytes z (x.ev a) (m.ev a) σ KK:=by
 simp only [EOp.step,appmC]
 cases x.ev a<;>cases m.ev a<;>rfl
theorem appmC_by {s bytes:Nat} {z:List AV} {b o n c m:Nat} {k:IntKind} {cs:List AV} (hb:σ b=some (.obj cs)) (hz:leaves z=true) (h1:(n+m)*bytes<=140737488355328) (h2:n+m<=4611686018427387904) (h3:o+n*s<=cs.length)
  (h4:n+m<=c->o+(n+m)*s<=cs.length/\KK (.msl b o (n+m) c) (σ.set b (some (.obj (splice cs (o+n*s) (m*s) (List.replicate m z).flatten)))))
  (h5:c<n+m->∀ b' c',σ b'=none->n+m<=c'->KK (.msl b' 0 (n+m) c') (σ.set b' (some (.obj (ownRow s z ((cs.drop o).take (n*s)++(List.replicate m z).flatten) (n+m) c'))))):appmC s bytes z (.msl b o n c) (.int k m) σ KK:=by
 show appmD s bytes z b o n c m (σ b) σ KK
 rw [hb]
 exact ⟨hz,by omega,h1,h2,h3,h4,h5⟩
/-! Maps of numbers. -/
def km:Option Role->Option (List (Int×Int))
 | some (.map l)=>some l
 | _=>none
theorem mapAt_km {b:Nat}:mapAt σ b=km (σ b):=by unfold mapAt km;rfl
@[go_sem] theorem km_map {l:List (Int×Int)}:km (some (.map l))=some l:=id rfl
def mgetR (m:Option (List (Int×Int))) (k:AV):Option AV:=
 match k with
 | .int .i64 k=>match m with
   | some l=>some (.tuple [.int .i64 ((findM l k).getD 0),.bool (findM l k).isSome])
   | none=>none
 | _=>none
def mgetC (x k:AV) (σ:ASt):Option AV:=
 match x with
 | .map (some b)=>mgetR (km (σ b)) k
 | _=>none
@[go_sem] theorem ev_mget {x k:Opd}:QOp.ev (.mget x k) a σ=mgetC (x.ev a) (k.ev a) σ:=by
 simp only [QOp.ev,mgetC,mapAt_km,mgetR]
 cases x.ev a<;>try rfl
 rename_i r
 cases r<;>try rfl
 cases k.ev a<;>try rfl
 rename_i kk n
 cases kk<;>rfl
@[go_sem] theorem mgetC_map {b:Nat} {k:AV}:mgetC (.map (some b)) k σ=mgetR (km (σ b)) k:=id rfl
@[go_sem] theorem mgetR_some {l:List (Int×Int)} {k:Int}:mgetR (some l) (.int .i64 k)=some (.tuple [.int .i64 ((findM l k).getD 0),.bool (findM l k).isSome]):=id rfl
def mkmC (σ:ASt) (K:AV->ASt->Prop):Prop:=∀ b,σ b=none->K (.map (some b)) (σ.set b (some (.map [])))
@[go_sem] theorem st_mkm:EOp.step P .mkm a σ KK=mkmC σ KK:=id rfl
theorem mkmC_by (h:∀ b,σ b=none->KK (.map (some b)) (σ.set b (some (.map [])))):mkmC σ KK:=h
def msetD (b:Nat) (m:Option (List (Int×Int))) (k v:AV) (σ:ASt) (K:AV->ASt->Prop):Prop:=
 match k,v with
 | .int .i64 k,.int .i64 v=>match m with
   | some l=>K .any (σ.set b (some (.map (putM l k v))))
   | none=>False
 | _,_=>False
def msetC (x k v:AV) (σ:ASt) (K:AV->ASt->Prop):Prop:=
 match x with
 | .map (some b)=>msetD b (km (σ b)) k v σ K
 | _=>False
@[go_sem] theorem st_mset {x k v:Opd}:EOp.step P (.mset x k v) a σ KK=msetC (x.ev a) (k.ev a) (v.ev a) σ KK:=by
 simp only [EOp.step,msetC,mapAt_km,msetD]
 cases x.ev a<;>try rfl
 rename_i r
 cases r<;>try rfl
 cases k.ev a<;>try rfl
 rename_i kk n
 cases kk<;>try rfl
 cases v.ev a<;>try rfl
 rename_i kv m
 cases kv<;>rfl
@[go_sem] theorem msetC_map {b:Nat} {k v:AV}:msetC (.map (some b)) k v σ KK=msetD b (km (σ b)) k v σ KK:=id rfl
@[go_sem] theorem msetD_some {b:Nat} {l:List (Int×Int)} {k v:Int}:msetD b (some l) (.int .i64 k) (.int .i64 v) σ KK=KK .any (σ.set b (some (.map (putM l k v)))):=id rfl
def kms:Option Role->Option (List (Int×List UInt8))
 | some (.maps l)=>some l
 | _=>none
theorem mapsAt_kms {b:Nat}:mapsAt σ b=kms (σ b):=by unfold mapsAt kms;rfl
@[go_sem] theorem kms_map {l:List (Int×List UInt8)}:kms (some (.maps l))=some l:=id rfl
def mgetsR (c:Bool) (m:Option (List (Int×List UInt8))) (k:AV):Option AV:=
 match k with
 | .int .i64 k=>match m with
   | some l=>some (if c then .tuple [.str ((findM l k).getD []),.bool (findM l k).isSome] else .str ((findM l k).getD []))
   | none=>none
 | _=>none
def mgetsC (c:Bool) (x k:AV) (σ:ASt):Option AV:=
 match x with
 | .map (some b)=>mgetsR c (kms (σ b)) k
 | _=>none
@[go_sem] theorem ev_mgets {c:Bool} {x k:Opd}:QOp.ev (.mgets c x k) a σ=mgetsC c (x.ev a) (k.ev a) σ:=by
 simp only [QOp.ev,mgetsC,mapsAt_kms,mgetsR]
 cases x.ev a<;>try rfl
 rename_i r
 cases r<;>try rfl
 cases k.ev a<;>try rfl
 rename_i kk n
 cases kk<;>rfl
@[go_sem] theorem mgetsC_map {c:Bool} {b:Nat} {k:AV}:mgetsC c (.map (some b)) k σ=mgetsR c (kms (σ b)) k:=id rfl
@[go_sem] theorem mgetsR_t {l:List (Int×List UInt8)} {k:Int}:mgetsR true (some l) (.int .i64 k)=some (.tuple [.str ((findM l k).getD []),.bool (findM l k).isSome]):=id rfl
@[go_sem] theorem mgetsR_f {l:List (Int×List UInt8)} {k:Int}:mgetsR false (some l) (.int .i64 k)=some (.str ((findM l k).getD [])):=id rfl
def mkmsC (σ:ASt) (K:AV->ASt->Prop):Prop:=∀ b,σ b=none->K (.map (some b)) (σ.set b (some (.maps [])))
@[go_sem] theorem st_mkms:EOp.step P .mkms a σ KK=mkmsC σ KK:=id rfl
theorem mkmsC_by (h:∀ b,σ b=none->KK (.map (some b)) (σ.set b (some (.maps [])))):mkmsC σ KK:=h
def msetsD (b:Nat) (m:Option (List (Int×List UInt8))) (k v:AV) (σ:ASt) (K:AV->ASt->Prop):Prop:=
 match k,v with
 | .int .i64 k,.str v=>match m with
   | some l=>K .any (σ.set b (some (.maps (putM l k v))))
   | none=>False
 | _,_=>False
def msetsC (x k v:AV) (σ:ASt) (K:AV->ASt->Prop):Prop:=
 match x with
 | .map (some b)=>msetsD b (kms (σ b)) k v σ K
 | _=>False
@[go_sem] theorem st_msets {x k v:Opd}:EOp.step P (.msets x k v) a σ KK=msetsC (x.ev a) (k.ev a) (v.ev a) σ KK:=by
 simp only [EOp.step,msetsC,mapsAt_kms,msetsD]
 cases x.ev a<;>try rfl
 rename_i r
 cases r<;>try rfl
 cases k.ev a<;>try rfl
 rename_i kk n
 cases kk<;>try rfl
 cases v.ev a<;>rfl
@[go_sem] theorem msetsC_map {b:Nat} {k v:AV}:msetsC (.map (some b)) k v σ KK=msetsD b (kms (σ b)) k v σ KK:=id rfl
@[go_sem] theorem msetsD_some {b:Nat} {l:List (Int×List UInt8)} {k:Int} {v:List UInt8}:msetsD b (some l) (.int .i64 k) (.str v) σ KK=KK .any (σ.set b (some (.maps (putM l k v)))):=id rfl
def mdelD (b:Nat) (m:Option (List (Int×Int))) (k:AV) (σ:ASt) (K:AV->ASt->Prop):Prop:=
 match k with
 | .int .i64 k=>match m with
   | some l=>K .any (σ.set b (some (.map (delM l k))))
   | none=>False
 | _=>False
def mdelC (x k:AV) (σ:ASt) (K:AV->ASt->Prop):Prop:=
 match x with
 | .map (some b)=>mdelD b (km (σ b)) k σ K
 | _=>False
@[go_sem] theorem st_mdel {x k:Opd}:EOp.step P (.mdel x k) a σ KK=mdelC (x.ev a) (k.ev a) σ KK:=by
 simp only [EOp.step,mdelC,mapAt_km,mdelD]
 cases x.ev a<;>try rfl
 rename_i r
 cases r<;>try rfl
 cases k.ev a<;>try rfl
 rename_i kk n
 cases kk<;>rfl
@[go_sem] theorem mdelC_map {b:Nat} {k:AV}:mdelC (.map (some b)) k σ KK=mdelD b (km (σ b)) k σ KK:=id rfl
@[go_sem] theorem mdelD_some {b:Nat} {l:List (Int×Int)} {k:Int}:mdelD b (some l) (.int .i64 k) σ KK=KK .any (σ.set b (some (.map (delM l k)))):=id rfl
end
attribute [go_sem] List.getD_cons_zero List.getD_cons_succ List.getD_nil List.map_cons List.map_nil List.length_cons List.length_nil List.take_succ_cons List.take_zero List.drop_succ_cons List.drop_zero List.cons_append List.nil_append List.append_nil List.getElem?_cons_zero List.getElem?_cons_succ Option.map_some decide_true decide_false Bool.not_true Bool.not_false if_true if_false Nat.zero_add and_true true_and Bool.false_eq_true Int.toNat_natCast Int.toNat_zero Bool.and_true Bool.and_self beq_self_eq_true Bool.and_eq_true Nat.add_zero decide_eq_true_eq ne_eq not_false_eq_true not_true_eq_false List.getD_eq_getElem?_getD Option.getD_some Option.getD_none List.getElem?_nil List.length_map List.length_append Nat.lt_irrefl Int.natCast_add Int.cast_ofNat_Int
end Go.A
namespace Go.A
section
variable {P:Program} {Q:APost} {a:AFr} {σ σ0:ASt}
theorem ACode.wp_mono (P:Program):∀ (y:ACode) (Q1 Q2:APost),(∀ e a σ,Q1 e a σ->Q2 e a σ)->∀ a σ,y.wp P Q1 a σ->y.wp P Q2 a σ:=by
 intro y
 induction y with
 | skip=>exact fun Q1 Q2 h a σ hh=>h _ _ _ hh
 | ret=>exact fun Q1 Q2 h a σ hh=>h _ _ _ hh
 | exit id=>exact fun Q1 Q2 h a σ hh=>h _ _ _ hh
 | ops l=>
   intro Q1 Q2 h a σ hh
   have key:∀ (l:List AItem) (K1 K2:AFr->ASt->Prop),(∀ a σ,K1 a σ->K2 a σ)->∀ a σ,runI P l K1 a σ->runI P l K2 a σ:=by
    intro l
    induction l with
    | nil=>exact fun K1 K2 h a σ hh=>h _ _ hh
    | cons it r ih=>
      intro K1 K2 h a σ hh
      have st:it.step P (runI P r K1) a σ->it.step P (runI P r K2) a σ:=fun hst=>AOp.step_mono hst fun v σ' hv=>⟨hv.1,ih _ _ h _ _ hv.2⟩
      simp only [runI] at hh ⊢
      split
      ·rename_i hg;rw [hg] at hh;exact st hh
      ·rename_i t want hg
       rw [hg] at hh
       simp only at hh
       split
       ·rename_i b hb
        rw [hb] at hh
        simp only at hh
        split
        ·rename_i hbw;rw [if_pos hbw] at hh;exact st hh
        ·rename_i hbw;rw [if_neg hbw] at hh;exact ih _ _ h _ _ hh
       ·rename_i hne
        rw [hne] at hh
        exact hh
   exact key l _ _ (fun a σ=>h .normal a σ) a σ hh
 | tree t=>exact fun Q1 Q2 h a σ hh=>runT_mono (fun a σ=>h .normal a σ) t a σ hh
 | seq x y ihx ihy=>
   intro Q1 Q2 h a σ hh
   refine ihx _ _ (fun e a σ h1=>?_) a σ hh
   cases e with
   | normal=>exact ihy _ _ h a σ h1
   | exit id=>exact h _ _ _ h1
   | ret=>exact h _ _ _ h1
 | cond c x y ihx ihy=>
   intro Q1 Q2 h a σ hh
   simp only [ACode.wp,condWp] at hh ⊢
   split at hh
   ·split at hh
    ·rename_i hb;rw [if_pos hb];exact ihx _ _ h a σ hh
    ·rename_i hb;rw [if_neg hb];exact ihy _ _ h a σ hh
   ·exact hh.elim
 | block id x ihx=>
   intro Q1 Q2 h a σ hh
   refine ihx _ _ (fun e a σ h1=>?_) a σ hh
   cases e with
   | normal=>exact h _ _ _ h1
   | exit j=>
     simp only [BlockQ] at h1 ⊢
     split at h1
     ·rename_i hj;rw [if_pos hj];exact h _ _ _ h1
     ·rename_i hj;rw [if_neg hj];exact h _ _ _ h1
   | ret=>exact h _ _ _ h1
 | loop x ihx=>
   intro Q1 Q2 h a σ hh
   obtain ⟨I,h0,h1⟩:=hh
   refine ⟨I,h0,fun k a σ hI=>ihx _ _ (fun e a σ h2=>?_) a σ (h1 k a σ hI)⟩
   cases e with
   | normal=>exact h2
   | exit id=>exact h _ _ _ h2
   | ret=>exact h _ _ _ h2
 | dfr f x d y ihy=>
   intro Q1 Q2 h a σ hh
   refine ihy _ _ (fun e a σ h1=>?_) _ σ hh
   cases e with
   | normal=>exact h1
   | exit i=>exact h1
   | ret=>exact ADefer.mono h1 fun _ _ h2=>h _ _ _ h2
def LoopQ (N:AFr->ASt->Prop) (Q:APost):APost:=fun e a σ=>match e with
 | .normal=>N a σ
 | e=>Q e a σ
@[go_sem] theorem LoopQ_n {N:AFr->ASt->Prop}:LoopQ N Q .normal a σ=N a σ:=id rfl
@[go_sem] theorem LoopQ_e {N:AFr->ASt->Prop} {i:Nat}:LoopQ N Q (.exit i) a σ=Q (.exit i) a σ:=id rfl
@[go_sem] theorem LoopQ_r {N:AFr->ASt->Prop}:LoopQ N Q .ret a σ=Q .ret a σ:=id rfl
def Again {ι:Type} (I:ι->AFr->ASt->Prop) (μ:ι->Nat) (i:ι) (a:AFr) (σ:ASt):Prop:=∃ j,μ j<μ i/\Dr (I j) a σ
theorem wp_loop_by {ι:Type} {x:ACode} (I:ι->AFr->ASt->Prop) (μ:ι->Nat) (i0:ι) (h0:Dr (I i0) a σ) (round:∀ i a σ,I i a σ->x.wp P (LoopQ (Again I μ i) Q) a σ):ACode.wp P (.loop x) Q a σ:=by
 refine ⟨fun k a σ=>∃ i,μ i=k/\I i a σ,⟨μ i0,?_⟩,?_⟩
 ·obtain ⟨a',σ',hd,hI⟩:=h0
  exact ⟨a',σ',hd,i0,rfl,hI⟩
 ·rintro k a σ ⟨i,rfl,hI⟩
  have:=round i a σ hI
  have e:LoopQ (Again I μ i) Q=LoopQ (fun a σ=>∃ j,μ j<μ i/\Dr (I j) a σ) Q:=rfl
  rw [e] at this
  have mono := @ACode.wp_mono P
  refine mono x _ _ (fun e a σ h1=>?_) a σ this
  cases e with
  | normal=>
    obtain ⟨j,hj,a',σ',hd,hI'⟩:=h1
    exact ⟨μ j,hj,a',σ',hd,j,rfl,hI'⟩
  | exit id=>exact h1
  | ret=>exact h1
@[go_sem] theorem wp_dfr' {f:FuncId} {x:Opd} {d:Nat} {y:ACode}:ACode.wp P (.dfr f x d y) Q a σ=y.wp P (DfrQ P f (x.ev a) Q) (a.upd d (x.ev a)) σ:=id rfl
@[go_sem] theorem DfrQ_r {f:FuncId} {v:AV}:DfrQ P f v Q .ret a σ=ADefer P f [v] σ fun _ σ'=>Q .ret a σ':=id rfl
def Pure (P:Program) (f:FuncId) (args:List AV) (r:AV):Prop:=∀ σ,ACalls P f args σ fun v σ'=>v=r/\σ'=σ
theorem Pure.use {f:FuncId} {args:List AV} {r:AV} {K:AV->ASt->Prop} (h:Pure P f args r) (hK:K r σ):ACalls P f args σ K:=
 (h σ).mono fun _ _ ⟨h1,h2⟩=>by subst h1 h2;exact hK
theorem Drop.set {b:Nat} {r:Option Role} (h:σ b=none):Drop (σ.set b r) σ:=by
 intro x
 by_cases hx:x=b
 ·subst hx;exact .inr h
 ·exact .inl (ASt.set_ne hx).symm
def Grown (σ0 σ:ASt) (k:SK) (n s:Nat):Prop:=(k = .full/\n=0/\σ=σ0)\/∃ b T,k = .tok b s T/\σ0 b=none/\σ=σ0.set b (some (.tok (n*s)))
theorem Grown.start (σ0:ASt) (s:Nat):Grown σ0 σ0 .full 0 s := .inl ⟨rfl,rfl,rfl⟩
theorem Grown.at {k:SK} {n s x:Nat} {r:Role} (h:Grown σ0 σ k n s) (hx:σ0 x=some r):σ x=some r:=by
 rcases h with ⟨_,_,rfl⟩|⟨b,T,_,hb,rfl⟩
 ·exact hx
 ·have:x≠b:=by rintro rfl;rw [hb] at hx;cases hx
  rw [ASt.set_ne this];exact hx
theorem Grown.can {k:SK} {n s:Nat} {xs:List AV} (h:Grown σ0 σ k n s) (hn:xs.length=n):canApp σ k xs s:=by
 subst hn
 rcases h with ⟨rfl,h1,rfl⟩|⟨b,T,rfl,hb,rfl⟩
 ·have:xs = []:=List.eq_nil_of_length_eq_zero h1
  subst this
  rfl
 ·exact ⟨rfl,ASt.set_same _ _ _⟩
theorem Grown.app {e:TypeId} {k k':SK} {n m s:Nat} {σ':ASt} (h:Grown σ0 σ k n s) (ha:App e σ k s n m k' σ'):Grown σ0 σ' k' (n+m) s:=by
 rcases h with ⟨rfl,rfl,rfl⟩|⟨b,T,rfl,hb,rfl⟩
 ·cases ha with
  | none hm=>subst hm;exact .inl ⟨rfl,rfl,rfl⟩
  | room b T' hb=>cases hb
  | grow b hb _=>exact .inr ⟨b,_,rfl,hb,rfl⟩
 ·cases ha with
  | none hm=>subst hm;exact .inr ⟨b,_,rfl,hb,rfl⟩
  | room b' T' hb'=>
    injection hb' with h1 h2 h3
    subst h1
    exact .inr ⟨b,_,rfl,hb,by rw [ASt.set_set]⟩
  | grow b' hb' hne=>
    obtain ⟨h1,_,h2⟩:=set_none hb'
    refine .inr ⟨b',_,rfl,h2,?_⟩
    funext x
    simp only [dropTok,ASt.set]
    by_cases hx:x=b'
    ·simp [hx]
    ·by_cases hxb:x=b
     ·subst hxb;simp [hx,hb]
     ·simp [hx,hxb]
theorem appC_by {e:TypeId} {k k2:SK} {s bytes:Nat} {z:List AV} {xs ys:List AV} {K:AV->ASt->Prop} (h:Grown σ0 σ k xs.length s) (h2:wellSz s ys=true) (h3:leaves (ys.flatMap AV.cells)=true) (h4:(xs.length+ys.length)*bytes<=140737488355328) (h5:xs.length+ys.length<=4611686018427387904)
  (hK:∀ k' σ',Grown σ0 σ' k' (xs++ys).length s->K (.sl k' (xs++ys)) σ'):appC e s bytes z (.sl k xs) (.sl k2 ys) σ K:=
 ⟨h.can rfl,h2,h3,h4,h5,.inl fun k' σ' ha=>hK k' σ' (by rw [List.length_append];exact h.app ha)⟩
theorem wellSz_map {α:Type} {f:α->AV} {s:Nat} (h:∀ x,(f x).isAny=false/\(f x).cells.length=s) (l:List α):wellSz s (l.map f)=true:=by
 induction l with
 | nil=>rfl
 | cons x l ih=>simp [wellSz,h x,ih]
theorem allSz_map {α:Type} {f:α->AV} {s:Nat} (h:∀ x,(f x).cells.length=s) (l:List α):allSz s (l.map f)=true:=by
 simp [allSz,h]
theorem slV_from {α:Type} {f:α->AV} {s:Nat} (hf:∀ x,(f x).cells.length=s) {k:SK} {L:List α} {j:Nat} (h:j<=L.length):slV (false,s) (.sl k (L.map f)) j L.length=some (.sl .shr ((L.drop j).map f)):=by
 rw [slV_sl (by omega) (by omega) (by simp) (allSz_map hf L),Int.toNat_natCast,Int.toNat_natCast,List.take_of_length_le (by simp),List.map_drop]
theorem slV_to {α:Type} {f:α->AV} {s:Nat} {k:SK} {L:List α} {j:Nat} (h:j<=L.length):slV (false,s) (.sl k (L.map f)) 0 j=some (.sl .shr ((L.take j).map f)):=by
 rw [slV_sl0 (by omega) (by simp;omega)]
 simp [List.map_take]
theorem leaves_app:∀ {xs ys:List AV},leaves (xs++ys)=(leaves xs && leaves ys)
 | [],ys=>by simp [leaves]
 | x::xs,ys=>by simp only [List.cons_append,leaves,leaves_app (xs:=xs),Bool.and_assoc]
def RetC (vs:Option (List AV)) (R:AV->ASt->Prop) (σ:ASt):Prop:=∃ v,vs=some v/\∃ r σ',SDrop σ σ'/\Fz σ σ' (resV v) r/\R r σ'
@[go_sem] theorem RetQ_n {rs:List RV} {R:AV->ASt->Prop}:RetQ rs R .normal a σ=RetC (RV.evs a σ rs) R σ:=id rfl
@[go_sem] theorem RetQ_r {rs:List RV} {R:AV->ASt->Prop}:RetQ rs R .ret a σ=RetC (RV.evs a σ rs) R σ:=id rfl
theorem retC_by {vs:List AV} {R:AV->ASt->Prop} {r:AV} {σ':ASt} (hd:Drop σ σ') (hz:Fz σ σ' (resV vs) r) (hR:R r σ'):RetC (some vs) R σ:=⟨vs,rfl,r,σ',hd.s,hz,hR⟩
end
end Go.A
namespace Go.A
open Go Go.RowKit Go.BigFrame Go.Deep Go.ChangeShapes Go.WideShapes
def noRole:ASt:=fun _=>none
section
variable {P:Program} {w w':World} {σ σ':ASt}
theorem ext_le (h:Ext w w'):Le σ w σ w':=by
 have hb:=h.below
 exact ⟨hb.os,hb.tape,hb.output,hb.size,fun b hlt hn=>⟨hn,hb.block b hlt⟩,fun b cs hlt hn=>⟨.inr hn,hb.block b hlt⟩,
  fun b f hlt hn=>⟨.inr ⟨f,Nat.le_refl _,hn⟩,shape_of_heap_eq (hb.block b hlt),fun o _=>cell_of_heap_eq (hb.block b hlt) o⟩⟩
theorem Sim.ext (hs:Sim σ w) (h:Ext w w'):Sim σ w':=by
 intro b r hb
 have hlt:=hs.lt hb
 have he:=h.below.block b hlt
 have hr:=hs b r hb
 cases r with
 | obj cs=>
   obtain ⟨c,T,fr,h1,h2,h3⟩:=hr
   exact ⟨c,T,fr,he.trans h1,h2.mono (ext_le h),fun o ho=>(h.below.frozen hlt).trans (h3 o ho)⟩
 | tok f=>
   obtain ⟨c,T,fr,h1,h2,h3⟩:=hr
   exact ⟨c,T,fr,he.trans h1,h2,h3⟩
 | fix cs=>
   obtain ⟨h0,c,T,fr,h1,h2⟩:=hr
   exact ⟨h0.mono (ext_le h),c,T,fr,he.trans h1,h2⟩
 | iter l p=>exact he.trans hr
 | typ T vs=>exact he.trans hr
 | map l=>obtain ⟨es,cl,h1,h2⟩:=hr;exact ⟨es,cl,he.trans h1,h2⟩
 | maps l=>obtain ⟨es,cl,h1,h2⟩:=hr;exact ⟨es,cl,he.trans h1,h2⟩
end
theorem Drop.off {σ σ':ASt} {b:Nat} {r:Option Role} (h:Drop σ' σ) (hb:σ b=none):Drop (σ'.set b r) σ:=by
 intro x
 by_cases hx:x=b
 ·subst hx;exact .inr hb
 ·rw [ASt.set_ne hx];exact h x
theorem boxC_by {v:AV} {σ:ASt} {K:AV->ASt->Prop} (h1:v.isAny=false) (h2:∀ b,σ b=none->K (.ptr b 0) (σ.set b (some (.obj v.cells)))):boxC v σ K:=⟨h1,h2⟩
theorem allocC_by {z:List AV} {σ:ASt} {K:AV->ASt->Prop} (h:∀ b,σ b=none->K (.ptr b 0) (σ.set b (some (.obj z)))):allocC z σ K:=h
@[go_sem] theorem bytesAV_length {l:List UInt8}:(bytesAV l).length=l.length:=by simp [bytesAV]
@[go_sem] theorem bytesAV_get {l:List UInt8} {i:Nat}:(bytesAV l)[i]? = (l[i]?).map fun c => .int .u8 c.toNat:=by simp [bytesAV]
@[go_sem] theorem eqC_bn {x y:Bool}:eqC .b true (.bool x) (.bool y)=some (.bool (!(x==y))):=id rfl
attribute [go_sem] ASt.set_set
inductive Ty where
 | int (k:IntKind)
 | bool
 | str
 | sl (e:Ty)
 | unit
 | pair (a b:Ty)
 deriving Inhabited
def Ty.size:Ty->Nat
 | .unit=>0
 | .pair a b=>a.size+b.size
 | _=>1
def Ty.mk:Ty->List AV->AV
 | .unit,cs => .agg cs
 | .pair _ _,cs => .agg cs
 | _,cs=>cs.headD .any
def Ty.ok:Ty->List AV->Prop
 | .int k,cs=>∃ n,cs = [.int k n]/\(Lit.int k n).wf=true
 | .bool,cs=>∃ b,cs = [.bool b]
 | .str,cs=>∃ l:List UInt8,cs = [.str l]/\l.length<=maxLen
 | .sl e,cs=>∃ xs:List (List AV),cs = [.sl .shr (xs.map e.mk)]/\xs.length<=maxLen/\∀ x∈xs,e.ok x
 | .unit,cs=>cs = []
 | .pair a b,cs=>∃ x y,cs=x++y/\a.ok x/\b.ok y
theorem Ty.ok_len:∀ {τ:Ty} {cs:List AV},τ.ok cs->cs.length=τ.size
 | .int k,cs,⟨n,h,_⟩=>by subst h;rfl
 | .bool,cs,⟨n,h⟩=>by subst h;rfl
 | .str,cs,⟨n,h,_⟩=>by subst h;rfl
 | .sl e,cs,⟨n,h,_⟩=>by subst h;rfl
 | .unit,cs,h=>by cases h;rfl
 | .pair a b,cs,⟨x,y,h,h1,h2⟩=>by subst h;rw [List.length_append,Ty.ok_len h1,Ty.ok_len h2];rfl
theorem Ty.mk_cells {τ:Ty} {cs:List AV} (h:τ.ok cs):(τ.mk cs).cells=cs:=by
 cases τ with
 | int k=>obtain ⟨n,rfl,_⟩:=h;rfl
 | bool=>obtain ⟨n,rfl⟩:=h;rfl
 | str=>obtain ⟨n,rfl,_⟩:=h;rfl
 | sl e=>obtain ⟨n,rfl,_⟩:=h;rfl
 | unit=>rfl
 | pair a b=>rfl
def tyFs (P:Program) (sub:TypeId->Option Ty):Nat->List Field->Option Ty
 | _,[]=>some .unit
 | off,f::fs=>if f.offset=off then match sub f.type with
   | some a=>if P.cellsOf f.type=a.size then match tyFs P sub (off+a.size) fs with
     | some b=>some (.pair a b)
     | none=>none
    else none
   | none=>none
  else none
def tyOf (P:Program):Nat->TypeId->Option Ty
 | 0,_=>none
 | n+1,t=>match P.underlying t with
   | some (.int k)=>some (.int k)
   | some .bool=>some .bool
   | some .string=>some .str
   | some (.slice e)=>match tyOf P n e with
     | some a=>if P.cellsOf e=a.size/\0<a.size then some (.sl a) else none
     | none=>none
   | some (.struct fs)=>match tyFs P (tyOf P n) 0 fs.toList with
     | some a=>if P.cellsOf t=a.size then some a else none
     | none=>none
   | _=>none
section
variable {H:Type} {enc:TypeId×Value->H} {P:Program} {w:World} {base:Nat} {spare:Nat->Bool} {held:Bool}
theorem cell_addr' {w:World} {a:Addr} {v:Value} (h:w.cell? a=some v):∃ b off,a=⟨b,off,none⟩/\b<w.heap.size:=by
 obtain ⟨b,off,sp⟩:=a
 have hsp:sp=none:=by
  cases sp with
  | none=>rfl
  | some s=>
    unfold World.cell? at h
    split at h<;>simp at h
 subst hsp
 refine ⟨b,off,rfl,?_⟩
 rcases Nat.lt_or_ge b w.heap.size with hb|hb
 ·exact hb
 ·have:w.heap[b]? = none:=by simp;omega
  simp [World.cell?,this] at h
theorem addr_zero' {a:Addr} {b off:Nat} (h:a.add 0=⟨b,off,none⟩):a=⟨b,off,none⟩:=by
 simpa [Addr.add] using h
theorem row_mk {τ:Ty} {b:Nat} (hb:b<w.heap.size):∀ {xs:List (List AV)} {off:Nat},(∀ x∈xs,τ.ok x) →
  (∀ i x,xs[i]? = some x->∃ vs,Reps noRole w x vs/\∀ j v,vs[j]? = some v->w.cell? ⟨b,off+i*τ.size+j,none⟩=some v)->Row noRole w b off τ.size (xs.map τ.mk)
 | [],off,_,_ => .nil _ _ _
 | x::xs,off,hok,h=>by
   obtain ⟨vs,h1,h2⟩:=h 0 x rfl
   have hx:=hok x (by simp)
   have hc:=Ty.mk_cells hx
   refine .cons (by rw [hc];exact Ty.ok_len hx) ?_ (row_mk hb (fun y hy=>hok y (by simp [hy])) fun i y hy=>?_)
   ·rw [hc]
    exact At.mk' h1 (fun j _=>⟨hb,.inl rfl⟩) (fun j v hj=>by simpa using h2 j v hj)
   ·obtain ⟨us,h3,h4⟩:=h (i+1) y hy
    refine ⟨us,h3,fun j v hj=>?_⟩
    have:=h4 j v hj
    rwa [show off+(i+1)*τ.size+j=off+τ.size+i*τ.size+j by rw [Nat.add_mul];omega] at this
theorem tyFs_open {sub:TypeId->Option Ty} {cs:List Value} (hsub:∀ t τ,sub t=some τ->∀ fuel cs x,DataW.trod enc P w base spare held fuel t cs=some x->∃ as,Reps noRole w as cs/\τ.ok as) :
  ∀ {fs:List Field} {off:Nat} {τ:Ty},tyFs P sub off fs=some τ->(∀ f∈fs,∃ fuel x,DataW.trod enc P w base spare held fuel f.type ((cs.drop f.offset).take (P.cellsOf f.type))=some x) →
   ∃ as,Reps noRole w as ((cs.drop off).take τ.size)/\τ.ok as
 | [],off,τ,h,_=>by
   injection h with h;subst h
   exact ⟨[],by simpa [Ty.size] using .nil,rfl⟩
 | f::fs,off,τ,h,hf=>by
   unfold tyFs at h
   split at h
   ·rename_i hoff
    split at h
    ·rename_i a ha
     split at h
     ·rename_i hsz
      split at h
      ·rename_i b hb
       injection h with h;subst h
       obtain ⟨fuel,x,h1⟩:=hf f (by simp)
       rw [hoff,hsz] at h1
       obtain ⟨as,h2,h3⟩:=hsub _ _ ha _ _ _ h1
       obtain ⟨bs,h4,h5⟩:=tyFs_open hsub hb fun g hg=>hf g (by simp [hg])
       refine ⟨as++bs,?_,as,bs,rfl,h3,h5⟩
       rw [show (Ty.pair a b).size=a.size+b.size from rfl,List.take_add,List.drop_drop]
       exact h2.append h4
      ·cases h
     ·cases h
    ·cases h
   ·cases h
theorem open_ty:∀ (n:Nat) (t:TypeId) (τ:Ty),tyOf P n t=some τ->∀ (fuel:Nat) (cs:List Value) (x:DataW H×List MemPlace),DataW.trod enc P w base spare held fuel t cs=some x->∃ as,Reps noRole w as cs/\τ.ok as
 | 0,t,τ,h,_,_,_,_=>by cases h
 | n+1,t,τ,h,fuel,cs,x,hx=>by
   unfold tyOf at h
   split at h
   ·rename_i k hT
    injection h with h;subst h
    obtain ⟨m,rfl,_,hw⟩:=DataW.trod_int hT hx
    exact ⟨_,.cons (.int _ _) .nil,m,rfl,hw⟩
   ·rename_i hT
    injection h with h;subst h
    obtain ⟨b,rfl,_⟩:=DataW.trod_bool hT hx
    exact ⟨_,.cons (.bool _) .nil,b,rfl⟩
   ·rename_i hT
    injection h with h;subst h
    obtain ⟨s,rfl,_,hl⟩:=DataW.trod_string hT hx
    exact ⟨[.str s.data.toList],.cons (.str _) .nil,_,rfl,by simpa using hl⟩
   ·rename_i e hT
    split at h
    ·rename_i a ha
     split at h
     ·rename_i hsz
      injection h with h;subst h
      rcases open_slice hT hx with ⟨hcs,_⟩|⟨A,len,cap,m,n',D,Pl,hcs,hb,hl,hm,hmm,_,hel⟩
      ·subst hcs
       exact ⟨[.sl .shr []],.cons (.slE _ _) .nil,[],rfl,by simp,by simp⟩
      ·subst hcs
       rw [hsz.1] at hel
       have hle:len<=m:=by rw [hmm];split<;>omega
       obtain ⟨N,hN⟩:=choose_lt (α:=List AV) (n:=len) (p:=fun i as=>a.ok as/\∃ vs,Reps noRole w as vs/\∀ j v,vs[j]? = some v->w.cell? ((A.add (i*a.size)).add j)=some v) (fun i hi=>by
        obtain ⟨cs',h1,h2⟩:=hel i (by omega)
        obtain ⟨as,h3,h4⟩:=open_ty n e a ha _ _ _ h2
        obtain ⟨_,hlen,hc⟩:=World.cells?_some h1
        refine ⟨as,h4,cs',h3,fun j v hj=>?_⟩
        have hjl:j<a.size:=by rw [<-hlen];exact (List.getElem?_eq_some_iff.1 hj).1
        rw [<-hj]
        exact hc j hjl)
       refine ⟨[.sl .shr (((List.range len).map N).map a.mk)],.cons ?_ .nil,_,rfl,?_,?_⟩
       ·by_cases h0:len=0
        ·subst h0;exact .slE _ _
        ·obtain ⟨hok0,vs,h1,h2⟩:=hN 0 (by omega)
         have hlen:=h1.length
         rw [Ty.ok_len hok0] at hlen
         obtain ⟨v0,hv0⟩:∃ v,vs[0]? = some v:=⟨_,List.getElem?_eq_getElem (by omega)⟩
         obtain ⟨b,off,hA,hlt⟩:=cell_addr' (h2 0 v0 hv0)
         rw [Nat.zero_mul] at hA
         have hA:=addr_zero' (addr_zero' hA)
         subst hA
         refine .sl (sz:=a.size) (row_mk hlt ?_ ?_) (by simp) hl trivial hlt
         ·intro y hy
          simp only [List.mem_map,List.mem_range] at hy
          obtain ⟨i,hi,rfl⟩:=hy
          exact (hN i hi).1
         ·intro i y hy
          obtain ⟨hj,hy⟩:=List.getElem?_eq_some_iff.1 hy
          simp only [List.length_map,List.length_range] at hj
          simp at hy
          subst hy
          obtain ⟨_,us,h3,h4⟩:=hN i hj
          refine ⟨us,h3,fun j v hj=>?_⟩
          have:=h4 j v hj
          rwa [addr_add,addr_add] at this
       ·simp only [List.length_map,List.length_range];omega
       ·intro y hy
        simp only [List.mem_map,List.mem_range] at hy
        obtain ⟨i,hi,rfl⟩:=hy
        exact (hN i hi).1
     ·cases h
    ·cases h
   ·rename_i fs hT
    split at h
    ·rename_i a ha
     split at h
     ·rename_i hsz
      injection h with h;subst h
      obtain ⟨xs,n',_,_,hlen,hxl,hfd⟩:=DataW.trod_struct hT hx
      obtain ⟨as,h1,h2⟩:=tyFs_open (cs:=cs) (fun t τ ht fuel cs x=>open_ty n t τ ht fuel cs x) ha fun f hf=>by
       obtain ⟨i,hi,rfl⟩:=List.mem_iff_getElem.1 hf
       have:=hfd i fs.toList[i] (by simp at hi;simp [hi])
       have hix:i<xs.length:=by rw [hxl];simpa using hi
       rw [List.getElem?_eq_getElem hix] at this
       exact ⟨_,_,this⟩
      refine ⟨as,?_,h2⟩
      rw [List.drop_zero,List.take_of_length_le (by omega)] at h1
      exact h1
     ·cases h
    ·cases h
   ·cases h
theorem open_arg {n:Nat} {t:TypeId} {τ:Ty} {r:Reach} {base':Nat} {v:Value} {d:DataW H} {ps:List MemPlace} (h:tyOf P n t=some τ) (hv:Value.okWide P w r base' t v) (hx:DataW.Trod enc P w base spare held t v d ps):∃ cs,Rep noRole w (τ.mk cs) v/\τ.ok cs:=by
 obtain ⟨fuel,hf⟩:=hx
 obtain ⟨as,h1,h2⟩:=open_ty n t τ h fuel _ _ hf
 refine ⟨as,?_,h2⟩
 have leaf:v.cells.toList = [v]->(∀ cs,τ.mk cs=cs.headD .any)->Rep noRole w (τ.mk as) v:=fun e hm=>by
  rw [e] at h1
  cases h1 with
  | cons h3 h4=>cases h4;rw [hm];exact h3
 cases n with
 | zero=>cases h
 | succ n=>
   unfold tyOf at h
   split at h
   ·rename_i k hT
    injection h with h;subst h
    obtain ⟨m,rfl⟩:=okWide_int hT hv
    exact leaf rfl fun _=>rfl
   ·rename_i hT
    injection h with h;subst h
    obtain ⟨m,rfl⟩:=okWide_bool hT hv
    exact leaf rfl fun _=>rfl
   ·rename_i hT
    injection h with h;subst h
    obtain ⟨m,rfl⟩:=okWide_string hT hv
    exact leaf rfl fun _=>rfl
   ·rename_i e hT
    split at h
    ·split at h
     ·injection h with h;subst h
      obtain ⟨a,l,c,rfl⟩:=okWide_slice hT hv
      exact leaf rfl fun _=>rfl
     ·cases h
    ·cases h
   ·rename_i fs hT
    split at h
    ·rename_i a ha
     split at h
     ·injection h with h;subst h
      obtain ⟨cs,rfl,_⟩:=okWide_struct hT hv
      have e:a.mk as = .agg as:=by
       cases a with
       | unit=>rfl
       | pair _ _=>rfl
       | _=>exact absurd ha (tyFs_agg (by simp) (by simp))
      rw [e]
      exact .agg (vs:=cs.toList) h1
     ·cases h
    ·cases h
   ·cases h
where
 tyFs_agg {sub:TypeId->Option Ty} {off:Nat} {fs:List Field} {τ:Ty} (h1:τ ≠ .unit) (h2:∀ a b,τ ≠ .pair a b):tyFs P sub off fs≠some τ:=by
  cases fs with
  | nil=>intro h;injection h with h;exact h1 h.symm
  | cons f fs=>
    intro h
    unfold tyFs at h
    split at h
    ·split at h
     ·split at h
      ·split at h
       ·injection h with h;exact h2 _ _ h.symm
       ·cases h
      ·cases h
     ·cases h
    ·cases h
theorem trod_len:∀ {ts:List TypeId} {vs:List Value} {ds:List (DataW H)} {ps:List MemPlace},DataW.TrodAll enc P w base spare held ts vs ds ps->ds.length=ts.length
 | [],vs,ds,ps,h=>by obtain ⟨_,rfl,_⟩:=trodAll_nil h;rfl
 | t::ts,vs,ds,ps,h=>by
   obtain ⟨v,vs',d,ds',p,q,_,rfl,_,_,h4⟩:=trodAll_cons h
   rw [List.length_cons,trod_len h4,List.length_cons]
def tysOf (P:Program):List TypeId->Option (List Ty)
 | []=>some []
 | t::ts=>match tyOf P 8 t,tysOf P ts with
   | some τ,some τs=>some (τ::τs)
   | _,_=>none
def ArgsOk:List Ty->List AV->Prop
 | [],as=>as = []
 | τ::τs,as=>∃ cs r,as=τ.mk cs::r/\τ.ok cs/\ArgsOk τs r
theorem open_args {r:Reach} {base':Nat}:∀ {ts:List TypeId} {τs:List Ty} {vs:List Value} {ds:List (DataW H)} {ps:List MemPlace},tysOf P ts=some τs->DataW.TrodAll enc P w base spare held ts vs ds ps →
  (∀ (j:Nat) t v,ts[j]? = some t->vs[j]? = some v->Value.okWide P w r base' t v)->∃ as,Reps noRole w as vs/\ArgsOk τs as
 | [],τs,vs,ds,ps,h,ht,_=>by
   injection h with h;subst h
   obtain ⟨rfl,_,_⟩:=trodAll_nil ht
   exact ⟨[],.nil,rfl⟩
 | t::ts,τs,vs,ds,ps,h,ht,hv=>by
   unfold tysOf at h
   split at h
   ·rename_i τ τs' h1 h2
    injection h with h;subst h
    obtain ⟨v,vs',d,ds',p,q,rfl,rfl,rfl,h3,h4⟩:=trodAll_cons ht
    obtain ⟨cs,h5,h6⟩:=open_arg h1 (hv 0 t v rfl rfl) h3
    obtain ⟨as,h7,h8⟩:=open_args h2 h4 fun j t v hj hj'=>hv (j+1) t v hj hj'
    exact ⟨_,.cons h5 h7,cs,as,rfl,h6,h8⟩
   ·cases h
theorem below_all {W W':World} (hl:laidOutB P=true):∀ {ts:List TypeId} {vs:List Value} {ds:List (DataW H)} {ps:List MemPlace},(ts.all fun t=>P.readableRec t && decide (t<P.types.size))=true →
  DataW.TrodAll enc P W 0 (fun _=>true) true ts vs ds ps->Below W.heap.size W W'->(∀ x∈ps,x.block<W.heap.size)->DataW.TrodAll enc P W' 0 (fun b=>decide (b<W.heap.size)) true ts vs ds ps
 | [],vs,ds,ps,_,h,_,_=>by
   obtain ⟨rfl,rfl,rfl⟩:=trodAll_nil h
   exact trodAll_mk0
 | t::ts,vs,ds,ps,hr,h,hb,hlt=>by
   obtain ⟨v,vs',d,ds',p,q,rfl,rfl,rfl,h3,h4⟩:=trodAll_cons h
   simp only [List.all_cons,Bool.and_eq_true,decide_eq_true_eq] at hr
   exact ⟨p,q,Below.trod hl hr.1.1 hr.1.2 h3 hb fun x hx=>hlt x (by simp [hx]),below_all hl hr.2 h4 hb fun x hx=>hlt x (by simp [hx]),rfl⟩
end
end Go.A
namespace Go.A
section
variable {P:Program} {Q:APost} {a:AFr} {σ σ0:ASt}
theorem wp_cut {x y:ACode} (M:AFr->ASt->Prop) (h1:x.wp P (SeqQ (fun _=>M) Q) a σ) (h2:∀ a σ,M a σ->y.wp P Q a σ):ACode.wp P (.seq x y) Q a σ:=by
 rw [wp_seq']
 refine ACode.wp_mono P x _ _ (fun e a σ h=>?_) a σ h1
 cases e with
 | normal=>exact h2 a σ h
 | exit i=>exact h
 | ret=>exact h
theorem wp_loop_on {ι:Type} {x:ACode} (I:ι->AFr->ASt->Prop) (μ:ι->Nat) (i0:ι) (h0:I i0 a σ) (round:∀ i a σ,I i a σ->x.wp P (LoopQ (fun a σ=>∃ j,μ j<μ i/\I j a σ) Q) a σ):ACode.wp P (.loop x) Q a σ:=by
 refine wp_loop_by I μ i0 (Dr.now h0) fun i a σ hI=>?_
 refine ACode.wp_mono P x _ _ (fun e a σ h=>?_) a σ (round i a σ hI)
 cases e with
 | normal=>
   obtain ⟨j,hj,h⟩:=h
   exact ⟨j,hj,Dr.now h⟩
 | exit i=>exact h
 | ret=>exact h
end
@[go_sem] theorem eqC_p1:eqC .p false .nilp .nilp=some (.bool true):=id rfl
@[go_sem] theorem eqC_p2:eqC .p true .nilp .nilp=some (.bool false):=id rfl
@[go_sem] theorem eqC_p5 {b o:Nat}:eqC .p false (.ptr b o) .nilp=some (.bool false):=id rfl
@[go_sem] theorem eqC_p6 {b o:Nat}:eqC .p true (.ptr b o) .nilp=some (.bool true):=id rfl
theorem wf_u64' {n:Int} (h:(Lit.int .u64 n).wf=true):0<=n/\n<=18446744073709551615:=by
 simp [Lit.wf,IntKind.min,IntKind.max,IntKind.signed,IntKind.bits] at h
 omega
end Go.A
namespace Go.A
theorem bytes_take {l:List UInt8} {i:Nat}:(bytesAV l).take i=bytesAV (l.take i):=by simp [bytesAV,List.map_take]
theorem bytes_drop {l:List UInt8} {i:Nat}:(bytesAV l).drop i=bytesAV (l.drop i):=by simp [bytesAV,List.map_drop]
attribute [go_sem] bytesOf_bytesAV
end Go.A
namespace Go.A
def madeP (minus:Bool) (n:Nat):Option Int:=if n<=999999999999999999 then some (if minus=true then -(n:Int) else n) else none
def accP:Nat->List UInt8->Option Nat
 | n,[]=>some n
 | n,c::l=>if c.toNat<48\/57<c.toNat\/99999999999999999<n then none else accP (10*n+(c.toNat-48)) l
def parseQ (minus:Bool) (whole part:List UInt8) (dot:Bool):Option Int:=
 if whole = []\/dot=true/\(part = []\/4<part.length) then none
 else (accP 0 (whole++part++List.replicate (4-part.length) 48)).bind (madeP minus)
def parseD (s:List UInt8):Option Int:=
 let b:=if s.head? = some 45 then s.drop 1 else s
 parseQ (decide (s.head? = some 45)) (Lib.cut b [46]).1 (Lib.cut b [46]).2.1 (Lib.cut b [46]).2.2
end Go.A
