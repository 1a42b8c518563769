/- Part 9 of what TabularTiles leans on: Oc Pa CodePb Pb CodePc Pc CodePd Pd CodePe Pe CodePf Pf CodePg Pg Ph CodePi. -/
import Derived.Test.YtfnhdjigeedieaaGreatDoorProg
import Derived.KernelRfl
import Derived.Test.YtfnhdjigeedieaaGreatDoorZTabularTilesh
set_option linter.defProp false
set_option linter.unusedSimpArgs false
set_option linter.unusedVariables false
set_option maxRecDepth 100000
section
attribute [local go_sem] reduceCtorEq Nat.reduceEqDiff Nat.reduceAdd Nat.reduceSub Nat.reduceMul Nat.reduceLeDiff Int.reduceLT Int.reduceLE Int.reduceEq Int.reduceNeg Int.reduceAdd Int.reduceSub Int.reduceMul true_imp_iff forall_const Nat.mul_one Int.reduceToNat Nat.reducePow Int.reducePow Bool.true_and Bool.false_and Bool.and_false
attribute [local go_sem ↓] reduceIte
namespace Go.A
open Go.Proofs Go.Lib Go.Vint
theorem putB_le (v:PV) (hg:v.good) (ht:∀ t,v = .text t->t.length<=2000):(putB v).length<=2020:=by
 obtain ⟨k,y,z,hp,hB,hy,hz,hk⟩:=put_pl v hg ht
 have hu:=uintB_le (u:=k) (by omega)
 have hf:=foldI_bd (n:=y) (by omega) (by omega)
 have hu2:=uintB_le (u:=foldI y) (by omega)
 have hu3:=uintB_le (u:=(z.length:Int)) (by omega)
 rw [Int.toNat_natCast] at hu3
 rw [hB]
 unfold plB
 split
 ·rw [List.length_append];omega
 ·split
  ·unfold textB
   rw [List.length_append,List.length_append];omega
  ·rw [List.length_append,List.length_nil];omega
theorem TC.bytes_le {c:TC} (h:c.wfine):c.bytes.length<=102500:=by
 have u0:(uintB 0).length=1:=by rw [uintB_small (by decide)];rfl
 have u1:(uintB 1).length=1:=by rw [uintB_small (by decide)];rfl
 have u2:(uintB 2).length=1:=by rw [uintB_small (by decide)];rfl
 have hp:=putB_le c.val h.good h.short
 unfold TC.bytes
 split
 ·omega
 ·split
  ·rename_i hf
   have:=h.nb hf
   rw [List.length_append,List.length_append];omega
  ·rw [List.length_append];omega
def cellB (T:List TC) (i:Nat):List UInt8:=((T[i]?).map TC.bytes).getD []
theorem cellB_at {T:List TC} {i:Nat} {c:TC} (h:T[i]? = some c):cellB T i=c.bytes:=by unfold cellB;rw [h];rfl
theorem cellB_le {T:List TC} (h:∀ c∈T,c.wfine) (i:Nat):(cellB T i).length<=102500:=by
 unfold cellB
 cases hc:T[i]? with
 | none=>simp
 | some c=>exact TC.bytes_le (h c (List.mem_of_getElem? hc))
def wrT (T:List TC) (k:Int) (n:Nat):List UInt8:=(List.range n).flatMap fun j=>cellB T (placeN k j)
theorem wrT_succ {T:List TC} {k:Int} (n:Nat):wrT T k (n+1)=wrT T k n++cellB T (placeN k n):=by
 unfold wrT
 rw [List.range_succ,List.flatMap_append]
 simp
theorem wrT_le {T:List TC} (h:∀ c∈T,c.wfine) (k:Int) (n:Nat):(wrT T k n).length<=102500*n:=by
 induction n with
 | zero=>simp [wrT]
 | succ n ih=>
   rw [wrT_succ,List.length_append]
   have:=cellB_le h (placeN k n)
   omega
def hasT (T:List TC) (j:Nat):Bool:=((T[j]?).map fun c => !c.empty).getD false
def fullN (T:List TC) (n:Nat):List Nat:=(List.range n).filter (hasT T)
theorem fullN_succ {T:List TC} {n:Nat} {c:TC} (h:T[n]? = some c):fullN T (n+1)=fullN T n++if c.empty=true then [] else [n]:=by
 unfold fullN
 have e:hasT T n = !c.empty:=by unfold hasT;rw [h];rfl
 rw [List.range_succ,List.filter_append]
 congr 1
 cases hc:c.empty<;>simp [e,hc]
theorem fullN_le (T:List TC) (n:Nat):(fullN T n).length<=n:=by
 have:=List.length_filter_le (hasT T) (List.range n)
 rw [List.length_range] at this
 exact this
theorem fullN_lt {T:List TC} {n j:Nat} (h:j∈fullN T n):j<n:=by
 unfold fullN at h
 exact List.mem_range.1 (List.mem_filter.1 h).1
def natsI (l:List Nat):List Int:=l.map fun (n:Nat)=>(n:Int)
theorem natsI_u64 (l:List Nat):(natsI l).map (AV.int .u64)=l.map fun (n:Nat)=>AV.int .u64 (n:Int):=by unfold natsI;rw [List.map_map];rfl
theorem fullN_rises (T:List TC) (n:Nat) (hn:n<=32):Rises (natsI (fullN T n)):=by
 have hp:(fullN T n).Pairwise (· < ·):=List.Pairwise.filter _ List.pairwise_lt_range
 constructor
 ·intro x hx
  unfold natsI at hx
  obtain ⟨j,hj,rfl⟩:=List.mem_map.1 hx
  have:=fullN_lt hj
  omega
 ·intro k x y hx hy
  unfold natsI at hx hy
  rw [List.getElem?_map] at hx hy
  generalize fullN T n=l at *
  cases h1:l[k]? with
  | none=>rw [h1] at hx;cases hx
  | some u=>
    cases h2:l[k+1]? with
    | none=>rw [h2] at hy;cases hy
    | some v=>
      rw [h1] at hx
      rw [h2] at hy
      simp only [Option.map_some,Option.some.injEq] at hx hy
      obtain ⟨hk1,e1⟩:=List.getElem?_eq_some_iff.1 h1
      obtain ⟨hk2,e2⟩:=List.getElem?_eq_some_iff.1 h2
      have:=List.pairwise_iff_getElem.1 hp k (k+1) hk1 hk2 (by omega)
      rw [e1,e2] at this
      omega
def spB (T:List TC) (l:List Nat):List UInt8:=l.flatMap (cellB T)
theorem spB_step {T:List TC} {l:List Nat} {i j:Nat} (h:l[i]? = some j):spB T (l.take (i+1))=spB T (l.take i)++cellB T j:=by
 unfold spB
 rw [List.take_add_one,h,List.flatMap_append]
 simp
theorem spB_le {T:List TC} (h:∀ c∈T,c.wfine) (l:List Nat):(spB T l).length<=102500*l.length:=by
 induction l with
 | nil=>simp [spB]
 | cons j l ih=>
   have:=cellB_le h j
   unfold spB at ih ⊢
   rw [List.flatMap_cons,List.length_append,List.length_cons]
   omega
def tileB (T:List TC) (k:Int):List UInt8:=if k=3 then uintB 3++risingB (natsI (fullN T 32))++spB T (fullN T 32) else uintB k.toNat++wrT T k 32
theorem W.grown {σ0 σ1 s2:ASt} {w:Nat} {l:List UInt8} {q:SK} {n s:Nat} (hW:W σ0 w l σ1) (hg:Grown σ1 s2 q n s) (hw:σ0 w=none):∃ σb,W σb w l s2/\Drop σb σ0/\σb w=none/\∀ x r,σ0 x=some r->σb x=some r:=by
 rcases hg with ⟨_,_,rfl⟩|⟨t,T,_,hn,rfl⟩
 ·exact ⟨σ0,hW,Drop.refl _,hw,fun _ _ h=>h⟩
 ·obtain ⟨h1,h2,h3⟩:=hW.add hn (r := .tok (n*s))
  exact ⟨_,h1,Drop.set h3,by rw [ASt.set_ne (Ne.symm h2)];exact hw,fun x r hx=>by rw [ASt.set_ne (by rintro rfl;rw [h3] at hx;cases hx)];exact hx⟩
theorem twrite_ok {T:List TC} {p:Nat} {σ:ASt} (h:TileAt T p σ) (hw:∀ c∈T,c.wfine) (k:Int) (hk:1<=k/\k<=3) :
  ACalls Tryz.prog 20 [.ptr p 0,.int .i64 k] σ fun v σ'=>v = .str (tileB T k)/\σ'=σ:=by
 obtain ⟨cs,hp⟩:=h.ex
 have hlen:=h.len
 have hwk:IntKind.wrap .u64 k=k:=by rw [IntKind.wrap_u64,Int.emod_eq_of_lt (by omega) (by omega)]
 have hu:=uintB_le (u:=k) (by omega)
 refine a20 (by simp) ?_
 simp (disch:=first|assumption|omega) only [go_sem]
 refine aBq fun w hwn=>?_
 have hpw:p≠w:=by rintro rfl;rw [hp] at hwn;cases hwn
 have hW0:=W.new hwn
 simp (disch:=first|assumption|omega) only [go_sem,hwk]
 refine (wuint_ok _ w k [] _ hW0 (by omega) (by omega) (by rw [List.length_nil];omega)).mono ?_
 rintro r σ1 ⟨rfl,hW1⟩
 rw [List.nil_append] at hW1
 by_cases h3:k=3
 ·subst h3
  have hB:tileB T 3=uintB 3++risingB (natsI (fullN T 32))++spB T (fullN T 32):=if_pos rfl
  rw [hB]
  rw [show (3:Int).toNat=3 from rfl] at hW1 hu
  simp (disch:=first|assumption|omega) only [go_sem]
  refine wLq (fun (i:Nat) a1 s2=>i<=32/\∃ q,(a1 0 = .ptr p 0/\a1 5 = .ptr w 0/\a1 7 = .sl q ((fullN T i).map fun (n:Nat)=>AV.int .u64 (n:Int))/\a1 29 = .int .i64 i)/\Grown σ1 s2 q ((fullN T i).map fun (n:Nat)=>AV.int .u64 (n:Int)).length 1) (fun i=>32-i) 0 ⟨Nat.zero_le _,.full,?_,.inl ⟨rfl,rfl,rfl⟩⟩ ?_
  ·simp (disch:=first|assumption|omega) only [go_sem]
   all_goals rfl
  rintro i a1 s2 ⟨hi,q,hf,hg⟩
  by_cases hlt:i<32
  ·have hlt':(i:Int)<32:=by omega
   obtain ⟨c,hc⟩:∃ c,T[i]? = some c:=⟨_,List.getElem?_eq_getElem (by omega)⟩
   have hld:=(h.to (σ':=s2) ((hg.at (W.at hW1 hpw hp)).trans hp.symm)).cell i c hc
   have hst:=fullN_succ hc
   have hle:=fullN_le T i
   have hE:=tcEmpty_ok c
   have hn0:((i:Nat):Int).toNat=i:=rfl
   have hwi:IntKind.wrap .u64 (i:Int)=i:=by rw [IntKind.wrap_u64,Int.emod_eq_of_lt (by omega) (by omega)]
   generalize c.av=cv at *
   generalize c.empty=ce at *
   simp (disch:=first|assumption|omega) only [go_sem,hf,hlt',hld,hn0]
   refine hE.use ?_
   cases ce with
   | true=>
     have hst:fullN T (i+1)=fullN T i:=by rw [hst];simp
     simp (disch:=first|assumption|omega) only [go_sem,hf]
     refine ⟨i+1,by omega,by omega,q,?_,by rw [hst];simpa using hg⟩
     rw [hst]
     simp (disch:=first|assumption|omega) only [go_sem]
     all_goals simp
   | false=>
     have hst:fullN T (i+1)=fullN T i ++ [i]:=by rw [hst];simp
     simp (disch:=first|assumption|omega) only [go_sem,hf,hwi]
     refine appC_by hg rfl rfl (by rw [List.length_map];simp;omega) (by rw [List.length_map];simp;omega) fun q' s3 hg'=>?_
     simp (disch:=first|assumption|omega) only [go_sem,hf]
     refine ⟨i+1,by omega,by omega,q',?_,by rw [hst];simpa using hg'⟩
     rw [hst,List.map_append]
     simp (disch:=first|assumption|omega) only [go_sem]
     all_goals simp
  ·have hi32:i=32:=by omega
   subst hi32
   have hfl:=fullN_le T 32
   have hfr:=fullN_rises T 32 (Nat.le_refl _)
   have hfm:∀ j∈fullN T 32,j<32:=fun j hj=>fullN_lt hj
   have hrl:(natsI (fullN T 32)).length=(fullN T 32).length:=List.length_map _
   obtain ⟨σb,hWb,hdb,hbw,hbx⟩:=hW1.grown hg hwn
   have hpb:=hbx p _ hp
   generalize fullN T 32=F at *
   have hxs:(natsI F).map (AV.int .u64)=F.map fun (n:Nat)=>AV.int .u64 (n:Int):=natsI_u64 F
   have hxl:(F.map fun (n:Nat)=>AV.int .u64 (n:Int)).length=F.length:=List.length_map _
   have hxg:∀ (m j:Nat),F[m]? = some j->(F.map fun (n:Nat)=>AV.int .u64 (n:Int))[m]? = some (.int .u64 (j:Int)):=fun m j hm=>by rw [List.getElem?_map,hm];rfl
   have hrlen:(risingB (natsI F)).length<=400:=by
    unfold risingB
    have h1:=uintB_le (u:=((natsI F).length:Int)) (by omega)
    rw [Int.toNat_natCast] at h1
    have h2:=numsB_len (gaps (natsI F)) (fun x hx=>gaps_bd hfr x hx)
    rw [gaps_length] at h2
    rw [List.length_append]
    omega
   generalize (F.map fun (n:Nat)=>AV.int .u64 (n:Int))=xs at *
   simp (disch:=first|assumption|omega) only [go_sem,hf]
   refine ACalls.shr (args' := [.ptr w 0,u64sAV (natsI F)]) (by unfold u64sAV;rw [hxs];rfl) ?_
   refine (wrising_ok σb w (natsI F) _ _ hWb hfr (by omega) (by omega)).mono ?_
   rintro r σ3 ⟨rfl,hW3⟩
   generalize risingB (natsI F)=RB at *
   simp (disch:=first|assumption|omega) only [go_sem,hf]
   refine wLq (fun (i:Nat) a1 s2=>i<=F.length/\(a1 0 = .ptr p 0/\a1 5 = .ptr w 0/\a1 47 = .sl q xs/\a1 48 = .int .i64 F.length/\a1 49 = .int .i64 i)/\W σb w (uintB 3++RB++spB T (F.take i)) s2) (fun i=>F.length-i) 0 ⟨Nat.zero_le _,?_,?_⟩ ?_
   ·simp (disch:=first|assumption|omega) only [go_sem,hf,hxl]
   ·simpa [spB] using hW3
   rintro i a1 s2 ⟨hi,hf,hW2⟩
   have hsl:=spB_le hw (F.take i)
   rw [List.length_take] at hsl
   by_cases hlt:i<F.length
   ·have hlt':(i:Int)<F.length:=by omega
    obtain ⟨j,hj⟩:∃ j,F[i]? = some j:=⟨_,List.getElem?_eq_getElem hlt⟩
    have hx:=hxg i j hj
    have hj32:=hfm j (List.mem_of_getElem? hj)
    have hj32':(j:Int)<32:=by omega
    obtain ⟨c,hc⟩:∃ c,T[j]? = some c:=⟨_,List.getElem?_eq_getElem (by omega)⟩
    have hld:=(h.to (σ':=s2) ((W.at hW2 hpw hpb).trans hp.symm)).cell j c hc
    have hst:=spB_step (T:=T) hj
    rw [cellB_at hc] at hst
    have hput:=tput_ok σb w c (hw c (List.mem_of_getElem? hc)) _ _ hW2 (by rw [List.length_append,List.length_append];omega)
    have hn0:((j:Nat):Int).toNat=j:=rfl
    have hn1:((i:Nat):Int).toNat=i:=rfl
    generalize c.av=cv at *
    simp (disch:=first|assumption|omega) only [go_sem,hf,hlt',hx,hld,hn0,hn1]
    refine hput.mono ?_
    rintro r s3 ⟨rfl,hW4⟩
    simp (disch:=first|assumption|omega) only [go_sem,hf]
    refine ⟨i+1,by omega,by omega,?_,by rw [hst,← List.append_assoc];exact hW4⟩
    simp (disch:=first|assumption|omega) only [go_sem]
    all_goals simp
   ·have hlt':¬ (i:Int)<F.length:=by omega
    have hFt:F.take i=F:=List.take_of_length_le (by omega)
    rw [hFt] at hW2
    simp (disch:=first|assumption|omega) only [go_sem,hf,hlt']
    refine (wbytes_ok σb w _ _ hW2).mono ?_
    rintro r s3 ⟨rfl,rfl⟩
    simp (disch:=first|assumption|omega) only [go_sem]
    exact retC_by ((W.drop hW2 hbw).trans hdb) (.refl _) ⟨rfl,rfl⟩
 ·have hB:tileB T k=uintB k.toNat++wrT T k 32:=if_neg h3
  rw [hB]
  simp (disch:=first|assumption|omega) only [go_sem,h3]
  refine wLq (fun (i:Nat) a1 s2=>i<=32/\(a1 0 = .ptr p 0/\a1 1 = .int .i64 k/\a1 5 = .ptr w 0/\a1 16 = .int .i64 i)/\W σ w (uintB k.toNat++wrT T k i) s2) (fun i=>32-i) 0 ⟨Nat.zero_le _,?_,?_⟩ ?_
  ·simp (disch:=first|assumption|omega) only [go_sem]
  ·simpa [wrT] using hW1
  rintro i a1 s2 ⟨hi,hf,hW2⟩
  have hle:=wrT_le hw k i
  by_cases hlt:i<32
  ·have hlt':(i:Int)<32:=by omega
   have hP:=place_ok k i hlt
   have hj:=placeN_lt (k:=k) hlt
   obtain ⟨c,hc⟩:∃ c,T[placeN k i]? = some c:=⟨_,List.getElem?_eq_getElem (by omega)⟩
   have hld:=(h.to (σ':=s2) ((W.at hW2 hpw hp).trans hp.symm)).cell _ c hc
   have hst:=wrT_succ (T:=T) (k:=k) i
   rw [cellB_at hc] at hst
   have hput:=tput_ok σ w c (hw c (List.mem_of_getElem? hc)) _ _ hW2 (by rw [List.length_append];omega)
   generalize placeN k i=j at *
   have hj':(j:Int)<32:=by omega
   have hn0:((j:Nat):Int).toNat=j:=rfl
   generalize c.av=cv at *
   simp (disch:=first|assumption|omega) only [go_sem,hf,hlt']
   refine hP.use ?_
   simp (disch:=first|assumption|omega) only [go_sem,hf,hld,hn0]
   refine hput.mono ?_
   rintro r s3 ⟨rfl,hW4⟩
   simp (disch:=first|assumption|omega) only [go_sem,hf]
   refine ⟨i+1,by omega,by omega,?_,by rw [hst,← List.append_assoc];exact hW4⟩
   simp (disch:=first|assumption|omega) only [go_sem]
   all_goals simp
  ·have hi32:i=32:=by omega
   subst hi32
   have hlt':¬ ((32:Nat):Int)<32:=by omega
   simp (disch:=first|assumption|omega) only [go_sem,hf]
   refine (wbytes_ok σ w _ _ hW2).mono ?_
   rintro r s3 ⟨rfl,rfl⟩
   simp (disch:=first|assumption|omega) only [go_sem]
   exact retC_by (W.drop hW2 hwn) (.refl _) ⟨rfl,rfl⟩
end Go.A
namespace Go.A
open Go.Proofs Go.Lib
structure PSt where
 i:Nat
 deep:Int
 err:Int
 bad:Int
 deriving DecidableEq
def endT:Tok:=⟨0,[],0,0⟩
def zN:Nd := .mk 0 0 [] .zero .zero []
section
variable (T:List Tok)
def PSt.next (s:PSt):PSt := { s with i:=s.i+1 }
def curT (s:PSt):Tok:=if s.err≠0 then endT else T.getD s.i endT
def failP (s:PSt) (e:Int):PSt:=if s.err=0 then { s with err:=e,bad:=((T.getD s.i endT).at':Nat) } else s
def isOp (s:PSt) (x:List UInt8):Bool:=decide ((curT T s).kind=6) && decide ((curT T s).text=x)
def mustP (s:PSt) (x:List UInt8):PSt:=if isOp T s x then s.next else failP T s 10
def enterP (s:PSt):PSt:=if 40<s.deep+1 then failP T { s with deep:=s.deep+1 } 12 else { s with deep:=s.deep+1 }
def leaveP (s:PSt):PSt := { s with deep:=s.deep-1 }
def stepP1 (s:PSt):PSt:=if s.err=0 then s.next else s
def levelsL:List (List (List UInt8)) := [[[61],[60,62],[60],[60,61],[62],[62,61]],[[38]],[[43],[45]],[[42],[47]],[[94]]]
def idxS (x:List UInt8):List (List UInt8)->Nat->Int
 | [],_ => -1
 | y::l,i=>if x=y then i else idxS x l (i+1)
def idxP (l:List (List UInt8)) (x:List UInt8):Int:=idxS x l 0
theorem idxS_mem (x:List UInt8):∀ (l:List (List UInt8)) (k:Nat),decide (0<=idxS x l k)=decide (x∈l)
 | [],k=>by simp [idxS]
 | y::l,k=>by
   rw [idxS]
   by_cases h:x=y
   ·subst h;simp
   ·rw [if_neg h,idxS_mem x l (k+1)];simp [h]
theorem idxS_rng (x:List UInt8):∀ (l:List (List UInt8)) (k:Nat), -1<=idxS x l k/\idxS x l k<=k+l.length
 | [],k=>by simp only [idxS];omega
 | y::l,k=>by
   rw [idxS]
   split
   ·simp only [List.length_cons];omega
   ·have:=idxS_rng x l (k+1);simp only [List.length_cons];omega
def sgn (s:PSt) (lvl:Nat):Bool:=decide ((curT T s).kind=6) && decide ((curT T s).text∈levelsL.getD lvl [])
def refT (t:Tok):Ref:=(parseP t.text).1
def areaP (s:PSt):Nd×PSt:=
 if isOp T s.next [58]=false then (.mk 5 0 [] (refT (curT T s)) .zero [],s.next)
 else if (curT T s.next.next).kind≠4 then (zN,failP T s.next.next 10)
 else (.mk 6 0 [] (refT (curT T s)) (refT (curT T s.next.next)) [],s.next.next.next)
mutual
def betwP:Nat->Nat->PSt->Option (Nd×PSt)
 | 0,_,_=>none
 | f+1,lvl,s=>if lvl=5 then signedP f s else match betwP f (lvl+1) s with
   | none=>none
   | some r=>loopP f lvl r.1 r.2
def loopP:Nat->Nat->Nd->PSt->Option (Nd×PSt)
 | 0,_,_,_=>none
 | f+1,lvl,n,s=>if sgn T s lvl=true then (match betwP f (lvl+1) s.next with
   | none=>none
   | some r=>loopP f lvl (.mk (10+idxP signL (curT T s).text) 0 [] .zero .zero [n,r.1]) r.2) else some (n,s)
def signedP:Nat->PSt->Option (Nd×PSt)
 | 0,_=>none
 | f+1,s=>if isOp T s [45]=true then (match signedP f (stepP1 (enterP T s)) with
   | none=>none
   | some r=>some (.mk 7 0 [] .zero .zero [r.1],leaveP r.2))
  else if isOp T s [43]=true then (match signedP f (stepP1 (enterP T s)) with
   | none=>none
   | some r=>some (.mk 8 0 [] .zero .zero [r.1],leaveP r.2))
  else hundredP f s
def hundredP:Nat->PSt->Option (Nd×PSt)
 | 0,_=>none
 | f+1,s=>match primP f s with
   | none=>none
   | some r=>hloopP f r.1 r.2
def hloopP:Nat->Nd->PSt->Option (Nd×PSt)
 | 0,_,_=>none
 | f+1,n,s=>if isOp T s [37]=true then hloopP f (.mk 9 0 [] .zero .zero [n]) s.next else some (n,s)
def primP:Nat->PSt->Option (Nd×PSt)
 | 0,_=>none
 | f+1,s=>
   if (curT T s).kind=1 then (match parseD (curT T s).text with
    | none=>some (zN,failP T s 10)
    | some v=>some (.mk 1 v [] .zero .zero [],s.next))
   else if (curT T s).kind=2 then some (.mk 2 0 (curT T s).text .zero .zero [],s.next)
   else if (curT T s).kind=5 then some (.mk 4 ((idxP errL (curT T s).text+1)*10000) [] .zero .zero [],s.next)
   else if (curT T s).kind=4 then some (areaP T s)
   else if (curT T s).kind=3 then nameP f s
   else if isOp T s [40]=true then (match betwP f 0 (stepP1 (enterP T s)) with
    | none=>none
    | some r=>some (r.1,leaveP (mustP T r.2 [41])))
   else some (zN,failP T s 10)
def nameP:Nat->PSt->Option (Nd×PSt)
 | 0,_=>none
 | f+1,s=>
   if (T.getD (s.i+1) endT).kind=6/\(T.getD (s.i+1) endT).text = [40] then
    (if (enterP T s).err≠0 then some (zN,leaveP (enterP T s))
     else match argsP f (enterP T s).next.next with
      | none=>none
      | some r=>some (.mk 22 0 (curT T s).text .zero .zero r.1,leaveP r.2))
   else if (curT T s).text = [84,82,85,69] then some (.mk 3 1 [] .zero .zero [],s.next)
   else if (curT T s).text = [70,65,76,83,69] then some (.mk 3 0 [] .zero .zero [],s.next)
   else some (zN,failP T s 10)
def argsP:Nat->PSt->Option (List Nd×PSt)
 | 0,_=>none
 | f+1,s=>if isOp T s [41]=true then some ([],s.next) else aloopP f [] s
def aloopP:Nat->List Nd->PSt->Option (List Nd×PSt)
 | 0,_,_=>none
 | f+1,l,s=>if s.err≠0 then some (l,s) else
   match (if isOp T s [44]=true\/isOp T s [41]=true then some (missN,s) else betwP f 0 s) with
   | none=>none
   | some r=>if isOp T r.2 [44]=true then aloopP f (l ++ [r.1]) r.2.next else some (l ++ [r.1],mustP T r.2 [41])
end
def parseT (f:Nat) (s:List UInt8):Option (Nd×Int×Int):=
 if (lexP s).2.2≠0 then some (zN,(lexP s).2.1,(lexP s).2.2) else
 match betwP (lexP s).1 f 0 ⟨0,0,0,0⟩ with
 | none=>none
 | some r=>
   if (if (curT (lexP s).1 r.2).kind≠0 then failP (lexP s).1 r.2 10 else r.2).err≠0 then some (zN,(if (curT (lexP s).1 r.2).kind≠0 then failP (lexP s).1 r.2 10 else r.2).bad,(if (curT (lexP s).1 r.2).kind≠0 then failP (lexP s).1 r.2 10 else r.2).err)
   else some (r.1,0,0)
end
structure Ends (T:List Tok):Prop where
 pos:0<T.length
 last:∀ i,i+1=T.length->(T.getD i endT).kind=0
 more:∀ i,i<T.length->(T.getD i endT).kind≠0->i+1<T.length
structure Fit (T:List Tok) (s:PSt):Prop where
 i:s.i<T.length
 d0:0<=s.deep
 d1:s.deep<=41
 d2:s.err=0->s.deep<=40
structure Went (T:List Tok) (s s':PSt):Prop where
 fit:Fit T s'
 le:s.i<=s'.i
 deep:s'.deep=s.deep
 err:s.err≠0->s'.err=s.err/\s'.i=s.i
section
variable {T:List Tok}
theorem Went.refl {s:PSt} (h:Fit T s):Went T s s:=⟨h,Nat.le_refl _,rfl,fun _=>⟨rfl,rfl⟩⟩
theorem Went.trans {s s' s'':PSt} (h:Went T s s') (k:Went T s' s''):Went T s s'':=
 ⟨k.fit,Nat.le_trans h.le k.le,k.deep.trans h.deep,fun he=>by
  obtain ⟨h1,h2⟩:=h.err he
  obtain ⟨k1,k2⟩:=k.err (by rw [h1];exact he)
  exact ⟨k1.trans h1,k2.trans h2⟩⟩
theorem Fit.next {s:PSt} (hT:Ends T) (h:Fit T s) (hk:(curT T s).kind≠0):Fit T s.next/\s.err=0:=by
 unfold curT at hk
 split at hk
 ·exact absurd rfl hk
 ·rename_i he
  have:=hT.more s.i h.i hk
  exact ⟨⟨this,h.d0,h.d1,h.d2⟩,by simpa using he⟩
theorem Went.next {s:PSt} (hT:Ends T) (h:Fit T s) (hk:(curT T s).kind≠0):Went T s s.next:=
 ⟨(h.next hT hk).1,Nat.le_succ _,rfl,fun he=>absurd (h.next hT hk).2 he⟩
theorem Fit.fail {s:PSt} (h:Fit T s) (e:Int) (he:e≠0):Fit T (failP T s e):=by
 unfold failP
 split
 ·exact ⟨h.i,h.d0,h.d1,fun h0=>absurd h0 he⟩
 ·exact h
theorem Went.fail {s:PSt} (h:Fit T s) (e:Int) (he:e≠0):Went T s (failP T s e):=by
 refine ⟨h.fail e he,?_,?_,fun h0=>?_⟩
 ·unfold failP;split<;>exact Nat.le_refl _
 ·unfold failP;split<;>rfl
 ·unfold failP;rw [if_neg h0];exact ⟨rfl,rfl⟩
theorem isOp_kind {s:PSt} {x:List UInt8} (h:isOp T s x=true):(curT T s).kind≠0:=by
 unfold isOp at h
 simp only [Bool.and_eq_true,decide_eq_true_eq] at h
 omega
theorem sgn_kind {s:PSt} {l:Nat} (h:sgn T s l=true):(curT T s).kind≠0:=by
 unfold sgn at h
 simp only [Bool.and_eq_true,decide_eq_true_eq] at h
 omega
theorem Went.must {s:PSt} (hT:Ends T) (h:Fit T s) (x:List UInt8):Went T s (mustP T s x):=by
 unfold mustP
 split
 ·rename_i hx;exact Went.next hT h (isOp_kind hx)
 ·exact Went.fail h 10 (by decide)
theorem enter_fit {s:PSt} (hT:Ends T) (h:Fit T s) (hk:(curT T s).kind≠0):Fit T (stepP1 (enterP T s))/\(stepP1 (enterP T s)).deep=s.deep+1/\s.i<=(stepP1 (enterP T s)).i:=by
 obtain ⟨h1,h2⟩:=h.next hT hk
 have hd:=h.d2 h2
 unfold enterP
 split
 ·unfold failP
  dsimp only
  rw [if_pos h2]
  unfold stepP1
  dsimp only
  rw [if_neg (by decide)]
  exact ⟨⟨h.i,by have:=h.d0;dsimp only;omega,by dsimp only;omega,fun h0=>absurd h0 (by dsimp only;decide)⟩,rfl,Nat.le_refl _⟩
 ·unfold stepP1
  dsimp only
  rw [if_pos h2]
  exact ⟨⟨h1.i,by have:=h.d0;dsimp only [PSt.next];omega,by dsimp only [PSt.next];omega,fun _=>by dsimp only [PSt.next];omega⟩,rfl,Nat.le_succ _⟩
theorem Went.leave {s s1 s2:PSt} (h1:s1.deep=s.deep+1) (hle:s.i<=s1.i) (h0:s.err=0) (hs:Fit T s) (h:Went T s1 s2):Went T s (leaveP s2):=by
 have hd:=h.deep
 have e:(leaveP s2).deep=s2.deep-1:=rfl
 have:=hs.d0
 have:=hs.d2 h0
 exact ⟨⟨h.fit.i,by omega,by omega,fun _=>by omega⟩,Nat.le_trans hle h.le,by omega,fun he=>absurd h0 he⟩
theorem cur_err {s:PSt} (h:(curT T s).kind≠0):s.err=0:=by
 unfold curT at h
 split at h
 ·exact absurd rfl h
 ·rename_i he;simpa using he
theorem cur_at {s:PSt} (h:s.err=0):curT T s=T.getD s.i endT:=by unfold curT;rw [if_neg (by simp [h])]
theorem Went.area {s:PSt} (hT:Ends T) (h:Fit T s) (hk:(curT T s).kind=4):Went T s (areaP T s).2:=by
 have h1:=Went.next hT h (by omega)
 unfold areaP
 split
 ·exact h1
 ·rename_i ho
  have ho':isOp T s.next [58]=true:=by simpa using ho
  have h2:=h1.trans (Went.next hT h1.fit (isOp_kind ho'))
  split
  ·exact h2.trans (Went.fail h2.fit 10 (by decide))
  ·rename_i hk2
   exact h2.trans (Went.next hT h2.fit (by omega))
structure WentF (T:List Tok) (f:Nat):Prop where
 betw:∀ lvl s r,betwP T f lvl s=some r->Fit T s->Went T s r.2
 loop:∀ lvl n s r,loopP T f lvl n s=some r->Fit T s->Went T s r.2
 signed:∀ s r,signedP T f s=some r->Fit T s->Went T s r.2
 hundred:∀ s r,hundredP T f s=some r->Fit T s->Went T s r.2
 hloop:∀ n s r,hloopP T f n s=some r->Fit T s->Went T s r.2
 prim:∀ s r,primP T f s=some r->Fit T s->Went T s r.2
 name:∀ s r,nameP T f s=some r->Fit T s->(curT T s).kind=3->Went T s r.2
 args:∀ s r,argsP T f s=some r->Fit T s->Went T s r.2
 aloop:∀ l s r,aloopP T f l s=some r->Fit T s->Went T s r.2
theorem enter2 {s:PSt} (hT:Ends T) (h:Fit T s) (hk:(curT T s).kind≠0) (he:(enterP T s).err=0):Fit T (enterP T s).next/\(enterP T s).deep=s.deep+1/\(enterP T s).i=s.i/\(enterP T s).next=stepP1 (enterP T s):=by
 have h1:=enter_fit hT h hk
 have e:stepP1 (enterP T s)=(enterP T s).next:=if_pos he
 rw [e] at h1
 refine ⟨h1.1,h1.2.1,?_,e.symm⟩
 unfold enterP failP
 split
 ·split<;>rfl
 ·rfl
theorem enter_err {s:PSt} (hT:Ends T) (h:Fit T s) (h0:s.err=0):Fit T (enterP T s)/\(enterP T s).deep=s.deep+1/\(enterP T s).i=s.i:=by
 have hd:=h.d2 h0
 have:=h.d0
 unfold enterP
 split
 ·unfold failP
  dsimp only
  rw [if_pos h0]
  exact ⟨⟨h.i,by dsimp only;omega,by dsimp only;omega,fun h=>absurd h (by dsimp only;decide)⟩,rfl,rfl⟩
 ·exact ⟨⟨h.i,by dsimp only;omega,by dsimp only;omega,fun _=>by dsimp only;omega⟩,rfl,rfl⟩
theorem wentF (hT:Ends T):∀ f,WentF T f
 | 0=>by
   constructor
   all_goals intros
   all_goals first
    | (rename_i h _;simp only [betwP,loopP,signedP,hundredP,hloopP,primP,argsP,aloopP,reduceCtorEq] at h)
    | (rename_i h _ _;simp only [nameP,reduceCtorEq] at h)
 | f+1=>by
   have ih:=wentF hT f
   constructor
   ·intro lvl s r h hf
    rw [betwP] at h
    split at h
    ·exact ih.signed s r h hf
    ·split at h
     ·cases h
     ·rename_i r1 h1
      have w1:=ih.betw _ _ _ h1 hf
      exact w1.trans (ih.loop _ _ _ _ h w1.fit)
   ·intro lvl n s r h hf
    rw [loopP] at h
    split at h
    ·rename_i hk
     split at h
     ·cases h
     ·rename_i r1 h1
      have w0:=Went.next hT hf (sgn_kind hk)
      have w1:=w0.trans (ih.betw _ _ _ h1 w0.fit)
      exact w1.trans (ih.loop _ _ _ _ h w1.fit)
    ·injection h with h;subst h;exact Went.refl hf
   ·intro s r h hf
    rw [signedP] at h
    split at h
    ·rename_i hk
     split at h
     ·cases h
     ·rename_i r1 h1
      injection h with h;subst h
      obtain ⟨g1,g2,g3⟩:=enter_fit hT hf (isOp_kind hk)
      exact Went.leave g2 g3 (cur_err (isOp_kind hk)) hf (ih.signed _ _ h1 g1)
    split at h
    ·rename_i hk
     split at h
     ·cases h
     ·rename_i r1 h1
      injection h with h;subst h
      obtain ⟨g1,g2,g3⟩:=enter_fit hT hf (isOp_kind hk)
      exact Went.leave g2 g3 (cur_err (isOp_kind hk)) hf (ih.signed _ _ h1 g1)
    ·exact ih.hundred _ _ h hf
   ·intro s r h hf
    rw [hundredP] at h
    split at h
    ·cases h
    ·rename_i r1 h1
     have w1:=ih.prim _ _ h1 hf
     exact w1.trans (ih.hloop _ _ _ h w1.fit)
   ·intro n s r h hf
    rw [hloopP] at h
    split at h
    ·rename_i hk
     have w0:=Went.next hT hf (isOp_kind hk)
     exact w0.trans (ih.hloop _ _ _ h w0.fit)
    ·injection h with h;subst h;exact Went.refl hf
   ·intro s r h hf
    rw [primP] at h
    split at h
    ·rename_i hk
     split at h
     ·injection h with h;subst h;exact Went.fail hf 10 (by decide)
     ·injection h with h;subst h;exact Went.next hT hf (by rw [hk];decide)
    split at h
    ·rename_i hk
     injection h with h;subst h;exact Went.next hT hf (by omega)
    split at h
    ·rename_i hk
     injection h with h;subst h;exact Went.next hT hf (by omega)
    split at h
    ·rename_i hk
     injection h with h;subst h;exact Went.area hT hf hk
    split at h
    ·rename_i hk
     exact ih.name _ _ h hf hk
    split at h
    ·rename_i hk
     split at h
     ·cases h
     ·rename_i r1 h1
      injection h with h;subst h
      obtain ⟨g1,g2,g3⟩:=enter_fit hT hf (isOp_kind hk)
      have w1:=ih.betw _ _ _ h1 g1
      exact Went.leave g2 g3 (cur_err (isOp_kind hk)) hf (w1.trans (Went.must hT w1.fit _))
    ·injection h with h;subst h;exact Went.fail hf 10 (by decide)
   ·intro s r h hf hk3
    have h0:s.err=0:=cur_err (T:=T) (by omega)
    have hn:=hf.next hT (by omega)
    rw [nameP] at h
    split at h
    ·rename_i hk
     obtain ⟨e1,e2,e3⟩:=enter_err hT hf h0
     split at h
     ·injection h with h;subst h
      exact Went.leave e2 (by omega) h0 hf (Went.refl e1)
     ·rename_i he
      split at h
      ·cases h
      ·rename_i r1 h1
       injection h with h;subst h
       obtain ⟨g1,g2,g3,_⟩:=enter2 hT hf (by omega) (by simpa using he)
       have hl:=hT.more (s.i+1) hn.1.i (by omega)
       have g4:Fit T (enterP T s).next.next:=⟨by show (enterP T s).i+1+1<_;omega,g1.d0,g1.d1,g1.d2⟩
       exact Went.leave (s1:=(enterP T s).next.next) g2 (by show s.i<=(enterP T s).i+1+1;omega) h0 hf (ih.args _ _ h1 g4)
    split at h
    ·injection h with h;subst h;exact Went.next hT hf (by omega)
    split at h
    ·injection h with h;subst h;exact Went.next hT hf (by omega)
    ·injection h with h;subst h;exact Went.fail hf 10 (by decide)
   ·intro s r h hf
    rw [argsP] at h
    split at h
    ·rename_i hk
     injection h with h;subst h;exact Went.next hT hf (isOp_kind hk)
    ·exact ih.aloop _ _ _ h hf
   ·intro l s r h hf
    rw [aloopP] at h
    split at h
    ·injection h with h;subst h;exact Went.refl hf
    ·rename_i he
     split at h
     ·cases h
     ·rename_i r1 h1
      have w1:Went T s r1.2:=by
       split at h1
       ·injection h1 with h1;subst h1;exact Went.refl hf
       ·exact ih.betw _ _ _ h1 hf
      split at h
      ·rename_i hk
       have w2:=w1.trans (Went.next hT w1.fit (isOp_kind hk))
       exact w2.trans (ih.aloop _ _ _ h w2.fit)
      ·injection h with h;subst h;exact w1.trans (Went.must hT w1.fit _)
end
end Go.A
namespace Go.A
open Go.Proofs
/-! 65: (*tabular/parse.parser).cur -/
def c65_9:ACode := .seq (.ops [ oe 2 (.alloc [(.int .i64 0),(.str []),(.int .i64 0),(.int .i64 0)])]) (.seq (.seq (.ops [ oq 3 (.mv (.t 0)),oq 4 (.nc (.t 3)),oq 5 (.fa 3 (.t 4)),oq 6 (.ld none (.t 5)),oq 7 (.bin .neq (.t 6) (.v (.int .i64 0)))]) (.cond (.t 7) (.seq (.ops [ oq 8 (.build [(.int .i64 0),(.str []),(.int .i64 0),(.int .i64 0)] []),oz (.store 4 (.t 2) (.t 8))]) .ret) .skip)) (.seq (.ops [ oq 9 (.mv (.t 0)),oq 10 (.nc (.t 9)),oq 11 (.fa 0 (.t 10)),oq 12 (.ld none (.t 11)),oq 13 (.mv (.t 0)),oq 14 (.nc (.t 13)),oq 15 (.fa 1 (.t 14)),oq 16 (.ld none (.t 15)),oq 17 (.ia 4 (.t 12) (.t 16)),oq 18 (.ld (some 4) (.t 17)),oz (.store 4 (.t 2) (.t 18))]) .ret))
@[go_sem] def c65_9_wp:=wp_of c65_9.eq_1
def c65:AFn:=⟨19,[.c 2 (some 4)],c65_9⟩
theorem c65_ok:compF Tryz.prog Tryz.f65=some c65:=by kernel_rfl
theorem a65 {args:List AV} {σ:ASt} {R:AV->ASt->Prop} (hl:args.length<=19) (h:c65_9.wp Tryz.prog (RetQ [.c 2 (some 4)] R) (init args) σ):ACalls Tryz.prog 65 args σ R:=aFq Tryz.func65 c65_ok hl h
/-! 66: (*tabular/parse.parser).fail -/
def c66_8:ACode := .seq (.ops [ oe 4 (.alloc [(.int .i64 0),(.int .i64 0),(.str []),(.int .i64 0),(.int .i64 0),(.bool false),(.bool false),(.int .i64 0),(.int .i64 0),(.bool false),(.bool false),(.sl .full [])])]) (.seq (.seq (.ops [ oq 5 (.mv (.t 0)),oq 6 (.nc (.t 5)),oq 7 (.fa 3 (.t 6)),oq 8 (.ld none (.t 7)),oq 9 (.bin .eql (.t 8) (.v (.int .i64 0)))]) (.cond (.t 9) (.ops [ oq 10 (.mv (.t 0)),oq 11 (.mv (.t 0)),oq 12 (.mv (.t 1)),oq 13 (.mv (.t 0)),oq 14 (.nc (.t 13)),oq 15 (.fa 0 (.t 14)),oq 16 (.ld none (.t 15)),oq 17 (.mv (.t 0)),oq 18 (.nc (.t 17)),oq 19 (.fa 1 (.t 18)),oq 20 (.ld none (.t 19)),oq 21 (.ia 4 (.t 16) (.t 20)),oq 22 (.fa 2 (.t 21)),oq 23 (.ld none (.t 22)),oq 24 (.nc (.t 10)),oq 25 (.fa 3 (.t 24)),oz (.store 1 (.t 25) (.t 12)),oq 26 (.nc (.t 11)),oq 27 (.fa 4 (.t 26)),oz (.store 1 (.t 27) (.t 23))]) .skip)) (.seq (.ops [ oq 28 (.build [(.int .i64 0),(.int .i64 0),(.str []),(.int .i64 0),(.int .i64 0),(.bool false),(.bool false),(.int .i64 0),(.int .i64 0),(.bool false),(.bool false),(.sl .full [])] []),oz (.store 12 (.t 4) (.t 28))]) .ret))
@[go_sem] def c66_8_wp:=wp_of c66_8.eq_1
def c66:AFn:=⟨29,[.c 4 (some 12)],c66_8⟩
theorem c66_ok:compF Tryz.prog Tryz.f66=some c66:=by kernel_rfl
theorem a66 {args:List AV} {σ:ASt} {R:AV->ASt->Prop} (hl:args.length<=29) (h:c66_8.wp Tryz.prog (RetQ [.c 4 (some 12)] R) (init args) σ):ACalls Tryz.prog 66 args σ R:=aFq Tryz.func66 c66_ok hl h
/-! 110: slices.Contains[[]string,string] -/
def c110_3:ACode := .seq (.ops [ oq 4 (.mv (.v (.bool false)))]) (.seq (.ops [ oq 5 (.mv (.t 0)),oq 6 (.mv (.t 1)),oe 7 (.call 111 [(.t 5),(.t 6)]),oq 8 (.bin .geq (.t 7) (.v (.int .i64 0))),oq 4 (.mv (.t 8))]) .ret)
@[go_sem] def c110_3_wp:=wp_of c110_3.eq_1
def c110:AFn:=⟨9,[.t 4],c110_3⟩
theorem c110_ok:compF Tryz.prog Tryz.f110=some c110:=by kernel_rfl
theorem a110 {args:List AV} {σ:ASt} {R:AV->ASt->Prop} (hl:args.length<=9) (h:c110_3.wp Tryz.prog (RetQ [.t 4] R) (init args) σ):ACalls Tryz.prog 110 args σ R:=aFq Tryz.func110 c110_ok hl h
/-! 111: slices.Index[[]string,string] -/
def c111_15:ACode := .seq (.ops [ oq 9 (.bin .lss (.t 8) (.t 7))]) (.seq (.cond (.t 9) .skip (.exit 0)) (.seq (.block 1 (.seq (.ops [ oq 10 (.mv (.t 8)),oq 5 (.mv (.t 10))]) (.seq (.ops [ oq 11 (.mv (.t 1)),oq 12 (.mv (.t 0)),oq 13 (.mv (.t 5)),oq 14 (.ia 1 (.t 12) (.t 13)),oq 15 (.ld none (.t 14)),oq 16 (.bin .eql (.t 11) (.t 15))]) (.cond (.t 16) (.seq (.ops [ oq 17 (.mv (.t 5)),oq 4 (.mv (.t 17))]) .ret) .skip)))) (.ops [ oq 18 (.bin .add (.t 8) (.v (.int .i64 1))),oq 8 (.mv (.t 18))])))
def c111_22:ACode := .seq (.ops [ oq 4 (.mv (.v (.int .i64 0)))]) (.seq (.seq (.ops [ oq 6 (.mv (.t 0)),oq 7 (.len (.t 6)),oq 8 (.mv (.v (.int .i64 0)))]) (.block 0 (.loop c111_15))) (.seq (.ops [ oq 4 (.mv (.v (.int .i64 (-1))))]) .ret))
@[go_sem] def c111_15_wp:=wp_of c111_15.eq_1
@[go_sem] def c111_22_wp:=wp_of c111_22.eq_1
def c111:AFn:=⟨19,[.t 4],c111_22⟩
theorem c111_ok:compF Tryz.prog Tryz.f111=some c111:=by kernel_rfl
theorem a111 {args:List AV} {σ:ASt} {R:AV->ASt->Prop} (hl:args.length<=19) (h:c111_22.wp Tryz.prog (RetQ [.t 4] R) (init args) σ):ACalls Tryz.prog 111 args σ R:=aFq Tryz.func111 c111_ok hl h
/-! 160: (*tabular/parse.parser).at -/
def c160_5:ACode := .seq (.ops [ oq 4 (.mv (.v (.bool false)))]) (.seq (.ops [ oq 6 (.mv (.t 0)),oe 7 (.call 65 [(.t 6)]),oe 5 (.alloc [(.int .i64 0),(.str []),(.int .i64 0),(.int .i64 0)]),oz (.store 4 (.t 5) (.t 7))]) (.seq (.ops [ oq 8 (.fa 0 (.t 5)),oq 9 (.ld none (.t 8)),oq 10 (.bin .eql (.t 9) (.v (.int .i64 6))),oq 11 (.mv (.t 10)),⟨some 12,some (11,true),.q (.fa 1 (.t 5)),[]⟩,⟨some 13,some (11,true),.q (.ld none (.t 12)),[]⟩,⟨some 14,some (11,true),.q (.mv (.t 1)),[]⟩,⟨some 15,some (11,true),.q (.bin .eql (.t 13) (.t 14)),[]⟩,oq 16 (.pick (.t 11) (.t 15) (.v (.bool false))),oq 4 (.mv (.t 16))]) .ret))
@[go_sem] def c160_5_wp:=wp_of c160_5.eq_1
def c160:AFn:=⟨17,[.t 4],c160_5⟩
theorem c160_ok:compF Tryz.prog Tryz.f160=some c160:=by kernel_rfl
theorem a160 {args:List AV} {σ:ASt} {R:AV->ASt->Prop} (hl:args.length<=17) (h:c160_5.wp Tryz.prog (RetQ [.t 4] R) (init args) σ):ACalls Tryz.prog 160 args σ R:=aFq Tryz.func160 c160_ok hl h
/-! 162: (*tabular/parse.parser).enter -/
def c162_5:ACode := .seq (.ops [ oq 2 (.mv (.t 0)),oq 3 (.nc (.t 2)),oq 4 (.fa 2 (.t 3)),oq 5 (.ld none (.t 4)),oq 6 (.bin .add (.t 5) (.v (.int .i64 1))),oq 7 (.nc (.t 2)),oq 8 (.fa 2 (.t 7)),oz (.store 1 (.t 8) (.t 6))]) (.seq (.ops [ oq 9 (.mv (.t 0)),oq 10 (.nc (.t 9)),oq 11 (.fa 2 (.t 10)),oq 12 (.ld none (.t 11)),oq 13 (.bin .gtr (.t 12) (.v (.int .i64 40)))]) (.cond (.t 13) (.ops [ oq 14 (.mv (.t 0)),oe 15 (.call 66 [(.t 14),(.v (.int .i64 12))])]) .skip))
@[go_sem] def c162_5_wp:=wp_of c162_5.eq_1
def c162:AFn:=⟨16,[],c162_5⟩
theorem c162_ok:compF Tryz.prog Tryz.f162=some c162:=by kernel_rfl
theorem a162 {args:List AV} {σ:ASt} {R:AV->ASt->Prop} (hl:args.length<=16) (h:c162_5.wp Tryz.prog (RetQ [] R) (init args) σ):ACalls Tryz.prog 162 args σ R:=aFq Tryz.func162 c162_ok hl h
/-! 163: (*tabular/parse.parser).leave -/
def c163_0:ACode := .ops [ oq 2 (.mv (.t 0)),oq 3 (.nc (.t 2)),oq 4 (.fa 2 (.t 3)),oq 5 (.ld none (.t 4)),oq 6 (.bin .sub (.t 5) (.v (.int .i64 1))),oq 7 (.nc (.t 2)),oq 8 (.fa 2 (.t 7)),oz (.store 1 (.t 8) (.t 6))]
@[go_sem] def c163_0_wp:=wp_of c163_0.eq_1
def c163:AFn:=⟨9,[],c163_0⟩
theorem c163_ok:compF Tryz.prog Tryz.f163=some c163:=by kernel_rfl
theorem d163 {args:List AV} {σ:ASt} {R:AV->ASt->Prop} (hl:args.length<=9) (h:c163_0.wp Tryz.prog (fun _ _ σ'=>R (.tuple []) σ') (init args) σ):ADefer Tryz.prog 163 args σ R:=adefer_of (R:=R) Tryz.func163 c163_ok (by kernel_rfl) rfl rfl hl h
/-! 201: (*tabular/parse.parser).accept -/
def c201_11:ACode := .seq (.ops [ oq 4 (.mv (.v (.bool false)))]) (.seq (.seq (.ops [ oq 5 (.mv (.t 0)),oq 6 (.mv (.t 1)),oe 7 (.call 160 [(.t 5),(.t 6)]),oq 8 (.un .not (.t 7))]) (.cond (.t 8) (.seq (.ops [ oq 4 (.mv (.v (.bool false)))]) .ret) .skip)) (.seq (.ops [ oq 9 (.mv (.t 0)),oq 10 (.nc (.t 9)),oq 11 (.fa 1 (.t 10)),oq 12 (.ld none (.t 11)),oq 13 (.bin .add (.t 12) (.v (.int .i64 1))),oq 14 (.nc (.t 9)),oq 15 (.fa 1 (.t 14)),oz (.store 1 (.t 15) (.t 13))]) (.seq (.ops [ oq 4 (.mv (.v (.bool true)))]) .ret)))
@[go_sem] def c201_11_wp:=wp_of c201_11.eq_1
def c201:AFn:=⟨16,[.t 4],c201_11⟩
theorem c201_ok:compF Tryz.prog Tryz.f201=some c201:=by kernel_rfl
theorem a201 {args:List AV} {σ:ASt} {R:AV->ASt->Prop} (hl:args.length<=16) (h:c201_11.wp Tryz.prog (RetQ [.t 4] R) (init args) σ):ACalls Tryz.prog 201 args σ R:=aFq Tryz.func201 c201_ok hl h
/-! 220: (*tabular/parse.parser).must -/
def c220_3:ACode := .seq (.ops [ oq 4 (.mv (.t 0)),oq 5 (.mv (.t 1)),oe 6 (.call 201 [(.t 4),(.t 5)]),oq 7 (.un .not (.t 6))]) (.cond (.t 7) (.ops [ oq 8 (.mv (.t 0)),oe 9 (.call 66 [(.t 8),(.v (.int .i64 10))])]) .skip)
@[go_sem] def c220_3_wp:=wp_of c220_3.eq_1
def c220:AFn:=⟨10,[],c220_3⟩
theorem c220_ok:compF Tryz.prog Tryz.f220=some c220:=by kernel_rfl
theorem a220 {args:List AV} {σ:ASt} {R:AV->ASt->Prop} (hl:args.length<=10) (h:c220_3.wp Tryz.prog (RetQ [] R) (init args) σ):ACalls Tryz.prog 220 args σ R:=aFq Tryz.func220 c220_ok hl h
/-! 234: tabular/parse.ref -/
def c234_5:ACode := .seq (.ops [ oe 1 (.box (.t 0)),oe 2 (.alloc [(.int .i64 0),(.int .i64 0),(.bool false),(.bool false)])]) (.seq (.ops [ oq 6 (.fa 1 (.t 1)),oq 7 (.ld none (.t 6)),oe 8 (.call 215 [(.t 7)]),oq 5 (.mv (.t 8)),oq 9 (.ext 0 (.t 5)),oq 10 (.ext 1 (.t 5)),oe 3 (.alloc [(.int .i64 0),(.int .i64 0),(.bool false),(.bool false)]),oz (.store 4 (.t 3) (.t 9)),oq 4 (.mv (.t 10))]) (.seq (.ops [ oq 11 (.ld (some 4) (.t 3)),oz (.store 4 (.t 2) (.t 11))]) .ret))
@[go_sem] def c234_5_wp:=wp_of c234_5.eq_1
def c234:AFn:=⟨12,[.c 2 (some 4)],c234_5⟩
theorem c234_ok:compF Tryz.prog Tryz.f234=some c234:=by kernel_rfl
theorem a234 {args:List AV} {σ:ASt} {R:AV->ASt->Prop} (hl:args.length<=12) (h:c234_5.wp Tryz.prog (RetQ [.c 2 (some 4)] R) (init args) σ):ACalls Tryz.prog 234 args σ R:=aFq Tryz.func234 c234_ok hl h
end Go.A
namespace Go.A
open Go.Proofs Go.Lib
def pr (T:List Tok) (s:PSt):Option Role:=some (.obj [.sl .shr (T.map tokAV),.int .i64 s.i,.int .i64 s.deep,.int .i64 s.err,.int .i64 s.bad])
theorem set_self0 {σ:ASt} {b:Nat} {r:Option Role} (h:σ b=r):σ.set b r=σ:=by
 funext x
 simp only [ASt.set]
 split
 ·rename_i hx;rw [hx,h]
 ·rfl
theorem tok_get {T:List Tok} {i:Nat} (h:i<T.length):(T.map tokAV)[i]? = some (tokAV (T.getD i endT)):=by
 rw [List.getElem?_map,List.getD_eq_getElem?_getD,List.getElem?_eq_getElem h]
 rfl
theorem pcur_ok {T:List Tok} {s:PSt} (hi:s.i<T.length) {σ:ASt} {b:Nat} (hb:σ b=pr T s):ACalls Tryz.prog 65 [.ptr b 0] σ fun v σ'=>v=tokAV (curT T s)/\σ'=σ:=by
 unfold curT
 unfold pr at hb
 have ht:=tok_get hi
 have hlen:(T.map tokAV).length=T.length:=by simp
 have hi':(s.i:Int)<T.length:=by omega
 generalize T.getD s.i endT=t at *
 generalize T.map tokAV=TL at *
 obtain ⟨kd,tx,at',col⟩:=t
 unfold tokAV at ht
 dsimp only at ht
 refine a65 (by simp) ?_
 simp (disch:=first|assumption|omega) only [go_sem]
 refine aBq fun d hd=>?_
 have hbd:b≠d:=by rintro rfl;rw [hb] at hd;cases hd
 by_cases he:s.err=0
 ·rw [if_neg (by simp [he])]
  simp (disch:=first|assumption|omega) only [go_sem,hb,he,ht,ASt.set_set]
  exact retC_by (Drop.set hd) (.refl _) ⟨rfl,rfl⟩
 ·rw [if_pos he]
  simp (disch:=first|assumption|omega) only [go_sem,hb,he,ASt.set_set]
  exact retC_by (Drop.set hd) (.refl _) ⟨rfl,rfl⟩
theorem pfail_ok {T:List Tok} {s:PSt} (hi:s.i<T.length) (e:Int) {σ:ASt} {b:Nat} (hb:σ b=pr T s):ACalls Tryz.prog 66 [.ptr b 0,.int .i64 e] σ fun v σ'=>v=zN.av/\σ'=σ.set b (pr T (failP T s e)):=by
 have ht:=tok_get hi
 have hlen:(T.map tokAV).length=T.length:=by simp
 have hi':(s.i:Int)<T.length:=by omega
 have hfl:∀ x:PSt,x.err=0->failP T x e=⟨x.i,x.deep,e,((T.getD x.i endT).at':Nat)⟩:=fun x hx=>by unfold failP;rw [if_pos hx]
 have hfn:s.err≠0->failP T s e=s:=fun hx=>by unfold failP;rw [if_neg hx]
 have hfl:=hfl s
 generalize T.getD s.i endT=t at *
 have hz:zN.av = .agg [.int .i64 0,.int .i64 0,.str [],.int .i64 0,.int .i64 0,.bool false,.bool false,.int .i64 0,.int .i64 0,.bool false,.bool false,.sl .shr []]:=rfl
 rw [hz]
 have hdz:∀ σ σ':ASt,Fz σ σ' (resV [.agg [.int .i64 0,.int .i64 0,.str [],.int .i64 0,.int .i64 0,.bool false,.bool false,.int .i64 0,.int .i64 0,.bool false,.bool false,.sl .full []]]) (.agg [.int .i64 0,.int .i64 0,.str [],.int .i64 0,.int .i64 0,.bool false,.bool false,.int .i64 0,.int .i64 0,.bool false,.bool false,.sl .shr []]):=fun σ σ'=>Fz.agg (.cons (.refl _) (.cons (.refl _) (.cons (.refl _) (.cons (.refl _) (.cons (.refl _) (.cons (.refl _) (.cons (.refl _) (.cons (.refl _) (.cons (.refl _) (.cons (.refl _) (.cons (.refl _) (.cons (.sl _ _) .nil))))))))))))
 refine a66 (by simp) ?_
 by_cases he:s.err=0
 ·rw [hfl he]
  obtain ⟨si,sd,se,sb⟩:=s
  dsimp only at he ht hi' hb hlen
  subst he
  obtain ⟨kd,tx,at',col⟩:=t
  unfold pr at hb ⊢
  dsimp only at hb ⊢
  generalize T.map tokAV=TL at *
  unfold tokAV at ht
  dsimp only at ht
  simp (disch:=first|assumption|omega) only [go_sem]
  refine aBq fun d hd=>?_
  have hbd:b≠d:=by rintro rfl;rw [hb] at hd;cases hd
  have hsw:∀ (X Y Z:Option Role),((σ.set d X).set b Y).set d Z=(σ.set b Y).set d Z:=fun X Y Z=>by rw [set_swap (Ne.symm hbd),ASt.set_set]
  have hdr:∀ X Y:Option Role,((σ.set d X).set b Y) d=X:=fun X Y=>by rw [ASt.set_ne (Ne.symm hbd),ASt.set_same]
  have hdd:∀ X Y:Option Role,Drop ((σ.set b X).set d Y) (σ.set b X):=fun X Y=>Drop.set (by rw [ASt.set_ne (Ne.symm hbd)];exact hd)
  simp (disch:=first|assumption|omega) only [go_sem,hb,ht,ASt.set_set,hdr,hsw]
  exact retC_by (hdd _ _) (hdz _ _) ⟨rfl,rfl⟩
 ·rw [hfn he,set_self0 hb]
  unfold pr at hb
  generalize T.map tokAV=TL at *
  simp (disch:=first|assumption|omega) only [go_sem]
  refine aBq fun d hd=>?_
  have hbd:b≠d:=by rintro rfl;rw [hb] at hd;cases hd
  simp (disch:=first|assumption|omega) only [go_sem,hb,he,ASt.set_set]
  exact retC_by (Drop.set hd) (hdz _ _) ⟨rfl,rfl⟩
theorem pat_ok {T:List Tok} {s:PSt} (hi:s.i<T.length) (x:List UInt8) {σ:ASt} {b:Nat} (hb:σ b=pr T s):ACalls Tryz.prog 160 [.ptr b 0,.str x] σ fun v σ'=>v = .bool (isOp T s x)/\σ'=σ:=by
 have hc:=pcur_ok hi hb
 unfold isOp
 generalize curT T s=t at *
 obtain ⟨kd,tx,at',col⟩:=t
 unfold tokAV at hc
 dsimp only at hc ⊢
 refine a160 (by simp) ?_
 simp (disch:=first|assumption|omega) only [go_sem]
 refine hc.mono ?_
 rintro v σ' ⟨rfl,rfl⟩
 simp (disch:=first|assumption|omega) only [go_sem]
 refine aBq fun d hd=>?_
 by_cases hk:kd=6
 ·simp (disch:=first|assumption|omega) only [go_sem,hk,ASt.set_set]
  exact retC_by (Drop.set hd) (.refl _) ⟨by simp [resV_one],rfl⟩
 ·simp (disch:=first|assumption|omega) only [go_sem,hk,ASt.set_set]
  exact retC_by (Drop.set hd) (.refl _) ⟨by simp [resV_one],rfl⟩
theorem paccept_ok {T:List Tok} {s:PSt} (hT:Ends T) (hf:Fit T s) (hn:T.length<=1000000) (x:List UInt8) {σ:ASt} {b:Nat} (hb:σ b=pr T s) :
  ACalls Tryz.prog 201 [.ptr b 0,.str x] σ fun v σ'=>v = .bool (isOp T s x)/\σ'=if isOp T s x=true then σ.set b (pr T s.next) else σ:=by
 have hc:=pat_ok hf.i x hb
 have hil:=hf.i
 refine a201 (by simp) ?_
 simp (disch:=first|assumption|omega) only [go_sem]
 refine hc.mono ?_
 rintro v σ' ⟨rfl,rfl⟩
 cases isOp T s x with
 | true=>
   unfold pr at hb
   simp (disch:=first|assumption|omega) only [go_sem,hb]
   exact retC_by (Drop.refl _) (.refl _) ⟨rfl,rfl⟩
 | false=>
   simp (disch:=first|assumption|omega) only [go_sem]
   exact retC_by (Drop.refl _) (.refl _) ⟨rfl,rfl⟩
theorem pmust_ok {T:List Tok} {s:PSt} (hT:Ends T) (hf:Fit T s) (hn:T.length<=1000000) (x:List UInt8) {σ:ASt} {b:Nat} (hb:σ b=pr T s) :
  ACalls Tryz.prog 220 [.ptr b 0,.str x] σ fun v σ'=>v = .tuple []/\σ'=σ.set b (pr T (mustP T s x)):=by
 have hc:=paccept_ok hT hf hn x hb
 have hF:=pfail_ok hf.i 10 hb
 unfold mustP
 refine a220 (by simp) ?_
 simp (disch:=first|assumption|omega) only [go_sem]
 refine hc.mono ?_
 rintro v σ' ⟨rfl,rfl⟩
 cases isOp T s x with
 | true=>
   rw [if_pos rfl,if_pos rfl]
   simp (disch:=first|assumption|omega) only [go_sem]
   exact retC_by (Drop.refl _) (.refl _) ⟨rfl,rfl⟩
 | false=>
   rw [if_neg (by simp),if_neg (by simp)]
   simp (disch:=first|assumption|omega) only [go_sem]
   refine hF.mono ?_
   rintro v σ' ⟨rfl,rfl⟩
   simp (disch:=first|assumption|omega) only [go_sem]
   exact retC_by (Drop.refl _) (.refl _) ⟨rfl,rfl⟩
theorem penter_ok {T:List Tok} {s:PSt} (hi:s.i<T.length) (hd:0<=s.deep/\s.deep<=100) {σ:ASt} {b:Nat} (hb:σ b=pr T s) :
  ACalls Tryz.prog 162 [.ptr b 0] σ fun v σ'=>v = .tuple []/\σ'=σ.set b (pr T (enterP T s)):=by
 have hF:=fun τ h=>pfail_ok (T:=T) (s := { s with deep:=s.deep+1 }) hi 12 (σ:=τ) (b:=b) h
 have hb':=hb
 unfold pr at hb
 refine a162 (by simp) ?_
 unfold enterP
 by_cases h40:40<s.deep+1
 ·rw [if_pos h40]
  simp (disch:=first|assumption|omega) only [go_sem,hb,h40]
  refine (hF _ (ASt.set_same _ _ _)).mono ?_
  rintro v σ' ⟨rfl,rfl⟩
  rw [ASt.set_set]
  simp (disch:=first|assumption|omega) only [go_sem]
  exact retC_by (Drop.refl _) (.refl _) ⟨rfl,rfl⟩
 ·rw [if_neg h40]
  simp (disch:=first|assumption|omega) only [go_sem,hb,h40]
  exact retC_by (Drop.refl _) (.refl _) ⟨rfl,rfl⟩
theorem pleave_ok {T:List Tok} {s:PSt} (hd:0<=s.deep/\s.deep<=100) {σ:ASt} {b:Nat} (hb:σ b=pr T s) :
  ADefer Tryz.prog 163 [.ptr b 0] σ fun v σ'=>v = .tuple []/\σ'=σ.set b (pr T (leaveP s)):=by
 unfold pr at hb
 refine d163 (by simp) ?_
 simp (disch:=first|assumption|omega) only [go_sem,hb]
 exact rfl
theorem pref_ok (t:Tok) (ht:t.text.length<=1000000):Pure Tryz.prog 234 [tokAV t] (refAV (refT t)):=by
 intro σ
 have hP:=parse_ok t.text (by omega)
 unfold refT
 generalize parseP t.text=R at *
 obtain ⟨⟨row,col,ar,ac⟩,ok⟩:=R
 obtain ⟨kd,tx,at',col⟩:=t
 unfold tokAV refAV at *
 dsimp only at *
 refine a234 (by simp) ?_
 simp (disch:=first|assumption|omega) only [go_sem]
 refine boxC_by rfl fun c hc=>?_
 simp (disch:=first|assumption|omega) only [go_sem]
 refine aBq fun d hd=>?_
 have hcd:c≠d:=by rintro rfl;rw [ASt.set_same] at hd;cases hd
 have hd0:=(Drop.set hc).nil hd
 simp (disch:=first|assumption|omega) only [go_sem]
 refine hP.use ?_
 simp (disch:=first|assumption|omega) only [go_sem]
 refine aBq fun e he=>?_
 have hde:d≠e:=by rintro rfl;rw [ASt.set_same] at he;cases he
 have he1:=he
 rw [ASt.set_ne (Ne.symm hde)] at he1
 have hsw:∀ (ρ:ASt) (X Y Z:Option Role),((ρ.set d X).set e Y).set d Z=(ρ.set d Z).set e Y:=fun ρ X Y Z=>set_mid hde
 have hdr:∀ (ρ:ASt) (X Y:Option Role),((ρ.set d X).set e Y) d=X:=fun ρ X Y=>by rw [ASt.set_ne hde,ASt.set_same]
 have hD:∀ X Y Z:Option Role,Drop (((σ.set c X).set d Y).set e Z) σ:=fun X Y Z=>by
  have h1:c≠e:=by rintro rfl;rw [ASt.set_same] at he1;cases he1
  have h2:σ e=none:=by rw [ASt.set_ne (Ne.symm h1)] at he1;exact he1
  exact ((Drop.set hc).off hd0).off h2
 simp (disch:=first|assumption|omega) only [go_sem,hsw,hdr,ASt.set_set]
 exact retC_by (hD _ _ _) (.refl _) ⟨rfl,rfl⟩
theorem strindex_ok (l:List (List UInt8)) (x:List UInt8) (hl:l.length<=1000000):Pure Tryz.prog 111 [.sl .shr (l.map AV.str),.str x] (.int .i64 (idxP l x)):=by
 intro σ
 obtain ⟨q,hq⟩:∃ q,idxP l x=q:=⟨_,rfl⟩
 rw [hq]
 unfold idxP at hq
 have hlen:(l.map AV.str).length=l.length:=by simp
 refine a111 (by simp) ?_
 simp (disch:=first|assumption|omega) only [go_sem]
 refine wLq (fun (i:Nat) a1 s2=>(i<=l.length/\idxS x (l.drop i) i=q)/\(a1 0 = .sl .shr (l.map AV.str)/\a1 1 = .str x/\a1 7 = .int .i64 l.length/\a1 8 = .int .i64 i)/\s2=σ) (fun i=>l.length-i) 0 ⟨⟨Nat.zero_le _,by rw [List.drop_zero];exact hq⟩,?_,rfl⟩ ?_
 ·simp (disch:=first|assumption|omega) only [go_sem]
 rintro i a1 s2 ⟨⟨hi,hqi⟩,hf,rfl⟩
 by_cases hlt:i<l.length
 ·have hlt':(i:Int)<l.length:=by omega
  have hx : l[i]? = some (l[i]'hlt) := List.getElem?_eq_getElem hlt
  rw [List.drop_eq_getElem_cons hlt,idxS] at hqi
  obtain ⟨y, hxe⟩ : ∃ y, l[i]'hlt = y := ⟨_, rfl⟩
  rw [hxe] at hx hqi
  have hmx:(l.map AV.str)[i]? = some (.str y):=by rw [List.getElem?_map,hx];rfl
  generalize l.map AV.str=XL at *
  by_cases he:x=y
  ·rw [if_pos he] at hqi
   subst he
   simp (disch:=first|assumption|omega) only [go_sem,hf,hlt',hmx,eq_self]
   exact retC_by (Drop.refl _) (.refl _) ⟨by rw [<-hqi];rfl,rfl⟩
  ·rw [if_neg he] at hqi
   simp (disch:=first|assumption|omega) only [go_sem,hf,hlt',hmx,he]
   exact ⟨i+1,by omega,⟨by omega,hqi⟩,rfl⟩
 ·have hlt':¬ (i:Int)<l.length:=by omega
  rw [List.drop_eq_nil_of_le (by omega),idxS] at hqi
  subst hqi
  simp (disch:=first|assumption|omega) only [go_sem,hf,hlt']
  exact retC_by (Drop.refl _) (.refl _) ⟨rfl,rfl⟩
theorem strcontains_ok (l:List (List UInt8)) (x:List UInt8) (hl:l.length<=1000000):Pure Tryz.prog 110 [.sl .shr (l.map AV.str),.str x] (.bool (decide (x∈l))):=by
 intro σ
 have hI:=strindex_ok l x hl
 rw [<-idxS_mem x l 0]
 unfold idxP at hI
 generalize idxS x l 0=q at *
 generalize l.map AV.str=XL at *
 refine a110 (by simp) ?_
 simp (disch:=first|assumption|omega) only [go_sem]
 refine hI.use ?_
 simp (disch:=first|assumption|omega) only [go_sem]
 exact retC_by (Drop.refl _) (.refl _) ⟨rfl,rfl⟩
end Go.A
namespace Go.A
open Go.Proofs
/-! 64: (*tabular/parse.parser).between -/
def c64_16:ACode := .seq (.seq (.ops [ oq 17 (.mv (.t 0)),oe 18 (.call 65 [(.t 17)]),oq 19 (.fld 0 none (.t 18)),oq 20 (.bin .eql (.t 19) (.v (.int .i64 6))),oq 21 (.mv (.t 20)),⟨some 22,some (21,true),.q (.ld none (.v (.ptr 0 0))),[]⟩,⟨some 23,some (21,true),.q (.mv (.t 1)),[]⟩,⟨some 24,some (21,true),.q (.ia 1 (.t 22) (.t 23)),[]⟩,⟨some 25,some (21,true),.q (.ld none (.t 24)),[]⟩,⟨some 26,some (21,true),.q (.mv (.t 0)),[]⟩,⟨some 27,some (21,true),.e (.call 65 [(.t 26)]),[⟨(some (21,true)),.ld none (.v (.ptr 0 0)),22⟩,⟨(some (21,true)),.ld none (.t 24),25⟩]⟩,⟨some 28,some (21,true),.q (.fld 1 none (.t 27)),[]⟩,⟨some 29,some (21,true),.e (.call 110 [(.t 25),(.t 28)]),[]⟩,oq 30 (.pick (.t 21) (.t 29) (.v (.bool false)))]) (.cond (.t 30) .skip (.exit 0))) (.block 1 (.seq (.ops [ oe 31 (.call 112 []),oq 32 (.mv (.t 0)),oe 33 (.call 65 [(.t 32)]),oq 34 (.fld 1 none (.t 33)),oe 35 (.call 111 [(.t 31),(.t 34)]),oq 36 (.bin .add (.v (.int .i64 10)) (.t 35)),oq 6 (.mv (.t 36))]) (.seq (.ops [ oq 37 (.mv (.t 0)),oq 38 (.nc (.t 37)),oq 39 (.fa 1 (.t 38)),oq 40 (.ld none (.t 39)),oq 41 (.bin .add (.t 40) (.v (.int .i64 1))),oq 42 (.nc (.t 37)),oq 43 (.fa 1 (.t 42)),oz (.store 1 (.t 43) (.t 41))]) (.ops [ oq 44 (.mv (.t 6)),oq 45 (.ld (some 12) (.t 5)),oq 46 (.mv (.t 0)),oq 47 (.mv (.t 1)),oq 48 (.bin .add (.t 47) (.v (.int .i64 1))),⟨some 49,none,.e (.call 64 [(.t 46),(.t 48)]),[⟨none,.ld (some 12) (.t 5),45⟩]⟩,oq 50 (.bsl 12 [(.t 45),(.t 49)]),oq 51 (.build [(.int .i64 0),(.int .i64 0),(.str []),(.int .i64 0),(.int .i64 0),(.bool false),(.bool false),(.int .i64 0),(.int .i64 0),(.bool false),(.bool false),(.sl .full [])] [(0,1,(.t 44)),(11,1,(.t 50))]),oz (.store 12 (.t 5) (.t 51))]))))
def c64_24:ACode := .seq (.ops [ oe 4 (.alloc [(.int .i64 0),(.int .i64 0),(.str []),(.int .i64 0),(.int .i64 0),(.bool false),(.bool false),(.int .i64 0),(.int .i64 0),(.bool false),(.bool false),(.sl .full [])])]) (.seq (.seq (.ops [ oq 7 (.mv (.t 1)),oq 8 (.ld none (.v (.ptr 0 0))),oq 9 (.len (.t 8)),oq 10 (.bin .eql (.t 7) (.t 9))]) (.cond (.t 10) (.seq (.ops [ oq 11 (.mv (.t 0)),oe 12 (.call 109 [(.t 11)]),oz (.store 12 (.t 4) (.t 12))]) .ret) .skip)) (.seq (.ops [ oq 13 (.mv (.t 0)),oq 14 (.mv (.t 1)),oq 15 (.bin .add (.t 14) (.v (.int .i64 1))),oe 16 (.call 64 [(.t 13),(.t 15)]),oe 5 (.alloc [(.int .i64 0),(.int .i64 0),(.str []),(.int .i64 0),(.int .i64 0),(.bool false),(.bool false),(.int .i64 0),(.int .i64 0),(.bool false),(.bool false),(.sl .full [])]),oz (.store 12 (.t 5) (.t 16))]) (.seq (.block 0 (.loop c64_16)) (.seq (.ops [ oq 52 (.ld (some 12) (.t 5)),oz (.store 12 (.t 4) (.t 52))]) .ret))))
@[go_sem] def c64_16_wp:=wp_of c64_16.eq_1
@[go_sem] def c64_24_wp:=wp_of c64_24.eq_1
def c64:AFn:=⟨53,[.c 4 (some 12)],c64_24⟩
theorem c64_ok:compF Tryz.prog Tryz.f64=some c64:=by kernel_rfl
theorem a64 {args:List AV} {σ:ASt} {R:AV->ASt->Prop} (hl:args.length<=53) (h:c64_24.wp Tryz.prog (RetQ [.c 4 (some 12)] R) (init args) σ):ACalls Tryz.prog 64 args σ R:=aFq Tryz.func64 c64_ok hl h
end Go.A
namespace Go.A
open Go.Proofs Go.Lib
structure St2 (σ:ASt) (b d:Nat) (T:Option Role->Option Role->ASt):Prop where
 ab:∀ X Y,(σ.set b X).set d Y=T X Y
 ba:∀ X Y,(σ.set d Y).set b X=T X Y
 one:∀ Y,σ.set d Y=T (σ b) Y
 a1:∀ X Y,T X Y b=X
 a2:∀ X Y,T X Y d=Y
 s1:∀ X Y X',(T X Y).set b X'=T X' Y
 s2:∀ X Y Y',(T X Y).set d Y'=T X Y'
 drop:∀ X Y,Drop (T X Y) (σ.set b X)
 fix:∀ X Y x l,σ x=some (.fix l)->T X Y x=some (.fix l)
 other:∀ X Y x,x≠b->x≠d->T X Y x=σ x
theorem St2.of {σ:ASt} {b d:Nat} (hd:σ d=none) (hb:∀ l,σ b≠some (.fix l)) (hb0:σ b≠none):b≠d/\∃ T,St2 σ b d T:=by
 have n:b≠d:=by rintro rfl;exact hb0 hd
 refine ⟨n,fun X Y=>(σ.set b X).set d Y,fun X Y=>rfl,fun X Y=>set_swap (Ne.symm n),fun Y=>?_,fun X Y=>?_,fun X Y=>ASt.set_same _ _ _,fun X Y X'=>?_,fun X Y Y'=>by rw [ASt.set_set],fun X Y=>?_,fun X Y x l h=>?_,fun X Y x h1 h2=>?_⟩
 ·show σ.set d Y=(σ.set b (σ b)).set d Y
  rw [set_self0 rfl]
 ·show ((σ.set b X).set d Y) b=X
  rw [ASt.set_ne n,ASt.set_same]
 ·show ((σ.set b X).set d Y).set b X'=(σ.set b X').set d Y
  rw [set_swap (Ne.symm n),ASt.set_set]
 ·exact Drop.set (by rw [ASt.set_ne (Ne.symm n)];exact hd)
 ·show ((σ.set b X).set d Y) x=some (.fix l)
  rw [ASt.set_ne,ASt.set_ne]
  ·exact h
  ·rintro rfl;exact hb l h
  ·rintro rfl;rw [hd] at h;cases h
 ·show ((σ.set b X).set d Y) x=σ x
  rw [ASt.set_ne h2,ASt.set_ne h1]
structure St3 (σ:ASt) (b d e:Nat) (T2:Option Role->Option Role->ASt) (T:Option Role->Option Role->Option Role->ASt):Prop where
 ab:∀ X Y Z,(T2 X Y).set e Z=T X Y Z
 a1:∀ X Y Z,T X Y Z b=X
 a2:∀ X Y Z,T X Y Z d=Y
 a3:∀ X Y Z,T X Y Z e=Z
 s1:∀ X Y Z X',(T X Y Z).set b X'=T X' Y Z
 s2:∀ X Y Z Y',(T X Y Z).set d Y'=T X Y' Z
 s3:∀ X Y Z Z',(T X Y Z).set e Z'=T X Y Z'
 drop:∀ X Y Z,Drop (T X Y Z) (σ.set b X)
 drop2:∀ X Y Z,Drop (T X Y Z) (T2 X Y)
 fix:∀ X Y Z x l,σ x=some (.fix l)->T X Y Z x=some (.fix l)
 other:∀ X Y Z x,x≠b->x≠d->x≠e->T X Y Z x=σ x
theorem St3.of {σ:ASt} {b d e:Nat} {T2:Option Role->Option Role->ASt} (h:St2 σ b d T2) {X0 Y0:Role} (he:T2 (some X0) (some Y0) e=none):b≠e/\d≠e/\∃ T,St3 σ b d e T2 T:=by
 have nb:b≠e:=by rintro rfl;rw [h.a1] at he;cases he
 have nd:d≠e:=by rintro rfl;rw [h.a2] at he;cases he
 have h0:∀ X Y,T2 X Y e=none:=fun X Y=>by rw [h.other _ _ _ (Ne.symm nb) (Ne.symm nd)];rwa [h.other _ _ _ (Ne.symm nb) (Ne.symm nd)] at he
 refine ⟨nb,nd,fun X Y Z=>(T2 X Y).set e Z,fun X Y Z=>rfl,fun X Y Z=>?_,fun X Y Z=>?_,fun X Y Z=>ASt.set_same _ _ _,fun X Y Z X'=>?_,fun X Y Z X'=>?_,fun X Y Z Z'=>by rw [ASt.set_set],fun X Y Z=>?_,fun X Y Z=>Drop.set (h0 _ _),fun X Y Z x l hx=>?_,fun X Y Z x h1 h2 h3=>?_⟩
 ·show ((T2 X Y).set e Z) b=X
  rw [ASt.set_ne nb,h.a1]
 ·show ((T2 X Y).set e Z) d=Y
  rw [ASt.set_ne nd,h.a2]
 ·show ((T2 X Y).set e Z).set b X'=(T2 X' Y).set e Z
  rw [set_swap (Ne.symm nb),h.s1]
 ·show ((T2 X Y).set e Z).set d X'=(T2 X X').set e Z
  rw [set_swap (Ne.symm nd),h.s2]
 ·exact (Drop.set (h0 _ _)).trans (h.drop _ _)
 ·show ((T2 X Y).set e Z) x=some (.fix l)
  have hx2:=h.fix X Y x l hx
  rw [ASt.set_ne]
  ·exact hx2
  ·rintro rfl;rw [h0] at hx2;cases hx2
 ·show ((T2 X Y).set e Z) x=σ x
  rw [ASt.set_ne h3,h.other _ _ _ h1 h2]
structure St4 (σ:ASt) (b d e g:Nat) (T3:Option Role->Option Role->Option Role->ASt) (T:Option Role->Option Role->Option Role->Option Role->ASt):Prop where
 ab:∀ X Y Z W,(T3 X Y Z).set g W=T X Y Z W
 a1:∀ X Y Z W,T X Y Z W b=X
 a2:∀ X Y Z W,T X Y Z W d=Y
 a3:∀ X Y Z W,T X Y Z W e=Z
 a4:∀ X Y Z W,T X Y Z W g=W
 s1:∀ X Y Z W X',(T X Y Z W).set b X'=T X' Y Z W
 s2:∀ X Y Z W Y',(T X Y Z W).set d Y'=T X Y' Z W
 s4:∀ X Y Z W W',(T X Y Z W).set g W'=T X Y Z W'
 drop:∀ X Y Z W,Drop (T X Y Z W) (σ.set b X)
theorem St4.of {σ:ASt} {b d e g:Nat} {T2:Option Role->Option Role->ASt} {T3:Option Role->Option Role->Option Role->ASt} (h:St3 σ b d e T2 T3) {X0 Y0 Z0:Role} (hg:T3 (some X0) (some Y0) (some Z0) g=none):∃ T,St4 σ b d e g T3 T:=by
 have nb:b≠g:=by rintro rfl;rw [h.a1] at hg;cases hg
 have nd:d≠g:=by rintro rfl;rw [h.a2] at hg;cases hg
 have ne:e≠g:=by rintro rfl;rw [h.a3] at hg;cases hg
 have h0:∀ X Y Z,T3 X Y Z g=none:=fun X Y Z=>by rw [h.other _ _ _ _ (Ne.symm nb) (Ne.symm nd) (Ne.symm ne)];rwa [h.other _ _ _ _ (Ne.symm nb) (Ne.symm nd) (Ne.symm ne)] at hg
 refine ⟨fun X Y Z W=>(T3 X Y Z).set g W,fun X Y Z W=>rfl,fun X Y Z W=>?_,fun X Y Z W=>?_,fun X Y Z W=>?_,fun X Y Z W=>ASt.set_same _ _ _,fun X Y Z W X'=>?_,fun X Y Z W X'=>?_,fun X Y Z W W'=>by rw [ASt.set_set],fun X Y Z W=>(Drop.set (h0 _ _ _)).trans (h.drop _ _ _)⟩
 ·show ((T3 X Y Z).set g W) b=X
  rw [ASt.set_ne nb,h.a1]
 ·show ((T3 X Y Z).set g W) d=Y
  rw [ASt.set_ne nd,h.a2]
 ·show ((T3 X Y Z).set g W) e=Z
  rw [ASt.set_ne ne,h.a3]
 ·show ((T3 X Y Z).set g W).set b X'=(T3 X' Y Z).set g W
  rw [set_swap (Ne.symm nb),h.s1]
 ·show ((T3 X Y Z).set g W).set d X'=(T3 X X' Z).set g W
  rw [set_swap (Ne.symm nd),h.s2]
def lvAV:AV := .sl .shr (levelsL.map fun l => .sl .shr (l.map AV.str))
def LV (σ:ASt):Prop:=σ 0=some (.fix [lvAV])
theorem pr_fix {T:List Tok} {s:PSt} {σ:ASt} {b:Nat} (hb:σ b=pr T s):(∀ l,σ b≠some (.fix l))/\σ b≠none:=by
 rw [hb];unfold pr
 exact ⟨fun l=>by simp,by simp⟩
theorem level_get {lvl:Nat} (h:lvl<5):(levelsL.map fun l=>AV.sl .shr (l.map AV.str))[lvl]? = some (.sl .shr ((levelsL.getD lvl []).map AV.str)):=by
 have:∀ lvl,lvl<5->(levelsL.map fun l=>AV.sl .shr (l.map AV.str))[lvl]? = some (.sl .shr ((levelsL.getD lvl []).map AV.str)):=by
  intro lvl h
  match lvl,h with
  | 0,_=>rfl
  | 1,_=>rfl
  | 2,_=>rfl
  | 3,_=>rfl
  | 4,_=>rfl
 exact this lvl h
theorem level_len (lvl:Nat):(levelsL.getD lvl []).length<=6:=by
 match lvl with
 | 0|1|2|3|4=>decide
 | n+5=>simp [levelsL]
structure TokOk (T:List Tok):Prop where
 ends:Ends T
 len:T.length<=1000000
 text:∀ i,(T.getD i endT).text.length<=100000
theorem TokOk.cur {T:List Tok} (h:TokOk T) (s:PSt):(curT T s).text.length<=100000:=by
 unfold curT
 split
 ·decide
 ·exact h.text _
structure WalkF (T:List Tok) (f:Nat):Prop where
 betw:∀ (b lvl:Nat) s r,lvl<=5->betwP T f lvl s=some r->Fit T s->∀ σ,LV σ->σ b=pr T s->ACalls Tryz.prog 64 [.ptr b 0,.int .i64 lvl] σ fun v σ'=>v=r.1.av/\σ'=σ.set b (pr T r.2)
 signed:∀ (b:Nat) s r,signedP T f s=some r->Fit T s->∀ σ,LV σ->σ b=pr T s->ACalls Tryz.prog 109 [.ptr b 0] σ fun v σ'=>v=r.1.av/\σ'=σ.set b (pr T r.2)
 hundred:∀ (b:Nat) s r,hundredP T f s=some r->Fit T s->∀ σ,LV σ->σ b=pr T s->ACalls Tryz.prog 161 [.ptr b 0] σ fun v σ'=>v=r.1.av/\σ'=σ.set b (pr T r.2)
 prim:∀ (b:Nat) s r,primP T f s=some r->Fit T s->∀ σ,LV σ->σ b=pr T s->ACalls Tryz.prog 200 [.ptr b 0] σ fun v σ'=>v=r.1.av/\σ'=σ.set b (pr T r.2)
 name:∀ (b:Nat) s r,nameP T f s=some r->Fit T s->(curT T s).kind=3->∀ σ,LV σ->σ b=pr T s->ACalls Tryz.prog 219 [.ptr b 0,tokAV (curT T s)] σ fun v σ'=>v=r.1.av/\σ'=σ.set b (pr T r.2)
 args:∀ (b:Nat) s r,argsP T f s=some r->Fit T s->∀ σ,LV σ->σ b=pr T s->ACalls Tryz.prog 235 [.ptr b 0] σ fun v σ'=>v = .sl .shr (r.1.map Nd.av)/\σ'=σ.set b (pr T r.2)
theorem bin_cells (op:Int) (ks:List Nd) (L:List AV) (h:Go.A.deeps L=ks.map Nd.av):Go.A.deeps [.int .i64 op,.int .i64 0,.str [],.int .i64 0,.int .i64 0,.bool false,.bool false,.int .i64 0,.int .i64 0,.bool false,.bool false,.sl .full L]=Nd.cs op 0 [] .zero .zero (ks.map Nd.av):=by
 rw [<-h];rfl
set_option maxHeartbeats 4000000 in
theorem betw_walk {T:List Tok} (hT:TokOk T) (f:Nat) (ih:∀ f',f'<f+1->WalkF T f') (b lvl:Nat) (s:PSt) (r:Nd×PSt) (hl5:lvl<=5) (h:betwP T (f+1) lvl s=some r) (hf:Fit T s) (σ:ASt) (hV:LV σ) (hb:σ b=pr T s) :
  ACalls Tryz.prog 64 [.ptr b 0,.int .i64 lvl] σ fun v σ'=>v=r.1.av/\σ'=σ.set b (pr T r.2):=by
 rw [betwP] at h
 have hlL:(levelsL.map fun l=>AV.sl .shr (l.map AV.str)).length=5:=rfl
 have hwent:=wentF hT.ends
 refine a64 (by simp) ?_
 simp (disch:=first|assumption|omega) only [go_sem]
 refine aBq fun d hd=>?_
 obtain ⟨hbd,T2,S2⟩:=St2.of hd (pr_fix hb).1 (pr_fix hb).2
 rw [S2.one,hb]
 have V2:∀ X Y,LV (T2 X Y):=fun X Y=>S2.fix _ _ _ _ hV
 have v2:∀ X Y,T2 X Y 0=some (.fix [.sl .shr (levelsL.map fun l => .sl .shr (l.map AV.str))]):=fun X Y=>V2 X Y
 have hgl:=fun h=>level_get (lvl:=lvl) h
 generalize hLs:(levelsL.map fun l=>AV.sl .shr (l.map AV.str))=LS at *
 by_cases h5:lvl=5
 ·rw [if_pos h5] at h
  have h5':(lvl:Int)=5:=by omega
  have hc:=(ih f (by omega)).signed b s r h hf _ (V2 (pr T s) (some (.obj zero12))) (S2.a1 _ _)
  obtain ⟨n,s'⟩:=r
  dsimp only at hc ⊢
  obtain ⟨o,m,t,x,y,ks⟩:=n
  rw [Nd.av_cs] at hc ⊢
  unfold zero12 at hc
  simp (disch:=first|assumption|omega) only [go_sem,v2,hlL,h5']
  refine hc.mono ?_
  rintro v σ1 ⟨rfl,rfl⟩
  have hs1:=S2.s1
  have hs2:=S2.s2
  have ha2:=S2.a2
  simp (disch:=first|assumption|omega) only [go_sem,hs1,hs2,ha2]
  exact retC_by (S2.drop _ _) (.refl _) ⟨rfl,rfl⟩
 ·rw [if_neg h5] at h
  have h5':¬ (lvl:Int)=5:=by omega
  have hl5':lvl<5:=by omega
  cases h1:betwP T f (lvl+1) s with
  | none=>rw [h1] at h;cases h
  | some r1=>
    rw [h1] at h
    dsimp only at h
    have hw1:=(hwent f).betw _ _ _ h1 hf
    have hc:=(ih f (by omega)).betw b (lvl+1) s r1 (by omega) h1 hf _ (V2 (pr T s) (some (.obj zero12))) (S2.a1 _ _)
    have e1:(((lvl+1:Nat)):Int)=(lvl:Int)+1:=by omega
    rw [e1] at hc
    have hb1:b=b:=rfl
    have hs1:=S2.s1
    have hs2:=S2.s2
    have ha2:=S2.a2
    unfold zero12 at hc
    obtain ⟨n1,s1⟩:=r1
    dsimp only at hc h hw1
    have hex:∃ o m t x y KL,n1.av = .agg (Nd.cs o m t x y KL):=by obtain ⟨o,m,t,x,y,ks⟩:=n1;exact ⟨_,_,_,_,_,_,Nd.av_cs ..⟩
    obtain ⟨o,m,t,x,y,KL,hn1⟩:=hex
    rw [hn1] at hc
    simp (disch:=first|assumption|omega) only [go_sem,v2,hlL,h5']
    refine hc.mono ?_
    rintro v σ1 ⟨rfl,rfl⟩
    simp (disch:=first|assumption|omega) only [go_sem,hs1]
    refine aBq fun e he=>?_
    obtain ⟨hbe,hde,T3,S3⟩:=St3.of S2 (X0 := .obj _) he
    have ab:=S3.ab
    have k3:=S3.s3
    have k2:=S3.s2
    have k1:=S3.s1
    have q3:=S3.a3
    have q2:=S3.a2
    have q1:=S3.a1
    have v3:∀ X Y Z,T3 X Y Z 0=some (.fix [.sl .shr LS]):=fun X Y Z=>by
     rw [<-ab]
     have:=v2 X Y
     rw [ASt.set_ne]
     ·exact this
     ·rintro rfl;rw [v2] at he;cases he
    have V3:∀ X Y Z,LV (T3 X Y Z):=fun X Y Z=>by
     have:=v3 X Y Z
     rw [<-hLs] at this
     exact this
    have hSg:=esigns_ok
    simp (disch:=first|assumption|omega) only [go_sem,ab,k3,q3]
    refine wp_loop_by (fun (q:Nat×Nd×PSt) a1 st=>(q.1<=f/\loopP T q.1 lvl q.2.1 q.2.2=some r/\Fit T q.2.2)/\(a1 0 = .ptr b 0/\a1 1 = .int .i64 lvl/\a1 4 = .ptr d 0/\a1 5 = .ptr e 0)/\st=T3 (pr T q.2.2) (some (.obj zero12)) (some (.obj q.2.1.av.cells))) (fun q=>q.1) (f,n1,s1) (Dr.now ⟨⟨Nat.le_refl _,h,hw1.fit⟩,?_,by dsimp only;rw [hn1];rfl⟩) ?_
    ·simp (disch:=first|assumption|omega) only [go_sem]
    clear h hn1 hw1 hc h1
    rintro ⟨f',n,s'⟩ a1 st ⟨⟨g1,g2,g3⟩,hf2,rfl⟩
    dsimp only at g1 g2 g3 hf2 ⊢
    obtain ⟨f'',rfl⟩:∃ f'',f'=f''+1:=by
     cases f' with
     | zero=>rw [loopP] at g2;cases g2
     | succ f''=>exact ⟨f'',rfl⟩
    rw [loopP] at g2
    have hcu:=pcur_ok (T:=T) g3.i (q1 (pr T s') (some (.obj zero12)) (some (.obj n.av.cells)))
    have hsgn:sgn T s' lvl=(decide ((curT T s').kind=6) && decide ((curT T s').text∈levelsL.getD lvl [])):=rfl
    have hkk:=sgn_kind (T:=T) (s:=s') (l:=lvl)
    have hcl:=strcontains_ok (levelsL.getD lvl []) (curT T s').text (by have:=level_len lvl;omega)
    have hix:=strindex_ok signL (curT T s').text (by decide)
    have hrg:=idxS_rng (curT T s').text signL 0
    have hll:signL.length=12:=rfl
    have hnn:n.av = .agg n.av.cells:=by cases n;rfl
    have hil:=g3.i
    have htl:=hT.len
    obtain ⟨NC,hNC⟩:∃ NC,n.av.cells=NC:=⟨_,rfl⟩
    have hlen:NC.length=12:=by rw [<-hNC];exact Nd.av_len n
    have hlv:leaves NC=true:=by rw [<-hNC];exact Nd.av_leaves n
    have htk:NC.take 12=NC:=List.take_of_length_le (by omega)
    have hdk:NC.drop 12 = []:=List.drop_of_length_le (by omega)
    rw [hNC] at hcu hnn ⊢
    generalize hct:curT T s'=tk at *
    unfold tokAV at hcu
    generalize hZ:zero12=Z12 at *
    have v3':=v3 (pr T s') (some (.obj Z12)) (some (.obj NC))
    generalize hLL:levelsL.getD lvl []=LL at *
    have hgl:=hgl hl5'
    by_cases hk6:tk.kind=6
    ·simp (disch:=first|assumption|omega) only [go_sem,hf2]
     refine hcu.mono ?_
     rintro v σ1 ⟨rfl,rfl⟩
     simp (disch:=first|assumption|omega) only [go_sem,hf2,hk6,v3,hgl]
     refine hcu.mono ?_
     rintro v σ1 ⟨rfl,rfl⟩
     simp (disch:=first|assumption|omega) only [go_sem,v3]
     refine hcl.use ?_
     by_cases hmem:tk.text∈LL
     ·rw [decide_eq_true hk6,decide_eq_true hmem] at hsgn
      rw [decide_eq_true hmem]
      rw [hsgn,if_pos (by rfl)] at g2
      cases h2:betwP T f'' (lvl+1) s'.next with
      | none=>rw [h2] at g2;cases g2
      | some r2=>
        rw [h2] at g2
        dsimp only at g2
        have hfn:=(g3.next hT.ends (hct▸hkk hsgn)).1
        have hw2:=(hwent f'').betw _ _ _ h2 hfn
        have hcb:=(ih f'' (by omega)).betw b (lvl+1) s'.next r2 (by omega) h2 hfn _ (V3 (pr T s'.next) (some (.obj Z12)) (some (.obj NC))) (q1 _ _ _)
        rw [e1] at hcb
        unfold idxP at hix
        have hidx:idxP signL tk.text=idxS tk.text signL 0:=rfl
        rw [hidx] at g2
        generalize idxS tk.text signL 0=q at *
        obtain ⟨m2,s2⟩:=r2
        dsimp only at hcb g2 hw2
        have hmm:m2.av = .agg m2.av.cells:=by cases m2;rfl
        have hcell:Go.A.deeps [.int .i64 (10+q),.int .i64 0,.str [],.int .i64 0,.int .i64 0,.bool false,.bool false,.int .i64 0,.int .i64 0,.bool false,.bool false,.sl .full [n.av,m2.av]]=(Nd.mk (10+q) 0 [] .zero .zero [n,m2]).av.cells:=by
         have:=bin_cells (10+q) [n,m2] [n.av,m2.av] (by simp only [deeps_cons,deeps_nil,Nd.deep];rfl)
         rw [this,Nd.av_cs]
         rfl
        obtain ⟨MC,hMC⟩:∃ MC,m2.av.cells=MC:=⟨_,rfl⟩
        have hlen2:MC.length=12:=by rw [<-hMC];exact Nd.av_len m2
        have hlv2:leaves MC=true:=by rw [<-hMC];exact Nd.av_leaves m2
        have htk2:MC.take 12=MC:=List.take_of_length_le (by omega)
        rw [hMC] at hmm
        rw [hnn,hmm] at hcell
        rw [hmm] at hcb
        have hpr:pr T s'=some (.obj [.sl .shr (T.map tokAV),.int .i64 s'.i,.int .i64 s'.deep,.int .i64 s'.err,.int .i64 s'.bad]):=rfl
        have hpn:some (Role.obj [.sl .shr (T.map tokAV),.int .i64 ((s'.i:Int)+1),.int .i64 s'.deep,.int .i64 s'.err,.int .i64 s'.bad])=pr T s'.next:=rfl
        simp (disch:=first|assumption|omega) only [go_sem]
        refine hSg.use ?_
        simp (disch:=first|assumption|omega) only [go_sem,hf2]
        refine hcu.mono ?_
        rintro v σ1 ⟨rfl,rfl⟩
        simp (disch:=first|assumption|omega) only [go_sem]
        refine hix.use ?_
        rw [hpr] at hcu ⊢
        simp (disch:=first|assumption|omega) only [go_sem,hf2,q1,k1]
        rw [hpn]
        simp (disch:=first|assumption|omega) only [go_sem,hf2,q3,hlen,htk]
        refine hcb.mono ?_
        rintro v σ1 ⟨rfl,rfl⟩
        simp (disch:=first|assumption|omega) only [go_sem,hf2,k1,q3,k3,hlen,hlen2,htk,hdk]
        have hsd:SDrop (T3 (pr T s2) (some (.obj Z12)) (some (.obj [.int .i64 (10+q),.int .i64 0,.str [],.int .i64 0,.int .i64 0,.bool false,.bool false,.int .i64 0,.int .i64 0,.bool false,.bool false,.sl .full [.agg NC,.agg MC]]))) (T3 (pr T s2) (some (.obj Z12)) (some (.obj (Nd.mk (10+q) 0 [] .zero .zero [n,m2]).av.cells))):=by
         rw [<-ab,← ab]
         exact (SDrop.refl _).cong hcell
        refine ⟨(f'',.mk (10+q) 0 [] .zero .zero [n,m2],s2),by dsimp only;omega,Dr.sdrop hsd ⟨⟨by dsimp only;omega,g2,hw2.fit⟩,?_,rfl⟩⟩
        simp (disch:=first|assumption|omega) only [go_sem,hf2]
     ·rw [decide_eq_false hmem,Bool.and_false] at hsgn
      rw [decide_eq_false hmem]
      rw [hsgn,if_neg (by simp)] at g2
      injection g2 with g2
      subst g2
      have hzl:Z12.length=12:=by rw [<-hZ];rfl
      have hzd:Z12.drop 12 = []:=by rw [<-hZ];rfl
      simp (disch:=first|assumption|omega) only [go_sem,hf2,q3,q2,k2,hlen,hlv,htk,hzl,hzd]
      exact retC_by (S3.drop _ _ _) (.refl _) ⟨hnn.symm,rfl⟩
    ·rw [decide_eq_false hk6,Bool.false_and] at hsgn
     rw [hsgn,if_neg (by simp)] at g2
     injection g2 with g2
     subst g2
     simp (disch:=first|assumption|omega) only [go_sem,hf2]
     refine hcu.mono ?_
     rintro v σ1 ⟨rfl,rfl⟩
     have hzl:Z12.length=12:=by rw [<-hZ];rfl
     have hzd:Z12.drop 12 = []:=by rw [<-hZ];rfl
     simp (disch:=first|assumption|omega) only [go_sem,hf2,hk6,q3,q2,k2,hlen,hlv,htk,hzl,hzd]
     exact retC_by (S3.drop _ _ _) (.refl _) ⟨hnn.symm,rfl⟩
end Go.A
namespace Go.A
open Go.Proofs
/-! 109: (*tabular/parse.parser).signed -/
def c109_22:ACode := .seq (.ops [ oq 12 (.mv (.t 0)),oe 13 (.call 162 [(.t 12)])]) (.dfr 163 (.t 0) 14 (.seq (.seq (.ops [ oq 15 (.mv (.t 0)),oq 16 (.nc (.t 15)),oq 17 (.fa 3 (.t 16)),oq 18 (.ld none (.t 17)),oq 19 (.bin .eql (.t 18) (.v (.int .i64 0)))]) (.cond (.t 19) (.ops [ oq 20 (.mv (.t 0)),oq 21 (.nc (.t 20)),oq 22 (.fa 1 (.t 21)),oq 23 (.ld none (.t 22)),oq 24 (.bin .add (.t 23) (.v (.int .i64 1))),oq 25 (.nc (.t 20)),oq 26 (.fa 1 (.t 25)),oz (.store 1 (.t 26) (.t 24))]) .skip)) (.seq (.ops [ oq 27 (.mv (.t 3)),oq 28 (.mv (.t 0)),oe 29 (.call 109 [(.t 28)]),oq 30 (.bsl 12 [(.t 29)]),oq 31 (.build [(.int .i64 0),(.int .i64 0),(.str []),(.int .i64 0),(.int .i64 0),(.bool false),(.bool false),(.int .i64 0),(.int .i64 0),(.bool false),(.bool false),(.sl .full [])] [(0,1,(.t 27)),(11,1,(.t 30))]),oz (.store 12 (.t 2) (.t 31))]) .ret)))
def c109_25:ACode := .seq (.ops [ oe 2 (.alloc [(.int .i64 0),(.int .i64 0),(.str []),(.int .i64 0),(.int .i64 0),(.bool false),(.bool false),(.int .i64 0),(.int .i64 0),(.bool false),(.bool false),(.sl .full [])])]) (.seq (.ops [ oq 3 (.mv (.v (.int .i64 0)))]) (.seq (.block 0 (.seq (.ops [ oq 7 (.mv (.t 0)),oe 8 (.call 160 [(.t 7),(.v (.str [45]))]),oq 6 (.mv (.t 8))]) (.cond (.t 6) (.ops [ oq 3 (.mv (.v (.int .i64 7)))]) (.seq (.ops [ oq 10 (.mv (.t 0)),oe 11 (.call 160 [(.t 10),(.v (.str [43]))]),oq 9 (.mv (.t 11))]) (.cond (.t 9) (.ops [ oq 3 (.mv (.v (.int .i64 8)))]) (.seq (.ops [ oq 4 (.mv (.t 0)),oe 5 (.call 161 [(.t 4)]),oz (.store 12 (.t 2) (.t 5))]) .ret)))))) c109_22))
@[go_sem] def c109_22_wp:=wp_of c109_22.eq_1
@[go_sem] def c109_25_wp:=wp_of c109_25.eq_1
def c109:AFn:=⟨32,[.c 2 (some 12)],c109_25⟩
theorem c109_ok:compF Tryz.prog Tryz.f109=some c109:=by kernel_rfl
theorem a109 {args:List AV} {σ:ASt} {R:AV->ASt->Prop} (hl:args.length<=32) (h:c109_25.wp Tryz.prog (RetQ [.c 2 (some 12)] R) (init args) σ):ACalls Tryz.prog 109 args σ R:=aFq Tryz.func109 c109_ok hl h
/-! 161: (*tabular/parse.parser).hundred -/
def c161_7:ACode := .seq (.seq (.ops [ oq 6 (.mv (.t 0)),oe 7 (.call 201 [(.t 6),(.v (.str [37]))])]) (.cond (.t 7) .skip (.exit 0))) (.block 1 (.ops [ oq 8 (.ld (some 12) (.t 3)),oq 9 (.bsl 12 [(.t 8)]),oq 10 (.build [(.int .i64 0),(.int .i64 0),(.str []),(.int .i64 0),(.int .i64 0),(.bool false),(.bool false),(.int .i64 0),(.int .i64 0),(.bool false),(.bool false),(.sl .full [])] [(0,1,(.v (.int .i64 9))),(11,1,(.t 9))]),oz (.store 12 (.t 3) (.t 10))]))
def c161_14:ACode := .seq (.ops [ oe 2 (.alloc [(.int .i64 0),(.int .i64 0),(.str []),(.int .i64 0),(.int .i64 0),(.bool false),(.bool false),(.int .i64 0),(.int .i64 0),(.bool false),(.bool false),(.sl .full [])])]) (.seq (.ops [ oq 4 (.mv (.t 0)),oe 5 (.call 200 [(.t 4)]),oe 3 (.alloc [(.int .i64 0),(.int .i64 0),(.str []),(.int .i64 0),(.int .i64 0),(.bool false),(.bool false),(.int .i64 0),(.int .i64 0),(.bool false),(.bool false),(.sl .full [])]),oz (.store 12 (.t 3) (.t 5))]) (.seq (.block 0 (.loop c161_7)) (.seq (.ops [ oq 11 (.ld (some 12) (.t 3)),oz (.store 12 (.t 2) (.t 11))]) .ret)))
@[go_sem] def c161_7_wp:=wp_of c161_7.eq_1
@[go_sem] def c161_14_wp:=wp_of c161_14.eq_1
def c161:AFn:=⟨12,[.c 2 (some 12)],c161_14⟩
theorem c161_ok:compF Tryz.prog Tryz.f161=some c161:=by kernel_rfl
theorem a161 {args:List AV} {σ:ASt} {R:AV->ASt->Prop} (hl:args.length<=12) (h:c161_14.wp Tryz.prog (RetQ [.c 2 (some 12)] R) (init args) σ):ACalls Tryz.prog 161 args σ R:=aFq Tryz.func161 c161_ok hl h
end Go.A
namespace Go.A
open Go.Proofs Go.Lib
theorem fzN {σ σ':ASt} (o m:Int) (s:List UInt8) (a b:Ref) (k:SK) (xs:List AV):Fz σ σ' (resV [.agg [.int .i64 o,.int .i64 m,.str s,.int .i64 a.row,.int .i64 a.col,.bool a.absRow,.bool a.absCol,.int .i64 b.row,.int .i64 b.col,.bool b.absRow,.bool b.absCol,.sl k xs]]) (.agg (Nd.cs o m s a b xs)):=
 Fz.agg (.cons (.refl _) (.cons (.refl _) (.cons (.refl _) (.cons (.refl _) (.cons (.refl _) (.cons (.refl _) (.cons (.refl _) (.cons (.refl _) (.cons (.refl _) (.cons (.refl _) (.cons (.refl _) (.cons (.sl _ _) .nil))))))))))))
set_option maxHeartbeats 4000000 in
theorem signed_walk {T:List Tok} (hT:TokOk T) (f:Nat) (ih:∀ f',f'<f+1->WalkF T f') (b:Nat) (s:PSt) (r:Nd×PSt) (h:signedP T (f+1) s=some r) (hf:Fit T s) (σ:ASt) (hV:LV σ) (hb:σ b=pr T s) :
  ACalls Tryz.prog 109 [.ptr b 0] σ fun v σ'=>v=r.1.av/\σ'=σ.set b (pr T r.2):=by
 rw [signedP] at h
 have hwent:=wentF hT.ends
 have hlen:=hT.len
 have hil:=hf.i
 refine a109 (by simp) ?_
 simp (disch:=first|assumption|omega) only [go_sem]
 refine aBq fun d hd=>?_
 obtain ⟨hbd,T2,S2⟩:=St2.of hd (pr_fix hb).1 (pr_fix hb).2
 rw [S2.one,hb]
 have V2:∀ X Y,LV (T2 X Y):=fun X Y=>S2.fix _ _ _ _ hV
 have k1:=S2.s1
 have k2:=S2.s2
 have q1:=S2.a1
 have q2:=S2.a2
 have ha1:=fun X=>pat_ok hf.i [45] (q1 (pr T s) X)
 have ha2:=fun X=>pat_ok hf.i [43] (q1 (pr T s) X)
 have behind:∀ (op:Int) (r1:Nd×PSt),(curT T s).kind≠0->(op=7\/op=8)->signedP T f (stepP1 (enterP T s))=some r1->r=(.mk op 0 [] .zero .zero [r1.1],leaveP r1.2)->∀ a1:AFr,(a1 0 = .ptr b 0/\a1 2 = .ptr d 0/\a1 3 = .int .i64 op) →
   ACode.wp Tryz.prog c109_22 (RetQ [.c 2 (some 12)] fun v σ'=>v=r.1.av/\σ'=σ.set b (pr T r.2)) a1 (T2 (pr T s) (some (.obj zero12))):=by
  intro op r1 hk hop h1 hr a1 hfr
  have he0:=cur_err hk
  obtain ⟨e1,e2,e3⟩:=enter_err hT.ends hf he0
  obtain ⟨g1,g2,g3⟩:=enter_fit hT.ends hf hk
  have hw:=(hwent f).signed _ _ h1 g1
  have hen:=penter_ok (T:=T) (s:=s) hf.i ⟨hf.d0,by have:=hf.d1;omega⟩ (q1 (pr T s) (some (.obj zero12)))
  have hsi:=(ih f (by omega)).signed b _ r1 h1 g1 _ (V2 (pr T (stepP1 (enterP T s))) (some (.obj zero12))) (q1 _ _)
  have hlv:=fun X=>pleave_ok (T:=T) (s:=r1.2) ⟨hw.fit.d0,by have:=hw.fit.d1;omega⟩ (q1 (pr T r1.2) X)
  have hst:stepP1 (enterP T s)=if (enterP T s).err=0 then (enterP T s).next else enterP T s:=rfl
  generalize hS:stepP1 (enterP T s)=sS at *
  generalize hE:enterP T s=sE at *
  obtain ⟨n1,s1⟩:=r1
  dsimp only at hsi hlv hr
  subst hr
  dsimp only
  obtain ⟨o,m,t,x,y,ks⟩:=n1
  rw [Nd.av_cs] at hsi
  have hav:(Nd.mk op 0 [] .zero .zero [Nd.mk o m t x y ks]).av = .agg (Nd.cs op 0 [] .zero .zero [.agg (Nd.cs o m t x y (ks.map Nd.av))]):=by rw [Nd.av_cs,List.map_cons,Nd.av_cs];rfl
  rw [hav]
  generalize ks.map Nd.av=KL at *
  unfold zero12 at *
  simp (disch:=first|assumption|omega) only [go_sem,hfr]
  refine hen.mono ?_
  rintro v σ1 ⟨rfl,rfl⟩
  rw [k1]
  have hprE:pr T sE=some (.obj [.sl .shr (T.map tokAV),.int .i64 sE.i,.int .i64 sE.deep,.int .i64 sE.err,.int .i64 sE.bad]):=rfl
  have hpn:some (Role.obj [.sl .shr (T.map tokAV),.int .i64 ((sE.i:Int)+1),.int .i64 sE.deep,.int .i64 sE.err,.int .i64 sE.bad])=pr T sE.next:=rfl
  have q1':=fun Y=>q1 (pr T sE) Y
  rw [hprE] at q1'
  by_cases he:sE.err=0
  ·rw [if_pos he] at hst
   subst hst
   have hEi:(sE.i:Int)<=1000000:=by omega
   rw [he] at hpn q1'
   rw [hprE,he]
   simp (disch:=first|assumption|omega) only [go_sem,hfr,q1',k1]
   rw [hpn]
   refine hsi.mono ?_
   rintro v σ1 ⟨rfl,rfl⟩
   rw [k1]
   simp (disch:=first|assumption|omega) only [go_sem,hfr,q2,k2]
   refine (hlv _).mono ?_
   rintro v σ1 ⟨rfl,rfl⟩
   rw [k1]
   simp (disch:=first|assumption|omega) only [go_sem,q2]
   exact retC_by (S2.drop _ _) (fzN op 0 [] .zero .zero _ _) ⟨rfl,rfl⟩
  ·rw [if_neg he] at hst
   subst hst
   have q1s:∀ Y,T2 (pr T sS) Y b=some (.obj [.sl .shr (T.map tokAV),.int .i64 sS.i,.int .i64 sS.deep,.int .i64 sS.err,.int .i64 sS.bad]):=fun Y=>q1 _ _
   simp (disch:=first|assumption|omega) only [go_sem,hfr,q1s,he]
   refine hsi.mono ?_
   rintro v σ1 ⟨rfl,rfl⟩
   rw [k1]
   simp (disch:=first|assumption|omega) only [go_sem,hfr,q2,k2]
   refine (hlv _).mono ?_
   rintro v σ1 ⟨rfl,rfl⟩
   rw [k1]
   simp (disch:=first|assumption|omega) only [go_sem,q2]
   exact retC_by (S2.drop _ _) (fzN op 0 [] .zero .zero _ _) ⟨rfl,rfl⟩
 obtain ⟨F,hF⟩:∃ F,F=ACode.wp Tryz.prog c109_22:=⟨_,rfl⟩
 rw [<-hF] at behind
 by_cases hm:isOp T s [45]=true
 ·rw [if_pos hm] at h
  rw [hm] at ha1
  cases h1:signedP T f (stepP1 (enterP T s)) with
  | none=>rw [h1] at h;cases h
  | some r1=>
    rw [h1] at h
    injection h with h
    simp (disch:=first|assumption|omega) only [go_sem,←hF]
    refine (ha1 _).mono ?_
    rintro v σ1 ⟨rfl,rfl⟩
    simp (disch:=first|assumption|omega) only [go_sem]
    refine behind 7 r1 (isOp_kind hm) (.inl rfl) h1 h.symm _ ?_
    simp (disch:=first|assumption|omega) only [go_sem]
 rw [if_neg hm] at h
 have hm':isOp T s [45]=false:=by simpa using hm
 rw [hm'] at ha1
 by_cases hp:isOp T s [43]=true
 ·rw [if_pos hp] at h
  rw [hp] at ha2
  cases h1:signedP T f (stepP1 (enterP T s)) with
  | none=>rw [h1] at h;cases h
  | some r1=>
    rw [h1] at h
    injection h with h
    simp (disch:=first|assumption|omega) only [go_sem,←hF]
    refine (ha1 _).mono ?_
    rintro v σ1 ⟨rfl,rfl⟩
    simp (disch:=first|assumption|omega) only [go_sem]
    refine (ha2 _).mono ?_
    rintro v σ1 ⟨rfl,rfl⟩
    simp (disch:=first|assumption|omega) only [go_sem]
    refine behind 8 r1 (isOp_kind hp) (.inr rfl) h1 h.symm _ ?_
    simp (disch:=first|assumption|omega) only [go_sem]
 rw [if_neg hp] at h
 have hp':isOp T s [43]=false:=by simpa using hp
 rw [hp'] at ha2
 have hh:=(ih f (by omega)).hundred b s r h hf _ (V2 (pr T s) (some (.obj zero12))) (q1 _ _)
 obtain ⟨n,s'⟩:=r
 dsimp only at hh ⊢
 obtain ⟨o,m,t,x,y,ks⟩:=n
 rw [Nd.av_cs] at hh ⊢
 unfold zero12 at hh
 simp (disch:=first|assumption|omega) only [go_sem,←hF]
 refine (ha1 _).mono ?_
 rintro v σ1 ⟨rfl,rfl⟩
 simp (disch:=first|assumption|omega) only [go_sem]
 refine (ha2 _).mono ?_
 rintro v σ1 ⟨rfl,rfl⟩
 simp (disch:=first|assumption|omega) only [go_sem]
 refine hh.mono ?_
 rintro v σ1 ⟨rfl,rfl⟩
 rw [k1]
 simp (disch:=first|assumption|omega) only [go_sem,q2,k2]
 exact retC_by (S2.drop _ _) (.refl _) ⟨rfl,rfl⟩
set_option maxHeartbeats 4000000 in
theorem hundred_walk {T:List Tok} (hT:TokOk T) (f:Nat) (ih:∀ f',f'<f+1->WalkF T f') (b:Nat) (s:PSt) (r:Nd×PSt) (h:hundredP T (f+1) s=some r) (hf:Fit T s) (σ:ASt) (hV:LV σ) (hb:σ b=pr T s) :
  ACalls Tryz.prog 161 [.ptr b 0] σ fun v σ'=>v=r.1.av/\σ'=σ.set b (pr T r.2):=by
 rw [hundredP] at h
 have hwent:=wentF hT.ends
 refine a161 (by simp) ?_
 simp (disch:=first|assumption|omega) only [go_sem]
 refine aBq fun d hd=>?_
 obtain ⟨hbd,T2,S2⟩:=St2.of hd (pr_fix hb).1 (pr_fix hb).2
 rw [S2.one,hb]
 have V2:∀ X Y,LV (T2 X Y):=fun X Y=>S2.fix _ _ _ _ hV
 have k1:=S2.s1
 cases h1:primP T f s with
 | none=>rw [h1] at h;cases h
 | some r1=>
   rw [h1] at h
   dsimp only at h
   have hw1:=(hwent f).prim _ _ h1 hf
   have hc:=(ih f (by omega)).prim b s r1 h1 hf _ (V2 (pr T s) (some (.obj zero12))) (S2.a1 _ _)
   unfold zero12 at hc
   obtain ⟨n1,s1⟩:=r1
   dsimp only at hc h hw1
   have hex:∃ o m t x y KL,n1.av = .agg (Nd.cs o m t x y KL):=by obtain ⟨o,m,t,x,y,ks⟩:=n1;exact ⟨_,_,_,_,_,_,Nd.av_cs ..⟩
   obtain ⟨o,m,t,x,y,KL,hn1⟩:=hex
   rw [hn1] at hc
   simp (disch:=first|assumption|omega) only [go_sem]
   refine hc.mono ?_
   rintro v σ1 ⟨rfl,rfl⟩
   rw [k1]
   simp (disch:=first|assumption|omega) only [go_sem]
   refine aBq fun e he=>?_
   obtain ⟨hbe,hde,T3,S3⟩:=St3.of S2 (X0 := .obj _) he
   have ab:=S3.ab
   have k3:=S3.s3
   have k2:=S3.s2
   have k1:=S3.s1
   have q3:=S3.a3
   have q2:=S3.a2
   have q1:=S3.a1
   simp (disch:=first|assumption|omega) only [go_sem,ab,k3,q3]
   refine wp_loop_by (fun (q:Nat×Nd×PSt) a1 st=>(q.1<=f/\hloopP T q.1 q.2.1 q.2.2=some r/\Fit T q.2.2)/\(a1 0 = .ptr b 0/\a1 2 = .ptr d 0/\a1 3 = .ptr e 0)/\st=T3 (pr T q.2.2) (some (.obj zero12)) (some (.obj q.2.1.av.cells))) (fun q=>q.1) (f,n1,s1) (Dr.now ⟨⟨Nat.le_refl _,h,hw1.fit⟩,?_,by dsimp only;rw [hn1];rfl⟩) ?_
   ·simp (disch:=first|assumption|omega) only [go_sem]
   clear h hn1 hw1 hc h1
   rintro ⟨f',n,s'⟩ a1 st ⟨⟨g1,g2,g3⟩,hf2,rfl⟩
   dsimp only at g1 g2 g3 hf2 ⊢
   obtain ⟨f'',rfl⟩:∃ f'',f'=f''+1:=by
    cases f' with
    | zero=>rw [hloopP] at g2;cases g2
    | succ f''=>exact ⟨f'',rfl⟩
   rw [hloopP] at g2
   have hac:=paccept_ok hT.ends g3 hT.len [37] (q1 (pr T s') (some (.obj zero12)) (some (.obj n.av.cells)))
   have hnn:n.av = .agg n.av.cells:=by cases n;rfl
   have hcell:Go.A.deeps [.int .i64 9,.int .i64 0,.str [],.int .i64 0,.int .i64 0,.bool false,.bool false,.int .i64 0,.int .i64 0,.bool false,.bool false,.sl .full [n.av]]=(Nd.mk 9 0 [] .zero .zero [n]).av.cells:=by
    have:=bin_cells 9 [n] [n.av] (by simp only [deeps_cons,deeps_nil,Nd.deep];rfl)
    rw [this,Nd.av_cs]
    rfl
   obtain ⟨NC,hNC⟩:∃ NC,n.av.cells=NC:=⟨_,rfl⟩
   have hlen:NC.length=12:=by rw [<-hNC];exact Nd.av_len n
   have hlv:leaves NC=true:=by rw [<-hNC];exact Nd.av_leaves n
   have htk:NC.take 12=NC:=List.take_of_length_le (by omega)
   have hdk:NC.drop 12 = []:=List.drop_of_length_le (by omega)
   rw [hNC] at hac hnn ⊢
   rw [hnn] at hcell
   have hzl:zero12.length=12:=rfl
   have hzd:zero12.drop 12 = []:=rfl
   generalize zero12=Z12 at *
   by_cases hop:isOp T s' [37]=true
   ·rw [if_pos hop] at g2
    rw [hop,if_pos rfl,k1] at hac
    have hfn:=(g3.next hT.ends (isOp_kind hop)).1
    simp (disch:=first|assumption|omega) only [go_sem,hf2]
    refine hac.mono ?_
    rintro v σ1 ⟨rfl,rfl⟩
    simp (disch:=first|assumption|omega) only [go_sem,hf2,q3,k3,hlen,htk,hdk]
    have hsd:SDrop (T3 (pr T s'.next) (some (.obj Z12)) (some (.obj [.int .i64 9,.int .i64 0,.str [],.int .i64 0,.int .i64 0,.bool false,.bool false,.int .i64 0,.int .i64 0,.bool false,.bool false,.sl .full [.agg NC]]))) (T3 (pr T s'.next) (some (.obj Z12)) (some (.obj (Nd.mk 9 0 [] .zero .zero [n]).av.cells))):=by
     rw [<-ab,← ab]
     exact (SDrop.refl _).cong hcell
    refine ⟨(f'',.mk 9 0 [] .zero .zero [n],s'.next),by dsimp only;omega,Dr.sdrop hsd ⟨⟨by dsimp only;omega,g2,hfn⟩,?_,rfl⟩⟩
    simp (disch:=first|assumption|omega) only [go_sem,hf2]
   ·have hop':isOp T s' [37]=false:=by simpa using hop
    rw [if_neg hop] at g2
    injection g2 with g2
    subst g2
    rw [hop',if_neg (by simp)] at hac
    simp (disch:=first|assumption|omega) only [go_sem,hf2]
    refine hac.mono ?_
    rintro v σ1 ⟨rfl,rfl⟩
    simp (disch:=first|assumption|omega) only [go_sem,hf2,q3,q2,k2,hlen,hlv,htk,hzl,hzd]
    exact retC_by (S3.drop _ _ _) (.refl _) ⟨hnn.symm,rfl⟩
end Go.A
namespace Go.A
open Go.Proofs
/-! 218: (*tabular/parse.parser).area -/
def c218_23:ACode := .seq (.ops [ oe 2 (.alloc [(.int .i64 0),(.int .i64 0),(.str []),(.int .i64 0),(.int .i64 0),(.bool false),(.bool false),(.int .i64 0),(.int .i64 0),(.bool false),(.bool false),(.sl .full [])])]) (.seq (.ops [ oq 5 (.mv (.t 0)),oe 6 (.call 65 [(.t 5)]),oe 7 (.call 234 [(.t 6)]),oq 8 (.build [(.int .i64 0),(.int .i64 0),(.str []),(.int .i64 0),(.int .i64 0),(.bool false),(.bool false),(.int .i64 0),(.int .i64 0),(.bool false),(.bool false),(.sl .full [])] [(0,1,(.v (.int .i64 5))),(3,4,(.t 7))]),oe 3 (.alloc [(.int .i64 0),(.int .i64 0),(.str []),(.int .i64 0),(.int .i64 0),(.bool false),(.bool false),(.int .i64 0),(.int .i64 0),(.bool false),(.bool false),(.sl .full [])]),oz (.store 12 (.t 3) (.t 8))]) (.seq (.ops [ oq 9 (.mv (.t 0)),oq 10 (.nc (.t 9)),oq 11 (.fa 1 (.t 10)),oq 12 (.ld none (.t 11)),oq 13 (.bin .add (.t 12) (.v (.int .i64 1))),oq 14 (.nc (.t 9)),oq 15 (.fa 1 (.t 14)),oz (.store 1 (.t 15) (.t 13))]) (.seq (.seq (.ops [ oq 16 (.mv (.t 0)),oe 17 (.call 201 [(.t 16),(.v (.str [58]))]),oq 18 (.un .not (.t 17))]) (.cond (.t 18) (.seq (.ops [ oq 19 (.ld (some 12) (.t 3)),oz (.store 12 (.t 2) (.t 19))]) .ret) .skip)) (.seq (.ops [ oq 20 (.mv (.t 0)),oe 21 (.call 65 [(.t 20)]),oe 4 (.alloc [(.int .i64 0),(.str []),(.int .i64 0),(.int .i64 0)]),oz (.store 4 (.t 4) (.t 21))]) (.seq (.seq (.ops [ oq 22 (.fa 0 (.t 4)),oq 23 (.ld none (.t 22)),oq 24 (.bin .neq (.t 23) (.v (.int .i64 4)))]) (.cond (.t 24) (.seq (.ops [ oq 25 (.mv (.t 0)),oe 26 (.call 66 [(.t 25),(.v (.int .i64 10))]),oz (.store 12 (.t 2) (.t 26))]) .ret) .skip)) (.seq (.ops [ oq 27 (.mv (.t 0)),oq 28 (.nc (.t 27)),oq 29 (.fa 1 (.t 28)),oq 30 (.ld none (.t 29)),oq 31 (.bin .add (.t 30) (.v (.int .i64 1))),oq 32 (.nc (.t 27)),oq 33 (.fa 1 (.t 32)),oz (.store 1 (.t 33) (.t 31))]) (.seq (.ops [ oq 34 (.fa 3 (.t 3)),oq 35 (.ld (some 4) (.t 34)),oq 36 (.ld (some 4) (.t 4)),⟨some 37,none,.e (.call 234 [(.t 36)]),[⟨none,.ld (some 4) (.t 34),35⟩]⟩,oq 38 (.build [(.int .i64 0),(.int .i64 0),(.str []),(.int .i64 0),(.int .i64 0),(.bool false),(.bool false),(.int .i64 0),(.int .i64 0),(.bool false),(.bool false),(.sl .full [])] [(0,1,(.v (.int .i64 6))),(3,4,(.t 35)),(7,4,(.t 37))]),oz (.store 12 (.t 2) (.t 38))]) .ret)))))))
@[go_sem] def c218_23_wp:=wp_of c218_23.eq_1
def c218:AFn:=⟨39,[.c 2 (some 12)],c218_23⟩
theorem c218_ok:compF Tryz.prog Tryz.f218=some c218:=by kernel_rfl
theorem a218 {args:List AV} {σ:ASt} {R:AV->ASt->Prop} (hl:args.length<=39) (h:c218_23.wp Tryz.prog (RetQ [.c 2 (some 12)] R) (init args) σ):ACalls Tryz.prog 218 args σ R:=aFq Tryz.func218 c218_ok hl h
/-! 235: (*tabular/parse.parser).args -/
def c235_19:ACode := .seq (.ops [ oq 26 (.mv (.t 0)),oe 27 (.call 201 [(.t 26),(.v (.str [44]))]),oq 28 (.un .not (.t 27))]) (.cond (.t 28) (.seq (.ops [ oq 29 (.mv (.t 0)),oe 30 (.call 220 [(.t 29),(.v (.str [41]))])]) (.exit 0)) .skip)
def c235_22:ACode := .seq (.seq (.ops [ oq 6 (.mv (.t 0)),oq 7 (.nc (.t 6)),oq 8 (.fa 3 (.t 7)),oq 9 (.ld none (.t 8)),oq 10 (.bin .eql (.t 9) (.v (.int .i64 0)))]) (.cond (.t 10) .skip (.exit 0))) (.block 1 (.seq (.seq (.ops [ oq 11 (.mv (.t 0)),oe 12 (.call 160 [(.t 11),(.v (.str [44]))]),oq 13 (.mv (.t 12)),⟨some 14,some (13,false),.q (.mv (.t 0)),[]⟩,⟨some 15,some (13,false),.e (.call 160 [(.t 14),(.v (.str [41]))]),[]⟩,oq 16 (.pick (.t 13) (.v (.bool true)) (.t 15))]) (.cond (.t 16) (.ops [ oq 17 (.mv (.t 3)),oq 18 (.build [(.int .i64 0),(.int .i64 0),(.str []),(.int .i64 0),(.int .i64 0),(.bool false),(.bool false),(.int .i64 0),(.int .i64 0),(.bool false),(.bool false),(.sl .full [])] [(0,1,(.v (.int .i64 23)))]),oq 19 (.bsl 12 [(.t 18)]),oe 20 (.app 31 12 104 [(.int .i64 0),(.int .i64 0),(.str []),(.int .i64 0),(.int .i64 0),(.bool false),(.bool false),(.int .i64 0),(.int .i64 0),(.bool false),(.bool false),(.sl .full [])] (.t 17) (.t 19)),oq 3 (.mv (.t 20))]) (.ops [ oq 21 (.mv (.t 3)),oq 22 (.mv (.t 0)),oe 23 (.call 64 [(.t 22),(.v (.int .i64 0))]),oq 24 (.bsl 12 [(.t 23)]),oe 25 (.app 31 12 104 [(.int .i64 0),(.int .i64 0),(.str []),(.int .i64 0),(.int .i64 0),(.bool false),(.bool false),(.int .i64 0),(.int .i64 0),(.bool false),(.bool false),(.sl .full [])] (.t 21) (.t 24)),oq 3 (.mv (.t 25))]))) c235_19))
def c235_26:ACode := .seq (.ops [ oq 31 (.mv (.t 3)),oq 2 (.mv (.t 31))]) .ret
def c235_30:ACode := .seq (.ops [ oq 2 (.mv (.v (.sl .full [])))]) (.seq (.seq (.ops [ oq 4 (.mv (.t 0)),oe 5 (.call 201 [(.t 4),(.v (.str [41]))])]) (.cond (.t 5) (.seq (.ops [ oq 2 (.mv (.v (.sl .full [])))]) .ret) .skip)) (.seq (.ops [ oq 3 (.mv (.v (.sl .full [])))]) (.seq (.block 0 (.loop c235_22)) c235_26)))
@[go_sem] def c235_19_wp:=wp_of c235_19.eq_1
@[go_sem] def c235_22_wp:=wp_of c235_22.eq_1
@[go_sem] def c235_26_wp:=wp_of c235_26.eq_1
@[go_sem] def c235_30_wp:=wp_of c235_30.eq_1
def c235:AFn:=⟨32,[.t 2],c235_30⟩
theorem c235_ok:compF Tryz.prog Tryz.f235=some c235:=by kernel_rfl
theorem a235 {args:List AV} {σ:ASt} {R:AV->ASt->Prop} (hl:args.length<=32) (h:c235_30.wp Tryz.prog (RetQ [.t 2] R) (init args) σ):ACalls Tryz.prog 235 args σ R:=aFq Tryz.func235 c235_ok hl h
end Go.A
namespace Go.A
open Go.Proofs Go.Lib
theorem zN_av:zN.av = .agg (Nd.cs 0 0 [] .zero .zero []):=rfl
theorem zN_cells:(Nd.cs 0 0 [] .zero .zero []:List AV) = [.int .i64 0,.int .i64 0,.str [],.int .i64 0,.int .i64 0,.bool false,.bool false,.int .i64 0,.int .i64 0,.bool false,.bool false,.sl .shr []]:=rfl
set_option maxHeartbeats 4000000 in
theorem area_walk {T:List Tok} (hT:TokOk T) (b:Nat) (s:PSt) (hf:Fit T s) (hk:(curT T s).kind=4) (σ:ASt) (hb:σ b=pr T s) :
  ACalls Tryz.prog 218 [.ptr b 0] σ fun v σ'=>v=(areaP T s).1.av/\σ'=σ.set b (pr T (areaP T s).2):=by
 have hlen:=hT.len
 have hil:=hf.i
 have hn:=(hf.next hT.ends (by omega)).1
 have hni:=hn.i
 refine a218 (by simp) ?_
 obtain ⟨R,hR⟩:∃ R,areaP T s=R:=⟨_,rfl⟩
 rw [hR]
 unfold areaP at hR
 simp (disch:=first|assumption|omega) only [go_sem]
 refine aBq fun d hd=>?_
 obtain ⟨hbd,T2,S2⟩:=St2.of hd (pr_fix hb).1 (pr_fix hb).2
 rw [S2.one,hb]
 have k1:=S2.s1
 have q1:=S2.a1
 have hcu:=fun X=>pcur_ok (T:=T) hf.i (q1 (pr T s) X)
 have hrf:=pref_ok (curT T s) (by have:=hT.cur s;omega)
 generalize hct:curT T s=tk at *
 obtain ⟨a,ha⟩:∃ a,refT tk=a:=⟨_,rfl⟩
 rw [ha] at hrf hR
 unfold tokAV refAV at hrf
 unfold tokAV at hcu
 simp (disch:=first|assumption|omega) only [go_sem]
 refine (hcu _).mono ?_
 rintro v σ1 ⟨rfl,rfl⟩
 simp (disch:=first|assumption|omega) only [go_sem]
 refine hrf.use ?_
 simp (disch:=first|assumption|omega) only [go_sem]
 refine aBq fun e he=>?_
 obtain ⟨hbe,hde,T3,S3⟩:=St3.of S2 (X0 := .obj _) he
 have ab:=S3.ab
 have k3:=S3.s3
 have k2:=S3.s2
 have k1:=S3.s1
 have q3:=S3.a3
 have q2:=S3.a2
 have q1:=S3.a1
 have hpr:∀ x:PSt,pr T x=some (.obj [.sl .shr (T.map tokAV),.int .i64 x.i,.int .i64 x.deep,.int .i64 x.err,.int .i64 x.bad]):=fun x=>rfl
 have hpn:some (Role.obj [.sl .shr (T.map tokAV),.int .i64 ((s.i:Int)+1),.int .i64 s.deep,.int .i64 s.err,.int .i64 s.bad])=pr T s.next:=rfl
 obtain ⟨NC,hNC⟩:∃ NC,([.int .i64 5,.int .i64 0,.str [],.int .i64 a.row,.int .i64 a.col,.bool a.absRow,.bool a.absCol,.int .i64 0,.int .i64 0,.bool false,.bool false,.sl .full []]:List AV)=NC:=⟨_,rfl⟩
 have hac:=fun X Y=>paccept_ok hT.ends hn hT.len [58] (q1 (pr T s.next) X Y)
 simp (disch:=first|assumption|omega) only [go_sem,ab,k3,q3]
 rw [hpr s]
 simp (disch:=first|assumption|omega) only [go_sem,q1,k1]
 rw [hpn]
 have hz12:zero12 = [.int .i64 0,.int .i64 0,.str [],.int .i64 0,.int .i64 0,.bool false,.bool false,.int .i64 0,.int .i64 0,.bool false,.bool false,.sl .full []]:=rfl
 refine (hac _ _).mono ?_
 rintro v σ1 ⟨rfl,rfl⟩
 by_cases hc:isOp T s.next [58]=false
 ·rw [if_pos hc] at hR
  subst hR
  rw [hc,if_neg (by simp)]
  simp (disch:=first|assumption|omega) only [go_sem,q2,q3,k2]
  rw [Nd.av_cs]
  exact retC_by (S3.drop _ _ _) (fzN 5 0 [] a .zero _ _) ⟨rfl,rfl⟩
 ·rw [if_neg hc] at hR
  have hc':isOp T s.next [58]=true:=by simpa using hc
  rw [hc',if_pos rfl,k1]
  have hn2:=(hn.next hT.ends (isOp_kind hc')).1
  have hn2i:=hn2.i
  have hcu2:=fun X Y=>pcur_ok (T:=T) hn2.i (q1 (pr T s.next.next) X Y)
  have hrf2:=pref_ok (curT T s.next.next) (by have:=hT.cur s.next.next;omega)
  have hfl:=fun τ h=>pfail_ok (T:=T) (s:=s.next.next) hn2.i 10 (σ:=τ) (b:=b) h
  have hpn2:some (Role.obj [.sl .shr (T.map tokAV),.int .i64 (s.next.next.i+1:Int),.int .i64 s.next.next.deep,.int .i64 s.next.next.err,.int .i64 s.next.next.bad])=pr T s.next.next.next:=rfl
  have hk2:(curT T s.next.next).kind≠0->s.next.next.i+1<T.length:=fun h=>(hn2.next hT.ends h).1.i
  generalize hct2:curT T s.next.next=tk2 at *
  obtain ⟨a2,ha2⟩:∃ a,refT tk2=a:=⟨_,rfl⟩
  rw [ha2] at hrf2 hR
  unfold tokAV refAV at hrf2
  unfold tokAV at hcu2
  simp (disch:=first|assumption|omega) only [go_sem]
  refine (hcu2 _ _).mono ?_
  rintro v σ1 ⟨rfl,rfl⟩
  simp (disch:=first|assumption|omega) only [go_sem]
  refine aBq fun g hg=>?_
  obtain ⟨T4,S4⟩:=St4.of S3 (X0 := .obj _) hg
  have ab4:=S4.ab
  have m1:=S4.s1
  have m2:=S4.s2
  have m4:=S4.s4
  have p1:=S4.a1
  have p2:=S4.a2
  have p3:=S4.a3
  have p4:=S4.a4
  generalize hs2:s.next.next=sN at *
  by_cases hk4:tk2.kind=4
  ·rw [if_neg (by simpa using hk4)] at hR
   subst hR
   have hi2:=hk2 (by omega)
   simp (disch:=first|assumption|omega) only [go_sem,ab4,m4,p4,hk4]
   rw [hpr sN]
   simp (disch:=first|assumption|omega) only [go_sem,p1,m1]
   rw [hpn2]
   rw [hk4] at hrf2
   simp (disch:=first|assumption|omega) only [go_sem,p3,p4]
   refine hrf2.use ?_
   simp (disch:=first|assumption|omega) only [go_sem,p2,p3,m2]
   rw [Nd.av_cs]
   exact retC_by (S4.drop _ _ _ _) (fzN 6 0 [] a a2 _ _) ⟨rfl,rfl⟩
  ·rw [if_pos hk4] at hR
   subst hR
   simp (disch:=first|assumption|omega) only [go_sem,ab4,m4,p4,hk4]
   refine (hfl _ (p1 _ _ _ _)).mono ?_
   rintro v σ1 ⟨rfl,rfl⟩
   rw [m1,zN_av,zN_cells]
   simp (disch:=first|assumption|omega) only [go_sem,p2,m2]
   exact retC_by (S4.drop _ _ _ _) (.refl _) ⟨rfl,rfl⟩
theorem deeps_app:∀ xs ys:List AV,Go.A.deeps (xs++ys)=Go.A.deeps xs++Go.A.deeps ys
 | [],ys=>rfl
 | x::xs,ys=>by rw [List.cons_append,deeps_cons,deeps_cons,deeps_app xs ys,List.cons_append]
theorem OwnSl.fzd {σ0 σ st σ':ASt} {v:AV} {xs:List AV} {s:Nat} (h:OwnSl σ0 σ v xs s) (hd:Drop st σ) (hx:∀ x∈xs,x.cells.length=s) (hn:∀ b,σ0 b=none->σ' b=none):Fz st σ' v (.sl .shr xs):=by
 rcases h with ⟨rfl,rfl,rfl⟩|⟨b,c,rest,rfl,h2,h3,h4,rfl⟩
 ·exact .sl _ _
 ·have hxl:(xs.flatMap AV.cells).length=xs.length*s:=lens_flat hx
  refine .msl 0 _ c s xs (hd.had (ASt.set_same _ _ _)) (hn _ h4) rfl h2 hx ?_
  rw [List.drop_zero,← hxl,List.take_left]
set_option maxHeartbeats 4000000 in
theorem args_walk {T:List Tok} (hT:TokOk T) (f:Nat) (ih:∀ f',f'<f+1->WalkF T f') (b:Nat) (s:PSt) (r:List Nd×PSt) (h:argsP T (f+1) s=some r) (hf:Fit T s) (σ:ASt) (hV:LV σ) (hb:σ b=pr T s) :
  ACalls Tryz.prog 235 [.ptr b 0] σ fun v σ'=>v = .sl .shr (r.1.map Nd.av)/\σ'=σ.set b (pr T r.2):=by
 rw [argsP] at h
 have hwent:=wentF hT.ends
 have hac:=paccept_ok hT.ends hf hT.len [41] hb
 refine ACalls.retd (K:=fun v σ'=>Go.A.deep v = .sl .shr (r.1.map Nd.av)/\σ'=σ.set b (pr T r.2)) ?_ (fun v σ' h=>h)
 refine a235 (by simp) ?_
 by_cases hc:isOp T s [41]=true
 ·rw [if_pos hc] at h
  injection h with h
  subst h
  rw [hc,if_pos rfl] at hac
  simp (disch:=first|assumption|omega) only [go_sem]
  refine hac.mono ?_
  rintro v σ1 ⟨rfl,rfl⟩
  simp (disch:=first|assumption|omega) only [go_sem]
  exact retC_by (Drop.refl _) (.refl _) ⟨rfl,rfl⟩
 rw [if_neg hc] at h
 have hc':isOp T s [41]=false:=by simpa using hc
 rw [hc',if_neg (by simp)] at hac
 simp (disch:=first|assumption|omega) only [go_sem]
 refine hac.mono ?_
 rintro v σ1 ⟨rfl,rfl⟩
 obtain ⟨F,hF⟩:∃ F,F=ACode.wp Tryz.prog c235_26:=⟨_,rfl⟩
 have hpr:∀ x:PSt,pr T x=some (.obj [.sl .shr (T.map tokAV),.int .i64 x.i,.int .i64 x.deep,.int .i64 x.err,.int .i64 x.bad]):=fun x=>rfl
 have hbs:=hb
 have fin:∀ (l:List Nd) (s':PSt) (XS:List AV) (v:AV) (st:ASt) (a1:AFr),r=(l,s')->(∃ σ2,Drop st σ2/\OwnSl (σ1.set b (pr T s')) σ2 v XS 12)->(∀ x∈XS,x.cells.length=12)->Go.A.deeps XS=l.map Nd.av->a1 3=v →
   F (RetQ [.t 2] fun v σ'=>Go.A.deep v = .sl .shr (r.1.map Nd.av)/\σ'=σ1.set b (pr T r.2)) a1 st:=by
  intro l s' XS v st a1 hr ⟨σ2,hdr,hO⟩ hx hd h3
  subst hr
  rw [hF]
  have hz:=hO.fzd hdr hx (σ':=σ1.set b (pr T s')) (fun x hx=>hx)
  simp (disch:=first|assumption|omega) only [go_sem,h3]
  refine retC_by (r := .sl .shr XS) (hdr.trans hO.drop) ?_ ⟨by rw [deep_sl,hd],rfl⟩
  first|exact hz|(rw [resV_one];exact hz)
 simp (disch:=first|assumption|omega) only [go_sem,←hF]
 refine wp_loop_by (fun (q:Nat×List Nd×PSt) a1 st=>(q.1<=f/\aloopP T q.1 q.2.1 q.2.2=some r/\Fit T q.2.2/\q.2.1.length<=q.2.2.i)/\a1 0 = .ptr b 0/\∃ v XS,a1 3=v/\OwnSl (σ1.set b (pr T q.2.2)) st v XS 12/\(∀ x∈XS,x.cells.length=12)/\Go.A.deeps XS=q.2.1.map Nd.av) (fun q=>q.1) (f,[],s) (Dr.now ⟨⟨Nat.le_refl _,h,hf,Nat.zero_le _⟩,?_,.sl .full [],[],?_,?_,by simp,rfl⟩) ?_
 ·simp (disch:=first|assumption|omega) only [go_sem]
 ·simp (disch:=first|assumption|omega) only [go_sem]
 ·dsimp only;rw [set_self0 hb];exact .inl ⟨rfl,rfl,rfl⟩
 clear h hac hc hc'
 rintro ⟨f',l,s'⟩ a1 st ⟨⟨g1,g2,g3,g4⟩,h0,v,XS,h3,hO,hx,hdl⟩
 dsimp only at g1 g2 g3 g4 hO hdl
 obtain ⟨f'',rfl⟩:∃ f'',f'=f''+1:=by
  cases f' with
  | zero=>rw [aloopP] at g2;cases g2
  | succ f''=>exact ⟨f'',rfl⟩
 rw [aloopP] at g2
 have hbb:st b=pr T s':=hO.at (x:=b) (ASt.set_same _ _ _)
 have hVs:LV st:=by
  unfold LV at hV ⊢
  refine hO.at ?_
  rw [ASt.set_ne]
  ·exact hV
  ·rintro e;rw [<-e,hV] at hbs;unfold pr at hbs;cases hbs
 have hxl:XS.length=l.length:=by
  have:=congrArg List.length hdl
  rw [List.length_map] at this
  rw [<-this,deeps_len]
 have hil:=g3.i
 have htl:=hT.len
 have hbb':=hbb
 rw [hpr] at hbb'
 by_cases he:s'.err=0
 ·rw [if_neg (by simp [he])] at g2
  have ha1:=pat_ok g3.i [44] hbb
  have ha2:=pat_ok g3.i [41] hbb
  obtain ⟨B,hB⟩:∃ B,B=ACode.wp Tryz.prog c235_19:=⟨_,rfl⟩
  have behind:∀ (Q:APost) (s2:PSt) (v':AV) (st':ASt) (XS':List AV) (a2:AFr),Fit T s2->(∃ σ2,Drop st' σ2/\OwnSl (σ1.set b (pr T s2)) σ2 v' XS' 12)->a2 0 = .ptr b 0->a2 3=v' →
    (∀ a3 st3,isOp T s2 [44]=true->a3 0 = .ptr b 0->a3 3=v'->(∃ σ2,Drop st3 σ2/\OwnSl (σ1.set b (pr T s2.next)) σ2 v' XS' 12)->Q .normal a3 st3) →
    (∀ a3 st3,isOp T s2 [44]=false->a3 3=v'->(∃ σ2,Drop st3 σ2/\OwnSl (σ1.set b (pr T (mustP T s2 [41]))) σ2 v' XS' 12)->Q (.exit 0) a3 st3)->B Q a2 st':=by
   intro Q s2 v' st' XS' a2 hf2 ⟨σd,hdd,hO2⟩ h02 h32 hgo hend
   rw [hB]
   have hb2:st' b=pr T s2:=hdd.had (hO2.at (x:=b) (ASt.set_same _ _ _))
   have hac:=paccept_ok hT.ends hf2 hT.len [44] hb2
   have hmu:=pmust_ok hT.ends hf2 hT.len [41] hb2
   simp (disch:=first|assumption|omega) only [go_sem,h02]
   refine hac.mono ?_
   rintro w σ2 ⟨rfl,rfl⟩
   by_cases h44:isOp T s2 [44]=true
   ·rw [h44,if_pos rfl]
    simp (disch:=first|assumption|omega) only [go_sem]
    refine hgo _ _ h44 (by simp (disch:=first|assumption|omega) only [go_sem,h02]) (by simp (disch:=first|assumption|omega) only [go_sem,h32]) ?_
    have:=hO2.put (ASt.set_same σ1 b (pr T s2):_=some _) (pr T s2.next)
    rw [ASt.set_set] at this
    exact ⟨_,hdd.set_cong,this⟩
   ·have h44':isOp T s2 [44]=false:=by simpa using h44
    rw [h44',if_neg (by simp)]
    simp (disch:=first|assumption|omega) only [go_sem,h02]
    refine hmu.mono ?_
    rintro w σ2 ⟨rfl,rfl⟩
    simp (disch:=first|assumption|omega) only [go_sem]
    refine hend _ _ h44' (by simp (disch:=first|assumption|omega) only [go_sem,h32]) ?_
    have:=hO2.put (ASt.set_same σ1 b (pr T s2):_=some _) (pr T (mustP T s2 [41]))
    rw [ASt.set_set] at this
    exact ⟨_,hdd.set_cong,this⟩
  have more:∀ (x:Nd) (s2:PSt) (X:AV),X.cells.length=12->Go.A.deep X=x.av->(if isOp T s2 [44]=true then aloopP T f'' (l ++ [x]) s2.next else some (l ++ [x],mustP T s2 [41]))=some r->Fit T s2->s'.i<=s2.i->∀ (v':AV) (st':ASt) (a2:AFr),(∃ σ2,Drop st' σ2/\OwnSl (σ1.set b (pr T s2)) σ2 v' (XS ++ [X]) 12)->a2 0 = .ptr b 0->a2 3=v' →
    B (BlockQ 1 (LoopQ (Again (fun (q:Nat×List Nd×PSt) a1 st=>(q.1<=f/\aloopP T q.1 q.2.1 q.2.2=some r/\Fit T q.2.2/\q.2.1.length<=q.2.2.i)/\a1 0 = .ptr b 0/\∃ v XS,a1 3=v/\OwnSl (σ1.set b (pr T q.2.2)) st v XS 12/\(∀ x∈XS,x.cells.length=12)/\Go.A.deeps XS=q.2.1.map Nd.av) (fun q=>q.1) (f''+1,l,s'))
     (BlockQ 0 (SeqQ F (RetQ [.t 2] fun v σ'=>Go.A.deep v = .sl .shr (r.1.map Nd.av)/\σ'=σ1.set b (pr T r.2)))))) a2 st':=by
   intro x s2 X hX hXd hr hf2 hle v' st' a2 hO2 h02 h32
   have hxs:∀ y∈XS ++ [X],y.cells.length=12:=by
    intro y hy
    rcases List.mem_append.1 hy with hy|hy
    ·exact hx y hy
    ·simp at hy;subst hy;exact hX
   have hds:Go.A.deeps (XS ++ [X])=(l ++ [x]).map Nd.av:=by
    rw [List.map_append,← hdl,deeps_app,deeps_cons,hXd]
    rfl
   refine behind _ s2 v' st' (XS ++ [X]) a2 hf2 hO2 h02 h32 (fun a3 st3 h44 h03 h33 hO3=>?_) (fun a3 st3 h44 h33 hO3=>?_)
   ·rw [if_pos h44] at hr
    have hfn:=(hf2.next hT.ends (isOp_kind h44)).1
    obtain ⟨σ3,hd3,hO3⟩:=hO3
    simp (disch:=first|assumption|omega) only [go_sem]
    exact ⟨(f'',l ++ [x],s2.next),by dsimp only;omega,Dr.drop hd3 ⟨⟨by dsimp only;omega,hr,hfn,by dsimp only;rw [List.length_append];show l.length+1<=s2.i+1;omega⟩,h03,v',XS ++ [X],h33,hO3,hxs,hds⟩⟩
   ·rw [if_neg (by simp [h44])] at hr
    injection hr with hr
    simp (disch:=first|assumption|omega) only [go_sem]
    exact fin _ _ (XS ++ [X]) v' st3 a3 hr.symm hO3 hxs hds h33
  by_cases hmi:isOp T s' [44]=true\/isOp T s' [41]=true
  ·rw [if_pos hmi] at g2
   dsimp only at g2
   have hmore:=more missN s' (.agg [.int .i64 23,.int .i64 0,.str [],.int .i64 0,.int .i64 0,.bool false,.bool false,.int .i64 0,.int .i64 0,.bool false,.bool false,.sl .full []]) rfl rfl g2 g3 (Nat.le_refl _)
   by_cases h44:isOp T s' [44]=true
   ·rw [h44] at ha1
    simp (disch:=first|assumption|omega) only [go_sem,h0,hbb',he,←hB]
    refine ha1.mono ?_
    rintro w σ2 ⟨rfl,rfl⟩
    simp (disch:=first|assumption|omega) only [go_sem,h3]
    refine OwnSl.app hO hx rfl rfl (by simp only [List.length_cons,List.length_nil];omega) (by simp only [List.length_cons,List.length_nil];omega) (by simp) fun v' σ' ⟨σ2,hd,hO2⟩=>?_
    simp (disch:=first|assumption|omega) only [go_sem]
    refine hmore v' _ _ ⟨σ2,hd,hO2⟩ ?_ ?_
    ·simp (disch:=first|assumption|omega) only [go_sem,h0]
    ·simp (disch:=first|assumption|omega) only [go_sem]
   ·have h44':isOp T s' [44]=false:=by simpa using h44
    have h41:isOp T s' [41]=true:=hmi.resolve_left h44
    rw [h44'] at ha1
    rw [h41] at ha2
    simp (disch:=first|assumption|omega) only [go_sem,h0,hbb',he,←hB]
    refine ha1.mono ?_
    rintro w σ2 ⟨rfl,rfl⟩
    simp (disch:=first|assumption|omega) only [go_sem,h0]
    refine ha2.mono ?_
    rintro w σ2 ⟨rfl,rfl⟩
    simp (disch:=first|assumption|omega) only [go_sem,h3]
    refine OwnSl.app hO hx rfl rfl (by simp only [List.length_cons,List.length_nil];omega) (by simp only [List.length_cons,List.length_nil];omega) (by simp) fun v' σ' ⟨σ2,hd,hO2⟩=>?_
    simp (disch:=first|assumption|omega) only [go_sem]
    refine hmore v' _ _ ⟨σ2,hd,hO2⟩ ?_ ?_
    ·simp (disch:=first|assumption|omega) only [go_sem,h0]
    ·simp (disch:=first|assumption|omega) only [go_sem]
  ·rw [if_neg hmi] at g2
   cases h1:betwP T f'' 0 s' with
   | none=>rw [h1] at g2;cases g2
   | some r1=>
     rw [h1] at g2
     dsimp only at g2
     have h44':isOp T s' [44]=false:=by simpa using fun h=>hmi (.inl h)
     have h41':isOp T s' [41]=false:=by simpa using fun h=>hmi (.inr h)
     rw [h44'] at ha1
     rw [h41'] at ha2
     have hw:=(hwent f'').betw _ _ _ h1 g3
     have hcb:=(ih f'' (by omega)).betw b 0 s' r1 (by omega) h1 g3 _ hVs hbb
     rw [show ((0:Nat):Int)=0 from rfl] at hcb
     obtain ⟨x1,s2⟩:=r1
     dsimp only at g2 hw hcb
     have hmore:=more x1 s2 x1.av (Nd.av_len x1) (Nd.deep x1) g2 hw.fit hw.le
     have hO1:=hO.put (ASt.set_same σ1 b (pr T s'):_=some _) (pr T s2)
     rw [ASt.set_set] at hO1
     obtain ⟨o,m,t,x,y,ks⟩:=x1
     rw [Nd.av_cs] at hmore hcb
     generalize ks.map Nd.av=KL at *
     simp (disch:=first|assumption|omega) only [go_sem,h0,hbb',he,←hB]
     refine ha1.mono ?_
     rintro w σ2 ⟨rfl,rfl⟩
     simp (disch:=first|assumption|omega) only [go_sem,h0]
     refine ha2.mono ?_
     rintro w σ2 ⟨rfl,rfl⟩
     simp (disch:=first|assumption|omega) only [go_sem,h0,h3]
     refine hcb.mono ?_
     rintro w σ2 ⟨rfl,rfl⟩
     simp (disch:=first|assumption|omega) only [go_sem]
     refine OwnSl.app hO1 hx rfl rfl (by simp only [List.length_cons,List.length_nil];omega) (by simp only [List.length_cons,List.length_nil];omega) (by simp) fun v' σ' ⟨σ2,hd,hO2⟩=>?_
     simp (disch:=first|assumption|omega) only [go_sem]
     refine hmore v' _ _ ⟨σ2,hd,hO2⟩ ?_ ?_
     ·simp (disch:=first|assumption|omega) only [go_sem,h0]
     ·simp (disch:=first|assumption|omega) only [go_sem]
 ·rw [if_pos he] at g2
  injection g2 with g2
  simp (disch:=first|assumption|omega) only [go_sem,h0,hbb',he]
  exact fin l s' XS v st _ g2.symm ⟨st,Drop.refl _,hO⟩ hx hdl (by simp (disch:=first|assumption|omega) only [go_sem,h3])
end Go.A
namespace Go.A
open Go.Proofs
/-! 219: (*tabular/parse.parser).name -/
def c219_36:ACode := .seq (.ops [ oq 47 (.build [(.int .i64 0),(.int .i64 0),(.str []),(.int .i64 0),(.int .i64 0),(.bool false),(.bool false),(.int .i64 0),(.int .i64 0),(.bool false),(.bool false),(.sl .full [])] [(0,1,(.v (.int .i64 3)))]),oe 6 (.alloc [(.int .i64 0),(.int .i64 0),(.str []),(.int .i64 0),(.int .i64 0),(.bool false),(.bool false),(.int .i64 0),(.int .i64 0),(.bool false),(.bool false),(.sl .full [])]),oz (.store 12 (.t 6) (.t 47))]) (.seq (.seq (.ops [ oq 48 (.fa 1 (.t 3)),oq 49 (.ld none (.t 48))]) (.block 0 (.seq (.ops [ oq 53 (.bin .eql (.t 49) (.v (.str [84,82,85,69]))),oq 52 (.mv (.t 53))]) (.cond (.t 52) (.ops [ oq 54 (.fa 1 (.t 6)),oz (.store 1 (.t 54) (.v (.int .i64 1)))]) (.seq (.ops [ oq 56 (.bin .eql (.t 49) (.v (.str [70,65,76,83,69]))),oq 55 (.mv (.t 56))]) (.cond (.t 55) .skip (.seq (.ops [ oq 50 (.mv (.t 0)),oe 51 (.call 66 [(.t 50),(.v (.int .i64 10))]),oz (.store 12 (.t 4) (.t 51))]) .ret))))))) (.seq (.ops [ oq 57 (.mv (.t 0)),oq 58 (.nc (.t 57)),oq 59 (.fa 1 (.t 58)),oq 60 (.ld none (.t 59)),oq 61 (.bin .add (.t 60) (.v (.int .i64 1))),oq 62 (.nc (.t 57)),oq 63 (.fa 1 (.t 62)),oz (.store 1 (.t 63) (.t 61))]) (.seq (.ops [ oq 64 (.ld (some 12) (.t 6)),oz (.store 12 (.t 4) (.t 64))]) .ret)))
def c219_39:ACode := .seq (.ops [ oe 3 (.box (.t 1)),oe 4 (.alloc [(.int .i64 0),(.int .i64 0),(.str []),(.int .i64 0),(.int .i64 0),(.bool false),(.bool false),(.int .i64 0),(.int .i64 0),(.bool false),(.bool false),(.sl .full [])])]) (.seq (.ops [ oq 7 (.mv (.t 0)),oq 8 (.nc (.t 7)),oq 9 (.fa 0 (.t 8)),oq 10 (.ld none (.t 9)),oq 11 (.mv (.t 0)),oq 12 (.nc (.t 11)),oq 13 (.fa 1 (.t 12)),oq 14 (.ld none (.t 13)),oq 15 (.bin .add (.t 14) (.v (.int .i64 1))),oq 16 (.ia 4 (.t 10) (.t 15)),oq 17 (.ld (some 4) (.t 16)),⟨some 5,none,.e (.alloc [(.int .i64 0),(.str []),(.int .i64 0),(.int .i64 0)]),[⟨none,.ld none (.t 9),10⟩,⟨none,.ld none (.t 13),14⟩,⟨none,.ld (some 4) (.t 16),17⟩]⟩,oz (.store 4 (.t 5) (.t 17))]) (.seq (.seq (.ops [ oq 18 (.fa 0 (.t 5)),oq 19 (.ld none (.t 18)),oq 20 (.bin .eql (.t 19) (.v (.int .i64 6))),oq 21 (.mv (.t 20)),⟨some 22,some (21,true),.q (.fa 1 (.t 5)),[]⟩,⟨some 23,some (21,true),.q (.ld none (.t 22)),[]⟩,⟨some 24,some (21,true),.q (.bin .eql (.t 23) (.v (.str [40]))),[]⟩,oq 25 (.pick (.t 21) (.t 24) (.v (.bool false)))]) (.cond (.t 25) (.seq (.ops [ oq 26 (.mv (.t 0)),oe 27 (.call 162 [(.t 26)])]) (.dfr 163 (.t 0) 28 (.seq (.seq (.ops [ oq 29 (.mv (.t 0)),oq 30 (.nc (.t 29)),oq 31 (.fa 3 (.t 30)),oq 32 (.ld none (.t 31)),oq 33 (.bin .neq (.t 32) (.v (.int .i64 0)))]) (.cond (.t 33) (.seq (.ops [ oq 34 (.build [(.int .i64 0),(.int .i64 0),(.str []),(.int .i64 0),(.int .i64 0),(.bool false),(.bool false),(.int .i64 0),(.int .i64 0),(.bool false),(.bool false),(.sl .full [])] []),oz (.store 12 (.t 4) (.t 34))]) .ret) .skip)) (.seq (.ops [ oq 35 (.mv (.t 0)),oq 36 (.nc (.t 35)),oq 37 (.fa 1 (.t 36)),oq 38 (.ld none (.t 37)),oq 39 (.bin .add (.t 38) (.v (.int .i64 2))),oq 40 (.nc (.t 35)),oq 41 (.fa 1 (.t 40)),oz (.store 1 (.t 41) (.t 39))]) (.seq (.ops [ oq 42 (.fa 1 (.t 3)),oq 43 (.ld none (.t 42)),oq 44 (.mv (.t 0)),⟨some 45,none,.e (.call 235 [(.t 44)]),[⟨none,.ld none (.t 42),43⟩]⟩,oq 46 (.build [(.int .i64 0),(.int .i64 0),(.str []),(.int .i64 0),(.int .i64 0),(.bool false),(.bool false),(.int .i64 0),(.int .i64 0),(.bool false),(.bool false),(.sl .full [])] [(0,1,(.v (.int .i64 22))),(2,1,(.t 43)),(11,1,(.t 45))]),oz (.store 12 (.t 4) (.t 46))]) .ret))))) .skip)) c219_36))
@[go_sem] def c219_36_wp:=wp_of c219_36.eq_1
@[go_sem] def c219_39_wp:=wp_of c219_39.eq_1
def c219:AFn:=⟨65,[.c 4 (some 12)],c219_39⟩
theorem c219_ok:compF Tryz.prog Tryz.f219=some c219:=by kernel_rfl
theorem a219 {args:List AV} {σ:ASt} {R:AV->ASt->Prop} (hl:args.length<=65) (h:c219_39.wp Tryz.prog (RetQ [.c 4 (some 12)] R) (init args) σ):ACalls Tryz.prog 219 args σ R:=aFq Tryz.func219 c219_ok hl h
end Go.A
namespace Go.A
open Go.Proofs Go.Lib
set_option maxHeartbeats 4000000 in
theorem name_walk {T:List Tok} (hT:TokOk T) (f:Nat) (ih:∀ f',f'<f+1->WalkF T f') (b:Nat) (s:PSt) (r:Nd×PSt) (h:nameP T (f+1) s=some r) (hf:Fit T s) (hk3:(curT T s).kind=3) (σ:ASt) (hV:LV σ) (hb:σ b=pr T s) :
  ACalls Tryz.prog 219 [.ptr b 0,tokAV (curT T s)] σ fun v σ'=>v=r.1.av/\σ'=σ.set b (pr T r.2):=by
 rw [nameP] at h
 have hwent:=wentF hT.ends
 have he0:s.err=0:=cur_err (T:=T) (by omega)
 have hn:=(hf.next hT.ends (by omega)).1
 have hni:s.i+1<T.length:=hn.i
 have hlen:=hT.len
 have hil:=hf.i
 have hget:(T.map tokAV)[s.i+1]? = some (.agg [.int .i64 (T.getD (s.i+1) endT).kind,.str (T.getD (s.i+1) endT).text,.int .i64 (T.getD (s.i+1) endT).at',.int .i64 (T.getD (s.i+1) endT).col]):=tok_get hni
 have hTL:(T.map tokAV).length=T.length:=by simp
 have hge2:=hT.ends.more (s.i+1) hni
 have hpr:∀ x:PSt,pr T x=some (.obj [.sl .shr (T.map tokAV),.int .i64 x.i,.int .i64 x.deep,.int .i64 x.err,.int .i64 x.bad]):=fun x=>rfl
 have hcur:=hk3
 generalize hct:curT T s=tk at *
 generalize hN:T.getD (s.i+1) endT=tn at *
 have htv:tokAV tk = .agg [.int .i64 tk.kind,.str tk.text,.int .i64 tk.at',.int .i64 tk.col]:=rfl
 rw [htv]
 obtain ⟨TC,hTC⟩:∃ TC,([.int .i64 tk.kind,.str tk.text,.int .i64 tk.at',.int .i64 tk.col]:List AV)=TC:=⟨_,rfl⟩
 have hbn:σ b≠none:=(pr_fix hb).2
 refine a219 (by simp) ?_
 simp (disch:=first|assumption|omega) only [go_sem]
 refine boxC_by rfl fun c hc=>?_
 have hbc:b≠c:=by rintro rfl;exact hbn hc
 have hbσ:(σ.set c (some (.obj [.int .i64 tk.kind,.str tk.text,.int .i64 tk.at',.int .i64 tk.col]))) b=pr T s:=by rw [ASt.set_ne hbc];exact hb
 have hVσ:LV (σ.set c (some (.obj [.int .i64 tk.kind,.str tk.text,.int .i64 tk.at',.int .i64 tk.col]))):=by
  unfold LV at hV ⊢
  rw [ASt.set_ne]
  ·exact hV
  ·rintro e;rw [<-e,hV] at hc;cases hc
 have hcσ:(σ.set c (some (.obj [.int .i64 tk.kind,.str tk.text,.int .i64 tk.at',.int .i64 tk.col]))) c=some (.obj [.int .i64 tk.kind,.str tk.text,.int .i64 tk.at',.int .i64 tk.col]):=ASt.set_same _ _ _
 have hDσ:∀ X:Option Role,Drop ((σ.set c (some (.obj [.int .i64 tk.kind,.str tk.text,.int .i64 tk.at',.int .i64 tk.col]))).set b X) (σ.set b X):=fun X=>by
  rw [set_swap (Ne.symm hbc)]
  exact Drop.set (by rw [ASt.set_ne (Ne.symm hbc)];exact hc)
 simp (disch:=first|assumption|omega) only [go_sem]
 refine aBq fun d hd=>?_
 generalize hρ:σ.set c (some (.obj [.int .i64 tk.kind,.str tk.text,.int .i64 tk.at',.int .i64 tk.col]))=ρ at *
 obtain ⟨hbd,T2,S2⟩:=St2.of hd (pr_fix hbσ).1 (pr_fix hbσ).2
 have hcd:c≠d:=by rintro rfl;rw [hcσ] at hd;cases hd
 rw [S2.one,hbσ]
 have q1:=fun Y=>S2.a1 (pr T s) Y
 rw [hpr s] at q1
 have e1:((s.i:Int)+1).toNat=s.i+1:=by omega
 have e2:((s.i:Int)+1)<T.length:=by omega
 rw [hpr s]
 simp (disch:=first|assumption|omega) only [go_sem,q1,hget,e1]
 refine aBq fun g hg=>?_
 obtain ⟨hbg,hdg,T3,S3⟩:=St3.of S2 (X0 := .obj _) hg
 have ab:=S3.ab
 have k3:=S3.s3
 have k2:=S3.s2
 have k1:=S3.s1
 have w3:=S3.a3
 have w2:=S3.a2
 have w1:=S3.a1
 have hcg:c≠g:=by
  rintro rfl
  rw [S2.other _ _ _ (Ne.symm hbc) hcd,hcσ] at hg
  cases hg
 have wc:∀ X Y Z,T3 X Y Z c=some (.obj [.int .i64 tk.kind,.str tk.text,.int .i64 tk.at',.int .i64 tk.col]):=fun X Y Z=>by rw [S3.other _ _ _ _ (Ne.symm hbc) hcd hcg];exact hcσ
 have V3:∀ X Y Z,LV (T3 X Y Z):=fun X Y Z=>S3.fix _ _ _ _ _ hVσ
 have hDr:∀ X Y Z,Drop (T3 X Y Z) (σ.set b X):=fun X Y Z=>(S3.drop _ _ _).trans (hDσ _)
 have w1':=fun Y Z=>w1 (pr T s) Y Z
 rw [hpr s] at w1'
 simp (disch:=first|assumption|omega) only [go_sem,ab,k3,w3,w1']
 rw [<-hpr s]
 by_cases hop:tn.kind=6/\tn.text = [40]
 ·rw [if_pos hop] at h
  obtain ⟨hp1,hp2⟩:=hop
  obtain ⟨g1,g2,g3⟩:=enter_err hT.ends hf he0
  have hen:=fun Y Z=>penter_ok (T:=T) (s:=s) hf.i ⟨hf.d0,by have:=hf.d1;omega⟩ (w1 (pr T s) Y Z)
  have g4:=fun he=>enter2 hT.ends hf (by rw [hct,hcur];decide) he
  simp (disch:=first|assumption|omega) only [go_sem,hp1,hp2,w3]
  refine (hen _ _).mono ?_
  rintro v σ1 ⟨rfl,rfl⟩
  rw [k1]
  generalize hE:enterP T s=sE at *
  by_cases he:sE.err=0
  ·rw [if_neg (by simp [he])] at h
   cases h1:argsP T f sE.next.next with
   | none=>rw [h1] at h;cases h
   | some r1=>
     rw [h1] at h
     injection h with h
     subst h
     obtain ⟨f1,f2,f3,f4⟩:=g4 he
     have hl2:=hge2 (by omega)
     have f5:Fit T sE.next.next:=⟨by show sE.i+1+1<_;omega,f1.d0,f1.d1,f1.d2⟩
     have hw:=(hwent f).args _ _ h1 f5
     have har:=fun Y Z=>(ih f (by omega)).args b _ r1 h1 f5 _ (V3 (pr T sE.next.next) Y Z) (w1 _ _ _)
     have hlv:=fun Y Z=>pleave_ok (T:=T) (s:=r1.2) ⟨hw.fit.d0,by have:=hw.fit.d1;omega⟩ (w1 (pr T r1.2) Y Z)
     have hpn:some (Role.obj [.sl .shr (T.map tokAV),.int .i64 ((sE.i:Int)+2),.int .i64 sE.deep,.int .i64 0,.int .i64 sE.bad])=pr T sE.next.next:=by
      rw [hpr]
      show _=some (Role.obj [.sl .shr (T.map tokAV),.int .i64 (((sE.i+1+1:Nat)):Int),.int .i64 sE.deep,.int .i64 sE.err,.int .i64 sE.bad])
      rw [he,show (((sE.i+1+1:Nat)):Int)=(sE.i:Int)+2 by omega]
     have v1:=fun Y Z=>w1 (pr T sE) Y Z
     rw [hpr sE,he] at v1
     have hEi:(sE.i:Int)<=1000000:=by omega
     obtain ⟨L,s1⟩:=r1
     dsimp only at har hlv ⊢
     rw [hpr sE,he]
     simp (disch:=first|assumption|omega) only [go_sem,v1,k1]
     rw [hpn]
     simp (disch:=first|assumption|omega) only [go_sem,wc]
     refine (har _ _).mono ?_
     rintro v σ1 ⟨rfl,rfl⟩
     rw [k1]
     simp (disch:=first|assumption|omega) only [go_sem,wc,w2,k2]
     refine (hlv _ _).mono ?_
     rintro v σ1 ⟨rfl,rfl⟩
     rw [k1]
     simp (disch:=first|assumption|omega) only [go_sem,w2]
     rw [Nd.av_cs]
     exact retC_by (hDr _ _ _) (fzN 22 0 tk.text .zero .zero _ _) ⟨rfl,rfl⟩
  ·rw [if_pos he] at h
   injection h with h
   subst h
   have hlv:=fun Y Z=>pleave_ok (T:=T) (s:=sE) ⟨g1.d0,by have:=g1.d1;omega⟩ (w1 (pr T sE) Y Z)
   have v1:∀ Y Z,T3 (pr T sE) Y Z b=some (.obj [.sl .shr (T.map tokAV),.int .i64 sE.i,.int .i64 sE.deep,.int .i64 sE.err,.int .i64 sE.bad]):=fun Y Z=>w1 _ _ _
   simp (disch:=first|assumption|omega) only [go_sem,v1,he,w2,k2]
   refine (hlv _ _).mono ?_
   rintro v σ1 ⟨rfl,rfl⟩
   rw [k1]
   simp (disch:=first|assumption|omega) only [go_sem,w2]
   rw [zN_av]
   exact retC_by (hDr _ _ _) (fzN 0 0 [] .zero .zero _ _) ⟨rfl,rfl⟩
 ·rw [if_neg hop] at h
  have hpn:some (Role.obj [.sl .shr (T.map tokAV),.int .i64 ((s.i:Int)+1),.int .i64 s.deep,.int .i64 s.err,.int .i64 s.bad])=pr T s.next:=rfl
  have hfl:=fun τ hh=>pfail_ok (T:=T) (s:=s) hf.i 10 (σ:=τ) (b:=b) hh
  have rest:∀ a1:AFr,(a1 0 = .ptr b 0/\a1 3 = .ptr c 0/\a1 4 = .ptr d 0)->ACode.wp Tryz.prog c219_36 (RetQ [.c 4 (some 12)] fun v σ'=>v=r.1.av/\σ'=σ.set b (pr T r.2)) a1 (T3 (pr T s) (some (.obj zero12)) (some (.obj [.int .i64 tn.kind,.str tn.text,.int .i64 tn.at',.int .i64 tn.col]))):=by
   intro a1 hf1
   unfold zero12
   simp (disch:=first|assumption|omega) only [go_sem]
   refine aBq fun e he=>?_
   obtain ⟨T4,S4⟩:=St4.of S3 (X0 := .obj _) he
   have ab4:=S4.ab
   have m1:=S4.s1
   have m2:=S4.s2
   have m4:=S4.s4
   have p1:=S4.a1
   have p2:=S4.a2
   have p4:=S4.a4
   have hce:c≠e:=by rintro rfl;rw [wc] at he;cases he
   have pc:∀ X Y Z W,T4 X Y Z W c=some (.obj [.int .i64 tk.kind,.str tk.text,.int .i64 tk.at',.int .i64 tk.col]):=fun X Y Z W=>by rw [<-ab4,ASt.set_ne hce];exact wc _ _ _
   have hDr4:∀ X Y Z W,Drop (T4 X Y Z W) (σ.set b X):=fun X Y Z W=>(S4.drop _ _ _ _).trans (hDσ _)
   have v1:=fun Y Z W=>p1 (pr T s) Y Z W
   rw [hpr s] at v1
   by_cases t1:tk.text = [84,82,85,69]
   ·rw [if_pos t1] at h
    injection h with h
    subst h
    rw [t1] at pc
    rw [hpr s]
    simp (disch:=first|assumption|omega) only [go_sem,hf1,ab4,m4,p4,pc,v1,m1]
    rw [hpn]
    simp (disch:=first|assumption|omega) only [go_sem,hf1,p2,m2]
    rw [Nd.av_cs]
    exact retC_by (hDr4 _ _ _ _) (fzN 3 1 [] .zero .zero _ _) ⟨rfl,rfl⟩
   rw [if_neg t1] at h
   by_cases t2:tk.text = [70,65,76,83,69]
   ·rw [if_pos t2] at h
    injection h with h
    subst h
    have t3:¬ ([70,65,76,83,69]:List UInt8) = [84,82,85,69]:=by decide
    rw [hpr s]
    simp (disch:=first|assumption|omega) only [go_sem,hf1,ab4,m4,p4,pc,t2,t3,v1,m1]
    rw [hpn]
    simp (disch:=first|assumption|omega) only [go_sem,hf1,p2,m2]
    rw [Nd.av_cs]
    exact retC_by (hDr4 _ _ _ _) (fzN 3 0 [] .zero .zero _ _) ⟨rfl,rfl⟩
   rw [if_neg t2] at h
   injection h with h
   subst h
   simp (disch:=first|assumption|omega) only [go_sem,hf1,ab4,m4,p4,pc,t1,t2]
   refine (hfl _ (p1 _ _ _ _)).mono ?_
   rintro v σ1 ⟨rfl,rfl⟩
   rw [m1,zN_av,zN_cells]
   simp (disch:=first|assumption|omega) only [go_sem,hf1,p2,m2]
   exact retC_by (hDr4 _ _ _ _) (.refl _) ⟨rfl,rfl⟩
  obtain ⟨F,hF⟩:∃ F,F=ACode.wp Tryz.prog c219_36:=⟨_,rfl⟩
  rw [<-hF] at rest
  unfold zero12 at rest
  by_cases hp1:tn.kind=6
  ·have hp2:¬ tn.text = [40]:=fun h2=>hop ⟨hp1,h2⟩
   rw [hp1] at rest
   simp (disch:=first|assumption|omega) only [go_sem,w3,hp1,hp2,←hF]
   refine rest _ ?_
   simp (disch:=first|assumption|omega) only [go_sem]
  ·simp (disch:=first|assumption|omega) only [go_sem,hp1,←hF]
   refine rest _ ?_
   simp (disch:=first|assumption|omega) only [go_sem]
end Go.A
namespace Go.A
open Go.Proofs
/-! 200: (*tabular/parse.parser).primary -/
def c200_40:ACode := .cond (.t 11) (.seq (.ops [ oq 14 (.fa 1 (.t 3)),oq 15 (.ld none (.t 14)),oe 16 (.call 62 [(.t 15)]),oq 13 (.mv (.t 16)),oq 17 (.ext 0 (.t 13)),oq 18 (.ext 1 (.t 13)),oq 4 (.mv (.t 17)),oq 5 (.mv (.t 18))]) (.seq (.seq (.ops [ oq 19 (.mv (.t 5)),oq 20 (.un .not (.t 19))]) (.cond (.t 20) (.seq (.ops [ oq 21 (.mv (.t 0)),oe 22 (.call 66 [(.t 21),(.v (.int .i64 10))]),oz (.store 12 (.t 2) (.t 22))]) .ret) .skip)) (.seq (.ops [ oq 23 (.mv (.t 0)),oq 24 (.nc (.t 23)),oq 25 (.fa 1 (.t 24)),oq 26 (.ld none (.t 25)),oq 27 (.bin .add (.t 26) (.v (.int .i64 1))),oq 28 (.nc (.t 23)),oq 29 (.fa 1 (.t 28)),oz (.store 1 (.t 29) (.t 27))]) (.seq (.ops [ oq 30 (.mv (.t 4)),oq 31 (.build [(.int .i64 0),(.int .i64 0),(.str []),(.int .i64 0),(.int .i64 0),(.bool false),(.bool false),(.int .i64 0),(.int .i64 0),(.bool false),(.bool false),(.sl .full [])] [(0,1,(.v (.int .i64 1))),(1,1,(.t 30))]),oz (.store 12 (.t 2) (.t 31))]) .ret)))) (.seq (.ops [ oq 33 (.bin .eql (.t 10) (.v (.int .i64 2))),oq 32 (.mv (.t 33))]) (.cond (.t 32) (.seq (.ops [ oq 34 (.mv (.t 0)),oq 35 (.nc (.t 34)),oq 36 (.fa 1 (.t 35)),oq 37 (.ld none (.t 36)),oq 38 (.bin .add (.t 37) (.v (.int .i64 1))),oq 39 (.nc (.t 34)),oq 40 (.fa 1 (.t 39)),oz (.store 1 (.t 40) (.t 38))]) (.seq (.ops [ oq 41 (.fa 1 (.t 3)),oq 42 (.ld none (.t 41)),oq 43 (.build [(.int .i64 0),(.int .i64 0),(.str []),(.int .i64 0),(.int .i64 0),(.bool false),(.bool false),(.int .i64 0),(.int .i64 0),(.bool false),(.bool false),(.sl .full [])] [(0,1,(.v (.int .i64 2))),(2,1,(.t 42))]),oz (.store 12 (.t 2) (.t 43))]) .ret)) (.seq (.ops [ oq 45 (.bin .eql (.t 10) (.v (.int .i64 5))),oq 44 (.mv (.t 45))]) (.cond (.t 44) (.seq (.ops [ oq 46 (.mv (.t 0)),oq 47 (.nc (.t 46)),oq 48 (.fa 1 (.t 47)),oq 49 (.ld none (.t 48)),oq 50 (.bin .add (.t 49) (.v (.int .i64 1))),oq 51 (.nc (.t 46)),oq 52 (.fa 1 (.t 51)),oz (.store 1 (.t 52) (.t 50))]) (.seq (.ops [ oq 54 (.fa 1 (.t 3)),oq 55 (.ld none (.t 54)),⟨some 53,none,.e (.call 70 []),[⟨none,.ld none (.t 54),55⟩]⟩,oe 56 (.call 111 [(.t 53),(.t 55)]),oq 57 (.bin .add (.t 56) (.v (.int .i64 1))),oq 58 (.bin .mul (.t 57) (.v (.int .i64 10000))),oq 59 (.build [(.int .i64 0),(.int .i64 0),(.str []),(.int .i64 0),(.int .i64 0),(.bool false),(.bool false),(.int .i64 0),(.int .i64 0),(.bool false),(.bool false),(.sl .full [])] [(0,1,(.v (.int .i64 4))),(1,1,(.t 58))]),oz (.store 12 (.t 2) (.t 59))]) .ret)) (.seq (.ops [ oq 61 (.bin .eql (.t 10) (.v (.int .i64 4))),oq 60 (.mv (.t 61))]) (.cond (.t 60) (.seq (.ops [ oq 62 (.mv (.t 0)),oe 63 (.call 218 [(.t 62)]),oz (.store 12 (.t 2) (.t 63))]) .ret) (.seq (.ops [ oq 65 (.bin .eql (.t 10) (.v (.int .i64 3))),oq 64 (.mv (.t 65))]) (.cond (.t 64) (.seq (.ops [ oq 66 (.mv (.t 0)),oq 67 (.ld (some 4) (.t 3)),oe 68 (.call 219 [(.t 66),(.t 67)]),oz (.store 12 (.t 2) (.t 68))]) .ret) .skip))))))))
def c200_60:ACode := .seq (.ops [ oq 89 (.mv (.t 0)),oe 90 (.call 64 [(.t 89),(.v (.int .i64 0))]),oe 6 (.alloc [(.int .i64 0),(.int .i64 0),(.str []),(.int .i64 0),(.int .i64 0),(.bool false),(.bool false),(.int .i64 0),(.int .i64 0),(.bool false),(.bool false),(.sl .full [])]),oz (.store 12 (.t 6) (.t 90))]) (.seq (.ops [ oq 91 (.mv (.t 0)),oe 92 (.call 220 [(.t 91),(.v (.str [41]))])]) (.seq (.ops [ oq 93 (.ld (some 12) (.t 6)),oz (.store 12 (.t 2) (.t 93))]) .ret))
def c200_64:ACode := .seq (.seq (.ops [ oq 69 (.mv (.t 0)),oe 70 (.call 160 [(.t 69),(.v (.str [40]))]),oq 71 (.un .not (.t 70))]) (.cond (.t 71) (.seq (.ops [ oq 72 (.mv (.t 0)),oe 73 (.call 66 [(.t 72),(.v (.int .i64 10))]),oz (.store 12 (.t 2) (.t 73))]) .ret) .skip)) (.seq (.ops [ oq 74 (.mv (.t 0)),oe 75 (.call 162 [(.t 74)])]) (.dfr 163 (.t 0) 76 (.seq (.seq (.ops [ oq 77 (.mv (.t 0)),oq 78 (.nc (.t 77)),oq 79 (.fa 3 (.t 78)),oq 80 (.ld none (.t 79)),oq 81 (.bin .eql (.t 80) (.v (.int .i64 0)))]) (.cond (.t 81) (.ops [ oq 82 (.mv (.t 0)),oq 83 (.nc (.t 82)),oq 84 (.fa 1 (.t 83)),oq 85 (.ld none (.t 84)),oq 86 (.bin .add (.t 85) (.v (.int .i64 1))),oq 87 (.nc (.t 82)),oq 88 (.fa 1 (.t 87)),oz (.store 1 (.t 88) (.t 86))]) .skip)) c200_60)))
def c200_66:ACode := .seq (.ops [ oe 2 (.alloc [(.int .i64 0),(.int .i64 0),(.str []),(.int .i64 0),(.int .i64 0),(.bool false),(.bool false),(.int .i64 0),(.int .i64 0),(.bool false),(.bool false),(.sl .full [])])]) (.seq (.seq (.ops [ oq 7 (.mv (.t 0)),oe 8 (.call 65 [(.t 7)]),oe 3 (.alloc [(.int .i64 0),(.str []),(.int .i64 0),(.int .i64 0)]),oz (.store 4 (.t 3) (.t 8))]) (.seq (.ops [ oq 9 (.fa 0 (.t 3)),oq 10 (.ld none (.t 9))]) (.block 0 (.seq (.ops [ oq 12 (.bin .eql (.t 10) (.v (.int .i64 1))),oq 11 (.mv (.t 12))]) c200_40)))) c200_64)
@[go_sem] def c200_40_wp:=wp_of c200_40.eq_1
@[go_sem] def c200_60_wp:=wp_of c200_60.eq_1
@[go_sem] def c200_64_wp:=wp_of c200_64.eq_1
@[go_sem] def c200_66_wp:=wp_of c200_66.eq_1
def c200:AFn:=⟨94,[.c 2 (some 12)],c200_66⟩
theorem c200_ok:compF Tryz.prog Tryz.f200=some c200:=by kernel_rfl
theorem a200 {args:List AV} {σ:ASt} {R:AV->ASt->Prop} (hl:args.length<=94) (h:c200_66.wp Tryz.prog (RetQ [.c 2 (some 12)] R) (init args) σ):ACalls Tryz.prog 200 args σ R:=aFq Tryz.func200 c200_ok hl h
end Go.A
namespace Go.A
open Go.Proofs Go.Lib
set_option maxHeartbeats 8000000 in
theorem prim_walk {T:List Tok} (hT:TokOk T) (f:Nat) (ih:∀ f',f'<f+1->WalkF T f') (b:Nat) (s:PSt) (r:Nd×PSt) (h:primP T (f+1) s=some r) (hf:Fit T s) (σ:ASt) (hV:LV σ) (hb:σ b=pr T s) :
  ACalls Tryz.prog 200 [.ptr b 0] σ fun v σ'=>v=r.1.av/\σ'=σ.set b (pr T r.2):=by
 rw [primP] at h
 have hwent:=wentF hT.ends
 have hlen:=hT.len
 have hil:=hf.i
 have hpr:∀ x:PSt,pr T x=some (.obj [.sl .shr (T.map tokAV),.int .i64 x.i,.int .i64 x.deep,.int .i64 x.err,.int .i64 x.bad]):=fun x=>rfl
 have hpn:some (Role.obj [.sl .shr (T.map tokAV),.int .i64 ((s.i:Int)+1),.int .i64 s.deep,.int .i64 s.err,.int .i64 s.bad])=pr T s.next:=rfl
 have htx:=hT.cur s
 have hD:=dparse_ok (curT T s).text htx
 have hE:=tenames_ok
 have hix:=strindex_ok errL (curT T s).text (by decide)
 have hrg:=idxS_rng (curT T s).text errL 0
 have hel:errL.length=7:=rfl
 have hidx:idxP errL (curT T s).text=idxS (curT T s).text errL 0:=rfl
 have hAr:=fun hk τ hh=>area_walk hT b s hf hk τ hh
 have hNa:=fun hk r hr τ hv hh=>(ih f (by omega)).name b s r hr hf hk τ hv hh
 refine a200 (by simp) ?_
 simp (disch:=first|assumption|omega) only [go_sem]
 refine aBq fun d hd=>?_
 obtain ⟨hbd,T2,S2⟩:=St2.of hd (pr_fix hb).1 (pr_fix hb).2
 rw [S2.one,hb]
 have q1:=S2.a1
 have hcu:=fun X=>pcur_ok (T:=T) hf.i (q1 (pr T s) X)
 have htv:tokAV (curT T s) = .agg [.int .i64 (curT T s).kind,.str (curT T s).text,.int .i64 (curT T s).at',.int .i64 (curT T s).col]:=rfl
 rw [htv] at hcu
 rw [htv] at hNa
 generalize hct:curT T s=tk at *
 simp (disch:=first|assumption|omega) only [go_sem]
 refine (hcu _).mono ?_
 rintro v σ1 ⟨rfl,rfl⟩
 simp (disch:=first|assumption|omega) only [go_sem]
 refine aBq fun e he=>?_
 obtain ⟨hbe,hde,T3,S3⟩:=St3.of S2 (X0 := .obj _) he
 have ab:=S3.ab
 have k3:=S3.s3
 have k2:=S3.s2
 have k1:=S3.s1
 have w3:=S3.a3
 have w2:=S3.a2
 have w1:=S3.a1
 have V3:∀ X Y Z,LV (T3 X Y Z):=fun X Y Z=>S3.fix _ _ _ _ _ hV
 have hDr:=S3.drop
 have v1:=fun Y Z=>w1 (pr T s) Y Z
 rw [hpr s] at v1
 have hfl:=fun τ hh=>pfail_ok (T:=T) (s:=s) hf.i 10 (σ:=τ) (b:=b) hh
 obtain ⟨F,hF⟩:∃ F,F=ACode.wp Tryz.prog c200_64:=⟨_,rfl⟩
 simp (disch:=first|assumption|omega) only [go_sem,ab,k3,w3,←hF]
 by_cases c1:tk.kind=1
 ·rw [if_pos c1] at h
  cases hp:parseD tk.text with
  | none=>
    rw [hp] at h hD
    injection h with h
    subst h
    have hD':Pure Tryz.prog 62 [.str tk.text] (.tuple [.int .i64 0,.bool false]):=hD
    simp (disch:=first|assumption|omega) only [go_sem,c1,w3]
    refine hD'.use ?_
    simp (disch:=first|assumption|omega) only [go_sem]
    refine (hfl _ (w1 _ _ _)).mono ?_
    rintro v σ1 ⟨rfl,rfl⟩
    rw [k1,zN_av,zN_cells]
    simp (disch:=first|assumption|omega) only [go_sem,w2,k2]
    exact retC_by (hDr _ _ _) (.refl _) ⟨rfl,rfl⟩
  | some v=>
    rw [hp] at h hD
    injection h with h
    subst h
    have hD':Pure Tryz.prog 62 [.str tk.text] (.tuple [.int .i64 v,.bool true]):=hD
    simp (disch:=first|assumption|omega) only [go_sem,c1,w3]
    refine hD'.use ?_
    rw [hpr s]
    simp (disch:=first|assumption|omega) only [go_sem,v1,k1]
    rw [hpn]
    simp (disch:=first|assumption|omega) only [go_sem,w2,k2]
    rw [Nd.av_cs]
    exact retC_by (hDr _ _ _) (fzN 1 v [] .zero .zero _ _) ⟨rfl,rfl⟩
 rw [if_neg c1] at h
 by_cases c2:tk.kind=2
 ·rw [if_pos c2] at h
  injection h with h
  subst h
  rw [hpr s]
  simp (disch:=first|assumption|omega) only [go_sem,c2,w3,v1,k1]
  rw [hpn]
  simp (disch:=first|assumption|omega) only [go_sem,w2,k2]
  rw [Nd.av_cs]
  exact retC_by (hDr _ _ _) (fzN 2 0 tk.text .zero .zero _ _) ⟨rfl,rfl⟩
 rw [if_neg c2] at h
 by_cases c5:tk.kind=5
 ·rw [if_pos c5] at h
  injection h with h
  subst h
  rw [hidx] at hix ⊢
  generalize idxS tk.text errL 0=q at *
  rw [hpr s]
  simp (disch:=first|assumption|omega) only [go_sem,c5,w3,v1,k1]
  rw [hpn]
  refine hE.use ?_
  simp (disch:=first|assumption|omega) only [go_sem,w3]
  refine hix.use ?_
  simp (disch:=first|assumption|omega) only [go_sem,w2,k2]
  rw [Nd.av_cs]
  exact retC_by (hDr _ _ _) (fzN 4 ((q+1)*10000) [] .zero .zero _ _) ⟨rfl,rfl⟩
 rw [if_neg c5] at h
 by_cases c4:tk.kind=4
 ·rw [if_pos c4] at h
  injection h with h
  subst h
  have hA:=fun Y Z=>hAr c4 _ (w1 (pr T s) Y Z)
  clear hAr hNa
  generalize areaP T s=RA at *
  obtain ⟨n,s'⟩:=RA
  dsimp only at hA ⊢
  obtain ⟨o,m,t,x,y,ks⟩:=n
  simp only [Nd.av_cs] at hA ⊢
  generalize ks.map Nd.av=KL at *
  simp (disch:=first|assumption|omega) only [go_sem,c4]
  refine (hA _ _).mono ?_
  rintro v σ1 ⟨rfl,rfl⟩
  rw [k1]
  simp (disch:=first|assumption|omega) only [go_sem,w2,k2]
  exact retC_by (hDr _ _ _) (.refl _) ⟨rfl,rfl⟩
 rw [if_neg c4] at h
 by_cases c3:tk.kind=3
 ·rw [if_pos c3] at h
  have hA:=fun Y Z=>hNa c3 r h _ (V3 (pr T s) Y Z) (w1 _ _ _)
  obtain ⟨n,s'⟩:=r
  dsimp only at hA ⊢
  obtain ⟨o,m,t,x,y,ks⟩:=n
  simp only [Nd.av_cs] at hA ⊢
  generalize ks.map Nd.av=KL at *
  rw [c3] at hA
  simp (disch:=first|assumption|omega) only [go_sem,c3,w3]
  refine (hA _ _).mono ?_
  rintro v σ1 ⟨rfl,rfl⟩
  rw [k1]
  simp (disch:=first|assumption|omega) only [go_sem,w2,k2]
  exact retC_by (hDr _ _ _) (.refl _) ⟨rfl,rfl⟩
 rw [if_neg c3] at h
 simp (disch:=first|assumption|omega) only [go_sem,c1,c2,c5,c4,c3]
 rw [hF]
 have hat:=fun Y Z=>pat_ok hf.i [40] (w1 (pr T s) Y Z)
 simp (disch:=first|assumption|omega) only [go_sem]
 refine (hat _ _).mono ?_
 rintro v σ1 ⟨rfl,rfl⟩
 by_cases hop:isOp T s [40]=true
 ·rw [if_pos hop] at h
  rw [hop]
  cases h1:betwP T f 0 (stepP1 (enterP T s)) with
  | none=>rw [h1] at h;cases h
  | some r1=>
    rw [h1] at h
    injection h with h
    subst h
    have hk:=isOp_kind hop
    have he0:=cur_err hk
    obtain ⟨e1,e2,e3⟩:=enter_err hT.ends hf he0
    obtain ⟨g1,g2,g3⟩:=enter_fit hT.ends hf hk
    have hw:=(hwent f).betw _ _ _ h1 g1
    have hwm:=Went.must hT.ends hw.fit [41]
    have hen:=fun Y Z=>penter_ok (T:=T) (s:=s) hf.i ⟨hf.d0,by have:=hf.d1;omega⟩ (w1 (pr T s) Y Z)
    have hbe':=fun Y Z=>(ih f (by omega)).betw b 0 _ r1 (by omega) h1 g1 _ (V3 (pr T (stepP1 (enterP T s))) Y Z) (w1 _ _ _)
    rw [show ((0:Nat):Int)=0 from rfl] at hbe'
    have hst:stepP1 (enterP T s)=if (enterP T s).err=0 then (enterP T s).next else enterP T s:=rfl
    generalize hS:stepP1 (enterP T s)=sS at *
    generalize hE2:enterP T s=sE at *
    obtain ⟨n1,s1⟩:=r1
    dsimp only at hbe' hw hwm ⊢
    obtain ⟨o,m,t,x,y,ks⟩:=n1
    simp only [Nd.av_cs] at hbe' ⊢
    generalize ks.map Nd.av=KL at *
    simp (disch:=first|assumption|omega) only [go_sem]
    refine (hen _ _).mono ?_
    rintro v σ1 ⟨rfl,rfl⟩
    rw [k1]
    have hpE:some (Role.obj [.sl .shr (T.map tokAV),.int .i64 ((sE.i:Int)+1),.int .i64 sE.deep,.int .i64 sE.err,.int .i64 sE.bad])=pr T sE.next:=rfl
    have hmu:=fun τ hh=>pmust_ok hT.ends hw.fit hT.len [41] (σ:=τ) (b:=b) hh
    have hlv:=fun τ hh=>pleave_ok (T:=T) (s:=mustP T s1 [41]) ⟨hwm.fit.d0,by have:=hwm.fit.d1;omega⟩ (σ:=τ) (b:=b) hh
    have tail:∀ a1:AFr,(a1 0 = .ptr b 0/\a1 2 = .ptr d 0)->ACode.wp Tryz.prog c200_60 (DfrQ Tryz.prog 163 (.ptr b 0) (RetQ [.c 2 (some 12)] fun v σ'=>v = .agg (Nd.cs o m t x y KL)/\σ'=σ.set b (pr T (leaveP (mustP T s1 [41]))))) a1 (T3 (pr T sS) (some (.obj zero12)) (some (.obj [.int .i64 tk.kind,.str tk.text,.int .i64 tk.at',.int .i64 tk.col]))):=by
     intro a1 hf1
     unfold zero12
     simp (disch:=first|assumption|omega) only [go_sem,hf1]
     refine (hbe' _ _).mono ?_
     rintro v σ1 ⟨rfl,rfl⟩
     rw [k1]
     simp (disch:=first|assumption|omega) only [go_sem]
     refine aBq fun g hg=>?_
     obtain ⟨T4,S4⟩:=St4.of S3 (X0 := .obj _) hg
     have ab4:=S4.ab
     have m1:=S4.s1
     have m2:=S4.s2
     have m4:=S4.s4
     have p1:=S4.a1
     have p2:=S4.a2
     have p4:=S4.a4
     simp (disch:=first|assumption|omega) only [go_sem,hf1,ab4,m4,p4]
     refine (hmu _ (p1 _ _ _ _)).mono ?_
     rintro v σ1 ⟨rfl,rfl⟩
     rw [m1]
     simp (disch:=first|assumption|omega) only [go_sem,hf1,p4,p2,m2]
     refine (hlv _ (p1 _ _ _ _)).mono ?_
     rintro v σ1 ⟨rfl,rfl⟩
     rw [m1]
     simp (disch:=first|assumption|omega) only [go_sem,p2]
     exact retC_by (S4.drop _ _ _ _) (.refl _) ⟨rfl,rfl⟩
    obtain ⟨G,hG⟩:∃ G,G=ACode.wp Tryz.prog c200_60:=⟨_,rfl⟩
    rw [<-hG] at tail
    unfold zero12 at tail
    by_cases hee:sE.err=0
    ·rw [if_pos hee] at hst
     subst hst
     have hEi:(sE.i:Int)<=1000000:=by omega
     have x1:=fun Y Z=>w1 (pr T sE) Y Z
     rw [hpr sE,hee] at x1
     rw [hee] at hpE
     rw [hpr sE,hee]
     simp (disch:=first|assumption|omega) only [go_sem,x1,k1,←hG]
     rw [hpE]
     refine tail _ ?_
     simp (disch:=first|assumption|omega) only [go_sem]
    ·rw [if_neg hee] at hst
     subst hst
     have x1:∀ Y Z,T3 (pr T sS) Y Z b=some (.obj [.sl .shr (T.map tokAV),.int .i64 sS.i,.int .i64 sS.deep,.int .i64 sS.err,.int .i64 sS.bad]):=fun Y Z=>w1 _ _ _
     simp (disch:=first|assumption|omega) only [go_sem,x1,hee,←hG]
     refine tail _ ?_
     simp (disch:=first|assumption|omega) only [go_sem]
 ·rw [if_neg hop] at h
  injection h with h
  subst h
  have hop':isOp T s [40]=false:=by simpa using hop
  rw [hop']
  simp (disch:=first|assumption|omega) only [go_sem]
  refine (hfl _ (w1 _ _ _)).mono ?_
  rintro v σ1 ⟨rfl,rfl⟩
  rw [k1,zN_av,zN_cells]
  simp (disch:=first|assumption|omega) only [go_sem,w2,k2]
  exact retC_by (hDr _ _ _) (.refl _) ⟨rfl,rfl⟩
theorem walkF {T:List Tok} (hT:TokOk T):∀ f,WalkF T f:=by
 intro f
 induction f using Nat.strongRecOn with
 | _ f ih=>
 cases f with
 | zero=>
   constructor
   all_goals intros
   all_goals first
    | (rename_i h _ _ _ _;simp only [betwP,signedP,hundredP,primP,argsP,reduceCtorEq] at h)
    | (rename_i h _ _ _ _ _;simp only [nameP,reduceCtorEq] at h)
 | succ f=>
   exact ⟨fun b lvl s r hl h hf σ hV hb=>betw_walk hT f ih b lvl s r hl h hf σ hV hb,fun b s r h hf σ hV hb=>signed_walk hT f ih b s r h hf σ hV hb,
    fun b s r h hf σ hV hb=>hundred_walk hT f ih b s r h hf σ hV hb,fun b s r h hf σ hV hb=>prim_walk hT f ih b s r h hf σ hV hb,
    fun b s r h hf hk σ hV hb=>name_walk hT f ih b s r h hf hk σ hV hb,fun b s r h hf σ hV hb=>args_walk hT f ih b s r h hf σ hV hb⟩
end Go.A
namespace Go.A
open Go.Proofs Go.Lib
def Mz (T:List Tok) (s:PSt):Nat:=if s.err=0 then T.length-s.i else 0
section
variable {T:List Tok}
theorem Mz_next {s:PSt} (hT:Ends T) (hf:Fit T s) (hk:(curT T s).kind≠0):Mz T s.next+1<=Mz T s:=by
 have h0:=cur_err hk
 have hi:=hf.i
 unfold Mz
 rw [if_pos h0,if_pos (show s.next.err=0 from h0)]
 show T.length-(s.i+1)+1<=_
 omega
theorem Mz_went {s s':PSt} (h:Went T s s'):Mz T s'<=Mz T s:=by
 have hl:=h.le
 unfold Mz
 by_cases h0:s.err=0
 ·rw [if_pos h0]
  split<;>omega
 ·rw [if_neg h0,if_neg (by rw [(h.err h0).1];exact h0)]
  exact Nat.le_refl _
theorem Mz_enter {s:PSt} (hT:Ends T) (hf:Fit T s) (hk:(curT T s).kind≠0):Mz T (stepP1 (enterP T s))+1<=Mz T s:=by
 have h0:=cur_err hk
 have hi:=hf.i
 obtain ⟨e1,e2,e3⟩:=enter_err hT hf h0
 unfold stepP1
 unfold Mz
 rw [if_pos h0]
 by_cases he:(enterP T s).err=0
 ·rw [if_pos he,if_pos (show (enterP T s).next.err=0 from he)]
  show T.length-((enterP T s).i+1)+1<=_
  omega
 ·rw [if_neg he,if_neg he]
  omega
structure SuffF (T:List Tok) (f:Nat):Prop where
 betw:∀ lvl s,lvl<=5->Fit T s->30*Mz T s+20<=f+lvl->∃ r,betwP T f lvl s=some r
 loop:∀ lvl n s,lvl<5->Fit T s->30*Mz T s+1<=f->∃ r,loopP T f lvl n s=some r
 signed:∀ s,Fit T s->30*Mz T s+14<=f->∃ r,signedP T f s=some r
 hundred:∀ s,Fit T s->30*Mz T s+13<=f->∃ r,hundredP T f s=some r
 hloop:∀ n s,Fit T s->30*Mz T s+1<=f->∃ r,hloopP T f n s=some r
 prim:∀ s,Fit T s->30*Mz T s+12<=f->∃ r,primP T f s=some r
 name:∀ s,Fit T s->(curT T s).kind=3->30*Mz T s+11<=f->∃ r,nameP T f s=some r
 args:∀ s,Fit T s->30*Mz T s+25<=f->∃ r,argsP T f s=some r
 aloop:∀ l s,Fit T s->30*Mz T s+24<=f->∃ r,aloopP T f l s=some r
theorem suffF (hT:Ends T):∀ f,SuffF T f
 | 0=>by
   constructor
   all_goals intros
   all_goals (exfalso;omega)
 | f+1=>by
   have ih:=suffF hT f
   have hwent:=wentF hT f
   constructor
   ·intro lvl s hl hf hm
    rw [betwP]
    split
    ·exact ih.signed s hf (by omega)
    ·obtain ⟨r,hr⟩:=ih.betw (lvl+1) s (by omega) hf (by omega)
     rw [hr]
     have hw:=hwent.betw _ _ _ hr hf
     have hz:=Mz_went hw
     exact ih.loop lvl _ _ (by omega) hw.fit (by omega)
   ·intro lvl n s hl hf hm
    rw [loopP]
    split
    ·rename_i hk
     have hz:=Mz_next hT hf (sgn_kind hk)
     have hn:=(hf.next hT (sgn_kind hk)).1
     obtain ⟨r,hr⟩:=ih.betw (lvl+1) s.next (by omega) hn (by omega)
     rw [hr]
     have hw:=hwent.betw _ _ _ hr hn
     have hz2:=Mz_went hw
     exact ih.loop lvl _ _ hl hw.fit (by omega)
    ·exact ⟨_,rfl⟩
   ·intro s hf hm
    rw [signedP]
    split
    ·rename_i hk
     have hz:=Mz_enter hT hf (isOp_kind hk)
     obtain ⟨r,hr⟩:=ih.signed _ (enter_fit hT hf (isOp_kind hk)).1 (by omega)
     rw [hr]
     exact ⟨_,rfl⟩
    split
    ·rename_i hk
     have hz:=Mz_enter hT hf (isOp_kind hk)
     obtain ⟨r,hr⟩:=ih.signed _ (enter_fit hT hf (isOp_kind hk)).1 (by omega)
     rw [hr]
     exact ⟨_,rfl⟩
    ·exact ih.hundred s hf (by omega)
   ·intro s hf hm
    rw [hundredP]
    obtain ⟨r,hr⟩:=ih.prim s hf (by omega)
    rw [hr]
    have hw:=hwent.prim _ _ hr hf
    have hz:=Mz_went hw
    exact ih.hloop _ _ hw.fit (by omega)
   ·intro n s hf hm
    rw [hloopP]
    split
    ·rename_i hk
     have hz:=Mz_next hT hf (isOp_kind hk)
     exact ih.hloop _ _ (hf.next hT (isOp_kind hk)).1 (by omega)
    ·exact ⟨_,rfl⟩
   ·intro s hf hm
    rw [primP]
    split
    ·split<;>exact ⟨_,rfl⟩
    split
    ·exact ⟨_,rfl⟩
    split
    ·exact ⟨_,rfl⟩
    split
    ·exact ⟨_,rfl⟩
    split
    ·rename_i hk
     exact ih.name s hf hk (by omega)
    split
    ·rename_i hk
     have hz:=Mz_enter hT hf (isOp_kind hk)
     obtain ⟨r,hr⟩:=ih.betw 0 _ (by omega) (enter_fit hT hf (isOp_kind hk)).1 (by omega)
     rw [hr]
     exact ⟨_,rfl⟩
    ·exact ⟨_,rfl⟩
   ·intro s hf hk hm
    have h0:s.err=0:=cur_err (T:=T) (by omega)
    have hn:=hf.next hT (by omega)
    rw [nameP]
    split
    ·rename_i hp
     split
     ·exact ⟨_,rfl⟩
     ·rename_i he
      obtain ⟨g1,g2,g3,g5⟩:=enter2 hT hf (by omega) (by simpa using he)
      have hl:=hT.more (s.i+1) hn.1.i (by omega)
      have g4:Fit T (enterP T s).next.next:=⟨by show (enterP T s).i+1+1<_;omega,g1.d0,g1.d1,g1.d2⟩
      have hz:Mz T (enterP T s).next.next+1<=Mz T s:=by
       have hi:=hf.i
       have he':(enterP T s).err=0:=by simpa using he
       unfold Mz
       rw [if_pos h0,if_pos (show (enterP T s).next.next.err=0 from he')]
       show T.length-((enterP T s).i+1+1)+1<=_
       omega
      obtain ⟨r,hr⟩:=ih.args _ g4 (by omega)
      rw [hr]
      exact ⟨_,rfl⟩
    split
    ·exact ⟨_,rfl⟩
    split<;>exact ⟨_,rfl⟩
   ·intro s hf hm
    rw [argsP]
    split
    ·exact ⟨_,rfl⟩
    ·exact ih.aloop _ s hf (by omega)
   ·intro l s hf hm
    rw [aloopP]
    split
    ·exact ⟨_,rfl⟩
    ·have h1:∃ r,(if isOp T s [44]=true\/isOp T s [41]=true then some (missN,s) else betwP T f 0 s)=some r/\Went T s r.2:=by
      split
      ·exact ⟨_,rfl,Went.refl hf⟩
      ·obtain ⟨r,hr⟩:=ih.betw 0 s (by omega) hf (by omega)
       exact ⟨r,hr,hwent.betw _ _ _ hr hf⟩
     obtain ⟨r,hr,hw⟩:=h1
     rw [hr]
     dsimp only
     split
     ·rename_i hk
      have hz:=Mz_next hT hw.fit (isOp_kind hk)
      have hz2:=Mz_went hw
      exact ih.aloop _ _ (hw.fit.next hT (isOp_kind hk)).1 (by omega)
     ·exact ⟨_,rfl⟩
end
end Go.A
namespace Go.A
open Go.Proofs
/-! 27: tabular/parse.Parse -/
def c27_20:ACode := .seq (.seq (.ops [ oq 32 (.mv (.t 8)),oq 33 (.nc (.t 32)),oq 34 (.fa 3 (.t 33)),oq 35 (.ld none (.t 34)),oq 36 (.bin .neq (.t 35) (.v (.int .i64 0)))]) (.cond (.t 36) (.seq (.ops [ oq 37 (.build [(.int .i64 0),(.int .i64 0),(.str []),(.int .i64 0),(.int .i64 0),(.bool false),(.bool false),(.int .i64 0),(.int .i64 0),(.bool false),(.bool false),(.sl .full [])] []),oq 38 (.mv (.t 8)),oq 39 (.nc (.t 38)),oq 40 (.fa 4 (.t 39)),oq 41 (.ld none (.t 40)),oq 42 (.mv (.t 8)),oq 43 (.nc (.t 42)),oq 44 (.fa 3 (.t 43)),oq 45 (.ld none (.t 44)),⟨none,none,.e (.store 12 (.t 2) (.t 37)),[⟨none,.ld none (.t 40),41⟩,⟨none,.ld none (.t 44),45⟩]⟩,oq 3 (.mv (.t 41)),oq 4 (.mv (.t 45))]) .ret) .skip)) (.seq (.ops [ oq 46 (.ld (some 12) (.t 9)),oz (.store 12 (.t 2) (.t 46)),oq 3 (.mv (.v (.int .i64 0))),oq 4 (.mv (.v (.int .i64 0)))]) .ret)
def c27_26:ACode := .seq (.ops [ oe 2 (.alloc [(.int .i64 0),(.int .i64 0),(.str []),(.int .i64 0),(.int .i64 0),(.bool false),(.bool false),(.int .i64 0),(.int .i64 0),(.bool false),(.bool false),(.sl .full [])]),oq 3 (.mv (.v (.int .i64 0))),oq 4 (.mv (.v (.int .i64 0)))]) (.seq (.ops [ oq 11 (.mv (.t 0)),oe 12 (.call 63 [(.t 11)]),oq 10 (.mv (.t 12)),oq 13 (.ext 0 (.t 10)),oq 14 (.ext 1 (.t 10)),oq 15 (.ext 2 (.t 10)),oq 5 (.mv (.t 13)),oq 6 (.mv (.t 14)),oq 7 (.mv (.t 15))]) (.seq (.seq (.ops [ oq 16 (.mv (.t 7)),oq 17 (.bin .neq (.t 16) (.v (.int .i64 0)))]) (.cond (.t 17) (.seq (.ops [ oq 18 (.build [(.int .i64 0),(.int .i64 0),(.str []),(.int .i64 0),(.int .i64 0),(.bool false),(.bool false),(.int .i64 0),(.int .i64 0),(.bool false),(.bool false),(.sl .full [])] []),oq 19 (.mv (.t 6)),oq 20 (.mv (.t 7)),oz (.store 12 (.t 2) (.t 18)),oq 3 (.mv (.t 19)),oq 4 (.mv (.t 20))]) .ret) .skip)) (.seq (.ops [ oq 21 (.mv (.t 5)),oq 22 (.build [(.sl .full []),(.int .i64 0),(.int .i64 0),(.int .i64 0),(.int .i64 0)] [(0,1,(.t 21))]),oe 23 (.box (.t 22)),oq 8 (.mv (.t 23))]) (.seq (.ops [ oq 24 (.mv (.t 8)),oe 25 (.call 64 [(.t 24),(.v (.int .i64 0))]),oe 9 (.alloc [(.int .i64 0),(.int .i64 0),(.str []),(.int .i64 0),(.int .i64 0),(.bool false),(.bool false),(.int .i64 0),(.int .i64 0),(.bool false),(.bool false),(.sl .full [])]),oz (.store 12 (.t 9) (.t 25))]) (.seq (.seq (.ops [ oq 26 (.mv (.t 8)),oe 27 (.call 65 [(.t 26)]),oq 28 (.fld 0 none (.t 27)),oq 29 (.bin .neq (.t 28) (.v (.int .i64 0)))]) (.cond (.t 29) (.ops [ oq 30 (.mv (.t 8)),oe 31 (.call 66 [(.t 30),(.v (.int .i64 10))])]) .skip)) c27_20)))))
@[go_sem] def c27_20_wp:=wp_of c27_20.eq_1
@[go_sem] def c27_26_wp:=wp_of c27_26.eq_1
def c27:AFn:=⟨47,[.c 2 (some 12),.t 3,.t 4],c27_26⟩
theorem c27_ok:compF Tryz.prog Tryz.f27=some c27:=by kernel_rfl
theorem a27 {args:List AV} {σ:ASt} {R:AV->ASt->Prop} (hl:args.length<=47) (h:c27_26.wp Tryz.prog (RetQ [.c 2 (some 12),.t 3,.t 4] R) (init args) σ):ACalls Tryz.prog 27 args σ R:=aFq Tryz.func27 c27_ok hl h
end Go.A
end
