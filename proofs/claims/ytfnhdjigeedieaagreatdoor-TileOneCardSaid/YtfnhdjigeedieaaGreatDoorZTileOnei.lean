/- Part 9 of what TileOne leans on: Er CodeOc Oc CodePb CodePc CodePd CodePe CodePf CodePg CodePi CodeOd Od Ye Qe Qf Qd Qg Qh CodeOe Oe CodeRa CodeOf CodeOg CodeVh CodeRd CodeOh CodeOi CodeGi CodeXb CodeXd CodeHv CodeRb CodeOj CodeOk CodeOl Ol CodeOm Om On CodeOp Op Vk Vl CodeOr Or Os CodeOt Ot Ms Mv. -/
import Derived.Test.YtfnhdjigeedieaaGreatDoorProg
import Derived.KernelRfl
import Derived.Test.YtfnhdjigeedieaaGreatDoorRows
import Derived.ProofKit
import Derived.LaidMore
import Derived.OpenShut
import Derived.Stop.LaidErr
import Derived.MakeChecks
import Derived.SevenTiedAt
import Derived.Lay
import Derived.ChangeArms
import Derived.Lib.LaidU8
import Derived.Lib.LaidTab
import Derived.Test.YtfnhdjigeedieaaGreatDoorZTileOneh
set_option linter.defProp false
set_option linter.unusedSimpArgs false
set_option linter.unusedVariables false
set_option maxRecDepth 100000
section
attribute [local go_sem] reduceCtorEq Nat.reduceEqDiff Nat.reduceAdd Nat.reduceSub Nat.reduceMul Nat.reduceLeDiff Int.reduceLT Int.reduceLE Int.reduceEq Int.reduceNeg Int.reduceAdd Int.reduceSub Int.reduceMul true_imp_iff forall_const Nat.mul_one Int.reduceToNat Nat.reducePow Int.reducePow Bool.true_and Bool.false_and Bool.and_false
attribute [local go_sem ↓] reduceIte
namespace Go.A
open Go.Proofs Go.Lib Go.Vint
theorem eReadP_ok (s:List UInt8) (hs:s.length<=10000000) (b p:Nat) (hp:p<=s.length) (σ:ASt) (hU:U8 σ) (hb:σ b=rd s p 0) :
  ACalls Tryz.prog 96 [.ptr b 0] σ fun v σ'=>v = .tuple [(treeR s 2101 p).1.av,.int .i64 (treeR s 2101 p).2.1]/\σ'=σ.set b (rd s (treeR s 2101 p).2.2.1 (treeR s 2101 p).2.2.2):=by
 have hR:=read_le s hs b 2101 p (Nat.le_refl _) hp
 rw [show (2101:Int)-((2101:Nat):Int)=0 by decide] at hR
 generalize treeR s 2101 p=R at *
 obtain ⟨n,e,P,E⟩:=R
 dsimp only at *
 obtain ⟨o,m,t,x,y,ks⟩:=n
 rw [Nd.av_cs] at *
 generalize ks.map Nd.av=KL at *
 refine a96 (by simp) ?_
 simp (disch:=first|assumption|omega|(simp only [List.length_append,List.length_cons,List.length_nil];omega)) only [go_sem]
 refine allocC_by fun d hd=>?_
 have hbd:b≠d:=by rintro rfl;rw [hb] at hd;cases hd
 have hsw2:∀ (X Y Z:Option Role),((σ.set d X).set b Y).set d Z=(σ.set b Y).set d Z:=fun X Y Z=>by rw [set_swap (Ne.symm hbd),ASt.set_set]
 have hdd:∀ X Y:Option Role,Drop ((σ.set b X).set d Y) (σ.set b X):=fun X Y=>Drop.set (by rw [ASt.set_ne (Ne.symm hbd)];exact hd)
 have hdr:∀ X Y:Option Role,((σ.set d X).set b Y) d=X:=fun X Y=>by rw [ASt.set_ne (Ne.symm hbd),ASt.set_same]
 simp (disch:=first|assumption|omega|(simp only [List.length_append,List.length_cons,List.length_nil];omega)) only [go_sem]
 refine (hR _ (hU.set hd) (by rw [ASt.set_ne hbd];exact hb)).mono ?_
 rintro v σ1 ⟨rfl,rfl⟩
 simp (disch:=first|assumption|omega|(simp only [List.length_append,List.length_cons,List.length_nil];omega)) only [go_sem,hdr,hsw2]
 exact retC_by (hdd _ _) (.refl _) ⟨rfl,rfl⟩
theorem W.new {σ:ASt} {b:Nat} (hb:σ b=none):W σ b [] (σ.set b (some (.obj [.sl .full []]))):=⟨.full,.inl ⟨rfl,rfl,rfl⟩⟩
theorem W.at {σ0 σ:ASt} {b x:Nat} {l:List UInt8} {r:Role} (h:W σ0 b l σ) (hx:x≠b) (h0:σ0 x=some r):σ x=some r:=by
 obtain ⟨k,hg⟩:=h
 exact hg.at (by rw [ASt.set_ne hx];exact h0)
theorem W.drop {σ0 σ:ASt} {b:Nat} {l:List UInt8} (h:W σ0 b l σ) (hb:σ0 b=none):Drop σ σ0:=by
 obtain ⟨k,hg⟩:=h
 exact Drop.trans hg.drop (Drop.set hb)
end Go.A
namespace Go.A
open Go.Proofs
/-! 20: (*tabular/tile.Tile).Write -/
def c20_14:ACode := .seq (.ops [ oq 17 (.bin .lss (.t 16) (.v (.int .i64 32)))]) (.seq (.cond (.t 17) .skip (.exit 0)) (.seq (.block 1 (.seq (.ops [ oq 18 (.mv (.t 16)),oq 6 (.mv (.t 18))]) (.ops [ oq 19 (.mv (.t 0)),oq 20 (.mv (.t 1)),oq 21 (.mv (.t 6)),oq 23 (.nc (.t 19)),oe 22 (.call 42 [(.t 20),(.t 21)]),oq 24 (.iaa 32 13 (.t 23) (.t 22)),oq 25 (.ld (some 13) (.t 24)),oe 26 (.call 41 [(.t 5),(.t 25)])]))) (.ops [ oq 27 (.bin .add (.t 16) (.v (.int .i64 1))),oq 16 (.mv (.t 27))])))
def c20_37:ACode := .seq (.ops [ oq 30 (.bin .lss (.t 29) (.v (.int .i64 32)))]) (.seq (.cond (.t 30) .skip (.exit 2)) (.seq (.block 3 (.seq (.ops [ oq 31 (.mv (.t 29)),oq 8 (.mv (.t 31))]) (.seq (.ops [ oq 32 (.mv (.t 0)),oq 33 (.mv (.t 8)),oq 34 (.nc (.t 32)),oq 35 (.iaa 32 13 (.t 34) (.t 33)),oq 36 (.ld (some 13) (.t 35)),oe 37 (.call 12 [(.t 36)]),oq 38 (.un .not (.t 37))]) (.cond (.t 38) (.ops [ oq 39 (.mv (.t 7)),oq 40 (.mv (.t 8)),oq 41 (.conv .u64 (.t 40)),oq 42 (.bsl 1 [(.t 41)]),oe 43 (.app 94 1 8 [(.int .u64 0)] (.t 39) (.t 42)),oq 7 (.mv (.t 43))]) .skip)))) (.ops [ oq 44 (.bin .add (.t 29) (.v (.int .i64 1))),oq 29 (.mv (.t 44))])))
def c20_52:ACode := .seq (.ops [ oq 50 (.bin .lss (.t 49) (.t 48))]) (.seq (.cond (.t 50) .skip (.exit 4)) (.seq (.block 5 (.seq (.ops [ oq 51 (.ia 1 (.t 47) (.t 49)),oq 52 (.ld none (.t 51)),oq 10 (.mv (.t 52))]) (.ops [ oq 53 (.mv (.t 0)),oq 54 (.mv (.t 10)),oq 55 (.nc (.t 53)),oq 56 (.iaa 32 13 (.t 55) (.t 54)),oq 57 (.ld (some 13) (.t 56)),oe 58 (.call 41 [(.t 5),(.t 57)])]))) (.ops [ oq 59 (.bin .add (.t 49) (.v (.int .i64 1))),oq 49 (.mv (.t 59))])))
def c20_65:ACode := .seq (.ops [ oq 4 (.mv (.v (.str [])))]) (.seq (.ops [ oe 5 (.alloc [(.sl .full [])])]) (.seq (.ops [ oq 11 (.mv (.t 1)),oq 12 (.conv .u64 (.t 11)),oe 13 (.call 40 [(.t 5),(.t 12)])]) (.seq (.seq (.ops [ oq 14 (.mv (.t 1)),oq 15 (.bin .neq (.t 14) (.v (.int .i64 3)))]) (.cond (.t 15) (.seq (.seq (.ops [ oq 16 (.mv (.v (.int .i64 0)))]) (.block 0 (.loop c20_14))) (.seq (.ops [ oe 28 (.call 43 [(.t 5)]),oq 4 (.mv (.t 28))]) .ret)) .skip)) (.seq (.ops [ oq 7 (.mv (.v (.sl .full [])))]) (.seq (.seq (.ops [ oq 29 (.mv (.v (.int .i64 0)))]) (.block 2 (.loop c20_37))) (.seq (.ops [ oq 45 (.mv (.t 7)),oe 46 (.call 44 [(.t 5),(.t 45)])]) (.seq (.seq (.ops [ oq 47 (.mv (.t 7)),oq 48 (.len (.t 47)),oq 49 (.mv (.v (.int .i64 0)))]) (.block 4 (.loop c20_52))) (.seq (.ops [ oe 60 (.call 43 [(.t 5)]),oq 4 (.mv (.t 60))]) .ret))))))))
@[go_sem] def c20_14_wp:=wp_of c20_14.eq_1
@[go_sem] def c20_37_wp:=wp_of c20_37.eq_1
@[go_sem] def c20_52_wp:=wp_of c20_52.eq_1
@[go_sem] def c20_65_wp:=wp_of c20_65.eq_1
def c20:AFn:=⟨61,[.t 4],c20_65⟩
theorem c20_ok:compF Tryz.prog Tryz.f20=some c20:=by kernel_rfl
theorem a20 {args:List AV} {σ:ASt} {R:AV->ASt->Prop} (hl:args.length<=61) (h:c20_65.wp Tryz.prog (RetQ [.t 4] R) (init args) σ):ACalls Tryz.prog 20 args σ R:=acalls_of Tryz.func20 c20_ok hl h
end Go.A
namespace Go.A
open Go.Proofs Go.Lib Go.Vint
theorem putB_le (v:PV) (hg:v.good) (ht:∀ t,v = .text t->t.length<=2000):(putB v).length<=2020:=by
 obtain ⟨k,y,z,hp,hB,hy,hz,hk⟩:=put_pl v hg ht
 have hu:=uintB_le (u:=k) (by omega)
 have hf:=foldI_bd (n:=y) (by omega) (by omega)
 have hu2:=uintB_le (u:=foldI y) (by omega)
 have hu3:=uintB_le (u:=(z.length:Int)) (by omega)
 rw [Int.toNat_natCast] at hu3
 rw [hB]
 unfold plB
 split
 ·rw [List.length_append];omega
 ·split
  ·unfold textB
   rw [List.length_append,List.length_append];omega
  ·rw [List.length_append,List.length_nil];omega
theorem TC.bytes_le {c:TC} (h:c.wfine):c.bytes.length<=102500:=by
 have u0:(uintB 0).length=1:=by rw [uintB_small (by decide)];rfl
 have u1:(uintB 1).length=1:=by rw [uintB_small (by decide)];rfl
 have u2:(uintB 2).length=1:=by rw [uintB_small (by decide)];rfl
 have hp:=putB_le c.val h.good h.short
 unfold TC.bytes
 split
 ·omega
 ·split
  ·rename_i hf
   have:=h.nb hf
   rw [List.length_append,List.length_append];omega
  ·rw [List.length_append];omega
def cellB (T:List TC) (i:Nat):List UInt8:=((T[i]?).map TC.bytes).getD []
theorem cellB_at {T:List TC} {i:Nat} {c:TC} (h:T[i]? = some c):cellB T i=c.bytes:=by unfold cellB;rw [h];rfl
theorem cellB_le {T:List TC} (h:∀ c∈T,c.wfine) (i:Nat):(cellB T i).length<=102500:=by
 unfold cellB
 cases hc:T[i]? with
 | none=>simp
 | some c=>exact TC.bytes_le (h c (List.mem_of_getElem? hc))
def wrT (T:List TC) (k:Int) (n:Nat):List UInt8:=(List.range n).flatMap fun j=>cellB T (placeN k j)
theorem wrT_succ {T:List TC} {k:Int} (n:Nat):wrT T k (n+1)=wrT T k n++cellB T (placeN k n):=by
 unfold wrT
 rw [List.range_succ,List.flatMap_append]
 simp
theorem wrT_le {T:List TC} (h:∀ c∈T,c.wfine) (k:Int) (n:Nat):(wrT T k n).length<=102500*n:=by
 induction n with
 | zero=>simp [wrT]
 | succ n ih=>
   rw [wrT_succ,List.length_append]
   have:=cellB_le h (placeN k n)
   omega
def hasT (T:List TC) (j:Nat):Bool:=((T[j]?).map fun c => !c.empty).getD false
def fullN (T:List TC) (n:Nat):List Nat:=(List.range n).filter (hasT T)
theorem fullN_succ {T:List TC} {n:Nat} {c:TC} (h:T[n]? = some c):fullN T (n+1)=fullN T n++if c.empty=true then [] else [n]:=by
 unfold fullN
 have e:hasT T n = !c.empty:=by unfold hasT;rw [h];rfl
 rw [List.range_succ,List.filter_append]
 congr 1
 cases hc:c.empty<;>simp [e,hc]
theorem fullN_le (T:List TC) (n:Nat):(fullN T n).length<=n:=by
 have:=List.length_filter_le (hasT T) (List.range n)
 rw [List.length_range] at this
 exact this
theorem fullN_lt {T:List TC} {n j:Nat} (h:j∈fullN T n):j<n:=by
 unfold fullN at h
 exact List.mem_range.1 (List.mem_filter.1 h).1
def natsI (l:List Nat):List Int:=l.map fun (n:Nat)=>(n:Int)
theorem natsI_u64 (l:List Nat):(natsI l).map (AV.int .u64)=l.map fun (n:Nat)=>AV.int .u64 (n:Int):=by unfold natsI;rw [List.map_map];rfl
theorem fullN_rises (T:List TC) (n:Nat) (hn:n<=32):Rises (natsI (fullN T n)):=by
 have hp:(fullN T n).Pairwise (· < ·):=List.Pairwise.filter _ List.pairwise_lt_range
 constructor
 ·intro x hx
  unfold natsI at hx
  obtain ⟨j,hj,rfl⟩:=List.mem_map.1 hx
  have:=fullN_lt hj
  omega
 ·intro k x y hx hy
  unfold natsI at hx hy
  rw [List.getElem?_map] at hx hy
  generalize fullN T n=l at *
  cases h1:l[k]? with
  | none=>rw [h1] at hx;cases hx
  | some u=>
    cases h2:l[k+1]? with
    | none=>rw [h2] at hy;cases hy
    | some v=>
      rw [h1] at hx
      rw [h2] at hy
      simp only [Option.map_some,Option.some.injEq] at hx hy
      obtain ⟨hk1,e1⟩:=List.getElem?_eq_some_iff.1 h1
      obtain ⟨hk2,e2⟩:=List.getElem?_eq_some_iff.1 h2
      have:=List.pairwise_iff_getElem.1 hp k (k+1) hk1 hk2 (by omega)
      rw [e1,e2] at this
      omega
def spB (T:List TC) (l:List Nat):List UInt8:=l.flatMap (cellB T)
theorem spB_step {T:List TC} {l:List Nat} {i j:Nat} (h:l[i]? = some j):spB T (l.take (i+1))=spB T (l.take i)++cellB T j:=by
 unfold spB
 rw [List.take_add_one,h,List.flatMap_append]
 simp
theorem spB_le {T:List TC} (h:∀ c∈T,c.wfine) (l:List Nat):(spB T l).length<=102500*l.length:=by
 induction l with
 | nil=>simp [spB]
 | cons j l ih=>
   have:=cellB_le h j
   unfold spB at ih ⊢
   rw [List.flatMap_cons,List.length_append,List.length_cons]
   omega
def tileB (T:List TC) (k:Int):List UInt8:=if k=3 then uintB 3++risingB (natsI (fullN T 32))++spB T (fullN T 32) else uintB k.toNat++wrT T k 32
theorem W.grown {σ0 σ1 s2:ASt} {w:Nat} {l:List UInt8} {q:SK} {n s:Nat} (hW:W σ0 w l σ1) (hg:Grown σ1 s2 q n s) (hw:σ0 w=none):∃ σb,W σb w l s2/\Drop σb σ0/\σb w=none/\∀ x r,σ0 x=some r->σb x=some r:=by
 rcases hg with ⟨_,_,rfl⟩|⟨t,T,_,hn,rfl⟩
 ·exact ⟨σ0,hW,Drop.refl _,hw,fun _ _ h=>h⟩
 ·obtain ⟨h1,h2,h3⟩:=hW.add hn (r := .tok (n*s))
  exact ⟨_,h1,Drop.set h3,by rw [ASt.set_ne (Ne.symm h2)];exact hw,fun x r hx=>by rw [ASt.set_ne (by rintro rfl;rw [h3] at hx;cases hx)];exact hx⟩
theorem twrite_ok {T:List TC} {p:Nat} {σ:ASt} (h:TileAt T p σ) (hw:∀ c∈T,c.wfine) (k:Int) (hk:1<=k/\k<=3) :
  ACalls Tryz.prog 20 [.ptr p 0,.int .i64 k] σ fun v σ'=>v = .str (tileB T k)/\σ'=σ:=by
 obtain ⟨cs,hp⟩:=h.ex
 have hlen:=h.len
 have hwk:IntKind.wrap .u64 k=k:=by rw [IntKind.wrap_u64,Int.emod_eq_of_lt (by omega) (by omega)]
 have hu:=uintB_le (u:=k) (by omega)
 refine a20 (by simp) ?_
 simp (disch:=first|assumption|omega) only [go_sem]
 refine allocC_by fun w hwn=>?_
 have hpw:p≠w:=by rintro rfl;rw [hp] at hwn;cases hwn
 have hW0:=W.new hwn
 simp (disch:=first|assumption|omega) only [go_sem,hwk]
 refine (wuint_ok _ w k [] _ hW0 (by omega) (by omega) (by rw [List.length_nil];omega)).mono ?_
 rintro r σ1 ⟨rfl,hW1⟩
 rw [List.nil_append] at hW1
 by_cases h3:k=3
 ·subst h3
  have hB:tileB T 3=uintB 3++risingB (natsI (fullN T 32))++spB T (fullN T 32):=if_pos rfl
  rw [hB]
  rw [show (3:Int).toNat=3 from rfl] at hW1 hu
  simp (disch:=first|assumption|omega) only [go_sem]
  refine wp_loop_on (fun (i:Nat) a1 s2=>i<=32/\∃ q,(a1 0 = .ptr p 0/\a1 5 = .ptr w 0/\a1 7 = .sl q ((fullN T i).map fun (n:Nat)=>AV.int .u64 (n:Int))/\a1 29 = .int .i64 i)/\Grown σ1 s2 q ((fullN T i).map fun (n:Nat)=>AV.int .u64 (n:Int)).length 1) (fun i=>32-i) 0 ⟨Nat.zero_le _,.full,?_,.inl ⟨rfl,rfl,rfl⟩⟩ ?_
  ·simp (disch:=first|assumption|omega) only [go_sem]
   all_goals rfl
  rintro i a1 s2 ⟨hi,q,hf,hg⟩
  by_cases hlt:i<32
  ·have hlt':(i:Int)<32:=by omega
   obtain ⟨c,hc⟩:∃ c,T[i]? = some c:=⟨_,List.getElem?_eq_getElem (by omega)⟩
   have hld:=(h.to (σ':=s2) ((hg.at (W.at hW1 hpw hp)).trans hp.symm)).cell i c hc
   have hst:=fullN_succ hc
   have hle:=fullN_le T i
   have hE:=tcEmpty_ok c
   have hn0:((i:Nat):Int).toNat=i:=rfl
   have hwi:IntKind.wrap .u64 (i:Int)=i:=by rw [IntKind.wrap_u64,Int.emod_eq_of_lt (by omega) (by omega)]
   generalize c.av=cv at *
   generalize c.empty=ce at *
   simp (disch:=first|assumption|omega) only [go_sem,hf,hlt',hld,hn0]
   refine hE.use ?_
   cases ce with
   | true=>
     have hst:fullN T (i+1)=fullN T i:=by rw [hst];simp
     simp (disch:=first|assumption|omega) only [go_sem,hf]
     refine ⟨i+1,by omega,by omega,q,?_,by rw [hst];simpa using hg⟩
     rw [hst]
     simp (disch:=first|assumption|omega) only [go_sem]
     all_goals simp
   | false=>
     have hst:fullN T (i+1)=fullN T i ++ [i]:=by rw [hst];simp
     simp (disch:=first|assumption|omega) only [go_sem,hf,hwi]
     refine appC_by hg rfl rfl (by rw [List.length_map];simp;omega) (by rw [List.length_map];simp;omega) fun q' s3 hg'=>?_
     simp (disch:=first|assumption|omega) only [go_sem,hf]
     refine ⟨i+1,by omega,by omega,q',?_,by rw [hst];simpa using hg'⟩
     rw [hst,List.map_append]
     simp (disch:=first|assumption|omega) only [go_sem]
     all_goals simp
  ·have hi32:i=32:=by omega
   subst hi32
   have hfl:=fullN_le T 32
   have hfr:=fullN_rises T 32 (Nat.le_refl _)
   have hfm:∀ j∈fullN T 32,j<32:=fun j hj=>fullN_lt hj
   have hrl:(natsI (fullN T 32)).length=(fullN T 32).length:=List.length_map _
   obtain ⟨σb,hWb,hdb,hbw,hbx⟩:=hW1.grown hg hwn
   have hpb:=hbx p _ hp
   generalize fullN T 32=F at *
   have hxs:(natsI F).map (AV.int .u64)=F.map fun (n:Nat)=>AV.int .u64 (n:Int):=natsI_u64 F
   have hxl:(F.map fun (n:Nat)=>AV.int .u64 (n:Int)).length=F.length:=List.length_map _
   have hxg:∀ (m j:Nat),F[m]? = some j->(F.map fun (n:Nat)=>AV.int .u64 (n:Int))[m]? = some (.int .u64 (j:Int)):=fun m j hm=>by rw [List.getElem?_map,hm];rfl
   have hrlen:(risingB (natsI F)).length<=400:=by
    unfold risingB
    have h1:=uintB_le (u:=((natsI F).length:Int)) (by omega)
    rw [Int.toNat_natCast] at h1
    have h2:=numsB_len (gaps (natsI F)) (fun x hx=>gaps_bd hfr x hx)
    rw [gaps_length] at h2
    rw [List.length_append]
    omega
   generalize (F.map fun (n:Nat)=>AV.int .u64 (n:Int))=xs at *
   simp (disch:=first|assumption|omega) only [go_sem,hf]
   refine ACalls.shr (args' := [.ptr w 0,u64sAV (natsI F)]) (by unfold u64sAV;rw [hxs];rfl) ?_
   refine (wrising_ok σb w (natsI F) _ _ hWb hfr (by omega) (by omega)).mono ?_
   rintro r σ3 ⟨rfl,hW3⟩
   generalize risingB (natsI F)=RB at *
   simp (disch:=first|assumption|omega) only [go_sem,hf]
   refine wp_loop_on (fun (i:Nat) a1 s2=>i<=F.length/\(a1 0 = .ptr p 0/\a1 5 = .ptr w 0/\a1 47 = .sl q xs/\a1 48 = .int .i64 F.length/\a1 49 = .int .i64 i)/\W σb w (uintB 3++RB++spB T (F.take i)) s2) (fun i=>F.length-i) 0 ⟨Nat.zero_le _,?_,?_⟩ ?_
   ·simp (disch:=first|assumption|omega) only [go_sem,hf,hxl]
   ·simpa [spB] using hW3
   rintro i a1 s2 ⟨hi,hf,hW2⟩
   have hsl:=spB_le hw (F.take i)
   rw [List.length_take] at hsl
   by_cases hlt:i<F.length
   ·have hlt':(i:Int)<F.length:=by omega
    obtain ⟨j,hj⟩:∃ j,F[i]? = some j:=⟨_,List.getElem?_eq_getElem hlt⟩
    have hx:=hxg i j hj
    have hj32:=hfm j (List.mem_of_getElem? hj)
    have hj32':(j:Int)<32:=by omega
    obtain ⟨c,hc⟩:∃ c,T[j]? = some c:=⟨_,List.getElem?_eq_getElem (by omega)⟩
    have hld:=(h.to (σ':=s2) ((W.at hW2 hpw hpb).trans hp.symm)).cell j c hc
    have hst:=spB_step (T:=T) hj
    rw [cellB_at hc] at hst
    have hput:=tput_ok σb w c (hw c (List.mem_of_getElem? hc)) _ _ hW2 (by rw [List.length_append,List.length_append];omega)
    have hn0:((j:Nat):Int).toNat=j:=rfl
    have hn1:((i:Nat):Int).toNat=i:=rfl
    generalize c.av=cv at *
    simp (disch:=first|assumption|omega) only [go_sem,hf,hlt',hx,hld,hn0,hn1]
    refine hput.mono ?_
    rintro r s3 ⟨rfl,hW4⟩
    simp (disch:=first|assumption|omega) only [go_sem,hf]
    refine ⟨i+1,by omega,by omega,?_,by rw [hst,← List.append_assoc];exact hW4⟩
    simp (disch:=first|assumption|omega) only [go_sem]
    all_goals simp
   ·have hlt':¬ (i:Int)<F.length:=by omega
    have hFt:F.take i=F:=List.take_of_length_le (by omega)
    rw [hFt] at hW2
    simp (disch:=first|assumption|omega) only [go_sem,hf,hlt']
    refine (wbytes_ok σb w _ _ hW2).mono ?_
    rintro r s3 ⟨rfl,rfl⟩
    simp (disch:=first|assumption|omega) only [go_sem]
    exact retC_by ((W.drop hW2 hbw).trans hdb) (.refl _) ⟨rfl,rfl⟩
 ·have hB:tileB T k=uintB k.toNat++wrT T k 32:=if_neg h3
  rw [hB]
  simp (disch:=first|assumption|omega) only [go_sem,h3]
  refine wp_loop_on (fun (i:Nat) a1 s2=>i<=32/\(a1 0 = .ptr p 0/\a1 1 = .int .i64 k/\a1 5 = .ptr w 0/\a1 16 = .int .i64 i)/\W σ w (uintB k.toNat++wrT T k i) s2) (fun i=>32-i) 0 ⟨Nat.zero_le _,?_,?_⟩ ?_
  ·simp (disch:=first|assumption|omega) only [go_sem]
  ·simpa [wrT] using hW1
  rintro i a1 s2 ⟨hi,hf,hW2⟩
  have hle:=wrT_le hw k i
  by_cases hlt:i<32
  ·have hlt':(i:Int)<32:=by omega
   have hP:=place_ok k i hlt
   have hj:=placeN_lt (k:=k) hlt
   obtain ⟨c,hc⟩:∃ c,T[placeN k i]? = some c:=⟨_,List.getElem?_eq_getElem (by omega)⟩
   have hld:=(h.to (σ':=s2) ((W.at hW2 hpw hp).trans hp.symm)).cell _ c hc
   have hst:=wrT_succ (T:=T) (k:=k) i
   rw [cellB_at hc] at hst
   have hput:=tput_ok σ w c (hw c (List.mem_of_getElem? hc)) _ _ hW2 (by rw [List.length_append];omega)
   generalize placeN k i=j at *
   have hj':(j:Int)<32:=by omega
   have hn0:((j:Nat):Int).toNat=j:=rfl
   generalize c.av=cv at *
   simp (disch:=first|assumption|omega) only [go_sem,hf,hlt']
   refine hP.use ?_
   simp (disch:=first|assumption|omega) only [go_sem,hf,hld,hn0]
   refine hput.mono ?_
   rintro r s3 ⟨rfl,hW4⟩
   simp (disch:=first|assumption|omega) only [go_sem,hf]
   refine ⟨i+1,by omega,by omega,?_,by rw [hst,← List.append_assoc];exact hW4⟩
   simp (disch:=first|assumption|omega) only [go_sem]
   all_goals simp
  ·have hi32:i=32:=by omega
   subst hi32
   have hlt':¬ ((32:Nat):Int)<32:=by omega
   simp (disch:=first|assumption|omega) only [go_sem,hf]
   refine (wbytes_ok σ w _ _ hW2).mono ?_
   rintro r s3 ⟨rfl,rfl⟩
   simp (disch:=first|assumption|omega) only [go_sem]
   exact retC_by (W.drop hW2 hwn) (.refl _) ⟨rfl,rfl⟩
end Go.A
namespace Go.A
open Go.Proofs
/-! 65: (*tabular/parse.parser).cur -/
/-! 66: (*tabular/parse.parser).fail -/
/-! 110: slices.Contains[[]string,string] -/
/-! 111: slices.Index[[]string,string] -/
/-! 160: (*tabular/parse.parser).at -/
/-! 162: (*tabular/parse.parser).enter -/
/-! 163: (*tabular/parse.parser).leave -/
/-! 201: (*tabular/parse.parser).accept -/
/-! 220: (*tabular/parse.parser).must -/
/-! 234: tabular/parse.ref -/
end Go.A
namespace Go.A
open Go.Proofs
/-! 64: (*tabular/parse.parser).between -/
end Go.A
namespace Go.A
open Go.Proofs
/-! 109: (*tabular/parse.parser).signed -/
/-! 161: (*tabular/parse.parser).hundred -/
end Go.A
namespace Go.A
open Go.Proofs
/-! 218: (*tabular/parse.parser).area -/
/-! 235: (*tabular/parse.parser).args -/
end Go.A
namespace Go.A
open Go.Proofs
/-! 219: (*tabular/parse.parser).name -/
end Go.A
namespace Go.A
open Go.Proofs
/-! 200: (*tabular/parse.parser).primary -/
end Go.A
namespace Go.A
open Go.Proofs
/-! 27: tabular/parse.Parse -/
end Go.A
namespace Go.A
open Go.Proofs
/-! 8: tabular/tabularlaw20.Cell -/
def c8_14:ACode := .seq (.ops [ oe 1 (.box (.t 0)),oe 2 (.alloc [(.int .i64 0),(.int .i64 0),(.str []),(.int .i64 0),(.int .i64 0),(.bool false),(.bool false),(.int .i64 0),(.int .i64 0),(.bool false),(.bool false),(.sl .full []),.nili])]) (.seq (.ops [ oq 7 (.fa 2 (.t 1)),oq 8 (.fa 2 (.t 7)),oq 9 (.ld none (.t 8)),oe 10 (.call 24 [(.t 9),(.v (.int .i64 60))]),oq 11 (.fa 2 (.t 1)),oq 12 (.fa 2 (.t 11)),oz (.store 1 (.t 12) (.t 10))]) (.seq (.ops [ oq 13 (.fa 2 (.t 1)),oq 14 (.ld (some 3) (.t 13)),oe 15 (.call 33 [(.t 14)]),oe 16 (.call 28 [(.t 15)]),oe 3 (.alloc [(.int .i64 0),(.int .i64 0),(.str []),(.int .i64 0),(.int .i64 0),(.bool false),(.bool false),(.int .i64 0),(.int .i64 0),(.bool false),(.bool false),(.sl .full []),.nili]),oz (.store 13 (.t 3) (.t 16))]) (.seq (.ops [ oq 18 (.fa 1 (.t 1)),oq 19 (.ld none (.t 18)),oe 20 (.call 24 [(.t 19),(.v (.int .i64 80))]),oe 21 (.call 27 [(.t 20)]),oq 17 (.mv (.t 21)),oq 22 (.ext 0 (.t 17)),oq 23 (.ext 1 (.t 17)),oq 24 (.ext 2 (.t 17)),oe 4 (.alloc [(.int .i64 0),(.int .i64 0),(.str []),(.int .i64 0),(.int .i64 0),(.bool false),(.bool false),(.int .i64 0),(.int .i64 0),(.bool false),(.bool false),(.sl .full [])]),oz (.store 12 (.t 4) (.t 22)),oq 5 (.mv (.t 23)),oq 6 (.mv (.t 24))]) (.seq (.seq (.ops [ oq 25 (.mv (.t 6)),oq 26 (.bin .eql (.t 25) (.v (.int .i64 0)))]) (.cond (.t 26) (.ops [ oq 27 (.ld (some 12) (.t 4)),oq 28 (.fa 0 (.t 3)),oz (.store 12 (.t 28) (.t 27))]) .skip)) (.seq (.ops [ oq 29 (.ld (some 13) (.t 3)),oz (.store 13 (.t 2) (.t 29))]) .ret)))))
def c8:AFn:=⟨30,[.c 2 (some 13)],c8_14⟩
/-! 28: tabular/tile.Plain -/
def c28_3:ACode := .seq (.ops [ oe 2 (.alloc [(.int .i64 0),(.int .i64 0),(.str []),(.int .i64 0),(.int .i64 0),(.bool false),(.bool false),(.int .i64 0),(.int .i64 0),(.bool false),(.bool false),(.sl .full []),.nili])]) (.seq (.ops [ oq 3 (.mv (.t 0)),oq 4 (.build [(.int .i64 0),(.int .i64 0),(.str []),(.int .i64 0),(.int .i64 0),(.bool false),(.bool false),(.int .i64 0),(.int .i64 0),(.bool false),(.bool false),(.sl .full []),.nili] [(12,1,(.t 3))]),oz (.store 13 (.t 2) (.t 4))]) .ret)
@[go_sem] def c28_3_wp:=wp_of c28_3.eq_1
def c28:AFn:=⟨5,[.c 2 (some 13)],c28_3⟩
theorem c28_ok:compF Tryz.prog Tryz.f28=some c28:=by kernel_rfl
theorem a28 {args:List AV} {σ:ASt} {R:AV->ASt->Prop} (hl:args.length<=5) (h:c28_3.wp Tryz.prog (RetQ [.c 2 (some 13)] R) (init args) σ):ACalls Tryz.prog 28 args σ R:=acalls_of Tryz.func28 c28_ok hl h
end Go.A
namespace Go.A
open Go.Proofs Go.Lib Go.Vint
theorem ACalls.soft {P:Program} {σ σ2:ASt} {f:FuncId} {args:List AV} {K:AV->ASt->Prop} (hd:SDrop σ σ2) (h:ACalls P f args σ2 K):ACalls P f args σ K:=by
 intro w vs hs hr
 refine (h w vs (hd.sim hs) (hr.mono (hd.le w))).mono ?_
 rintro e w' ⟨u,r,σ',he,hk,hle,hs',hr'⟩
 exact ⟨u,r,σ',he,hk,(hd.le w).trans hle,hs',hr'⟩
theorem pv_deep (v:PV):Go.A.deep v.av=v.av:=by cases v<;>simp only [PV.av,deep,deeps]
def zCells (v:AV):List AV := [.int .i64 0,.int .i64 0,.str [],.int .i64 0,.int .i64 0,.bool false,.bool false,.int .i64 0,.int .i64 0,.bool false,.bool false,.sl .full [],v]
theorem zCells_deep (v:AV):deeps (zCells v)=cellCs 0 0 [] .zero .zero [] (Go.A.deep v):=by
 simp only [zCells,deep,deeps]
 rfl
theorem zNd_av (v:PV):TC.av ⟨zNd,some v⟩ = .agg (cellCs 0 0 [] .zero .zero [] v.av):=rfl
theorem tplain_ok (v:PV):Pure Tryz.prog 28 [v.av] (TC.av ⟨zNd,some v⟩):=by
 intro σ
 have hr:TC.av ⟨zNd,some v⟩=Go.A.deep (.agg (zCells v.av)):=by
  rw [zNd_av,deep,zCells_deep,pv_deep]
 rw [hr]
 obtain ⟨t,x,hx⟩:=av_iface v
 rw [hx]
 refine a28 (by simp) ?_
 simp (disch:=first|assumption|omega) only [go_sem]
 refine allocC_by fun c hc=>?_
 simp (disch:=first|assumption|omega) only [go_sem]
 exact retC_by (Drop.set hc) (.deep _) ⟨rfl,rfl⟩
end Go.A
namespace Go.A
open Go.Proofs Go.Lib
def sgP (r:List UInt8):Option Nat:=sgF (r.length+1) r
end Go.A
namespace Go.A
open Go.Proofs Go.Lib
/-! Single steps. -/
/-! Words. -/
structure NameOk (w:List UInt8):Prop where
 word:∀ c∈w,wordB c=true
 name:nameB w=true
 num:numB w=false
 ref:refB w=false
 great:greatP w=w
/-! Numbers. -/
/-! References. -/
/-! Errors. -/
/-! Texts between quotes. -/
end Go.A
namespace Go.A
open Go.Proofs Go.Lib
inductive Nf:Nd->Prop
 | num {n:Int}:0<=n->n<=999999999999999999->Nf (.mk 1 n [] .zero .zero [])
 | text {s:List UInt8}:sgP s≠none->s.length<=8100->Nf (.mk 2 0 s .zero .zero [])
 | truth {b:Int}:b=0\/b=1->Nf (.mk 3 b [] .zero .zero [])
 | fail {k:Nat}:k<7->Nf (.mk 4 (((k:Int)+1)*10000) [] .zero .zero [])
 | cell {r:Ref}:r.good=true->Nf (.mk 5 0 [] r .zero [])
 | area {r q:Ref}:r.good=true->q.good=true->Nf (.mk 6 0 [] r q [])
 | sign {op:Int} {x:Nd}:op=7\/op=8->Nf x->x.op≠23->Nf (.mk op 0 [] .zero .zero [x])
 | hund {x:Nd}:Nf x->x.op≠23->Nf (.mk 9 0 [] .zero .zero [x])
 | bin {i:Nat} {x y:Nd}:i<12->Nf x->x.op≠23->Nf y->y.op≠23->Nf (.mk (10+(i:Int)) 0 [] .zero .zero [x,y])
 | call {s:List UInt8} {ks:List Nd}:NameOk s->s.length<=8100->(∀ k∈ks,Nf k)->(∀ k,ks = [k]->k.op≠23)->Nf (.mk 22 0 s .zero .zero ks)
 | miss:Nf (.mk 23 0 [] .zero .zero [])
end Go.A
namespace Go.A
open Go.Proofs Go.Lib
/-! Such texts' tokens. -/
end Go.A
namespace Go.A
open Go.Proofs Go.Lib
section
variable {T:List Tok}
variable (T)
variable {T}
/-! A kid,in brackets if it binds less closely. -/
/-! Leaves. -/
/-! Nodes with kids. -/
/-! Calls. -/
end
end Go.A
namespace Go.A
open Go.Proofs Go.Lib
/-! Great letters. -/
/-! What tokens hold. -/
/-! The parser's trees. -/
/-! Grown trees. -/
end Go.A
namespace Go.A
open Go.Proofs
/-! 3: tabular/tabularlaw20.TileTyped -/
/-! 10: tabular/tabularlaw20.awake -/
def c10_1:ACode := .ops [ oq 2 (.build [(.int .i64 0),(.int .i64 0),(.str []),(.int .i64 0),(.int .i64 0),(.bool false),(.bool false),(.int .i64 0),(.int .i64 0),(.bool false),(.bool false),(.sl .full []),.nili,(.int .i64 0),(.int .i64 0),(.str []),(.int .i64 0),(.int .i64 0),(.bool false),(.bool false),(.int .i64 0),(.int .i64 0),(.bool false),(.bool false),(.sl .full []),.nili,(.int .i64 0),(.int .i64 0),(.str []),(.int .i64 0),(.int .i64 0),(.bool false),(.bool false),(.int .i64 0),(.int .i64 0),(.bool false),(.bool false),(.sl .full []),.nili,(.int .i64 0),(.int .i64 0),(.str []),(.int .i64 0),(.int .i64 0),(.bool false),(.bool false),(.int .i64 0),(.int .i64 0),(.bool false),(.bool false),(.sl .full []),.nili,(.int .i64 0),(.int .i64 0),(.str []),(.int .i64 0),(.int .i64 0),(.bool false),(.bool false),(.int .i64 0),(.int .i64 0),(.bool false),(.bool false),(.sl .full []),.nili,(.int .i64 0),(.int .i64 0),(.str []),(.int .i64 0),(.int .i64 0),(.bool false),(.bool false),(.int .i64 0),(.int .i64 0),(.bool false),(.bool false),(.sl .full []),.nili,(.int .i64 0),(.int .i64 0),(.str []),(.int .i64 0),(.int .i64 0),(.bool false),(.bool false),(.int .i64 0),(.int .i64 0),(.bool false),(.bool false),(.sl .full []),.nili,(.int .i64 0),(.int .i64 0),(.str []),(.int .i64 0),(.int .i64 0),(.bool false),(.bool false),(.int .i64 0),(.int .i64 0),(.bool false),(.bool false),(.sl .full []),.nili,(.int .i64 0),(.int .i64 0),(.str []),(.int .i64 0),(.int .i64 0),(.bool false),(.bool false),(.int .i64 0),(.int .i64 0),(.bool false),(.bool false),(.sl .full []),.nili,(.int .i64 0),(.int .i64 0),(.str []),(.int .i64 0),(.int .i64 0),(.bool false),(.bool false),(.int .i64 0),(.int .i64 0),(.bool false),(.bool false),(.sl .full []),.nili,(.int .i64 0),(.int .i64 0),(.str []),(.int .i64 0),(.int .i64 0),(.bool false),(.bool false),(.int .i64 0),(.int .i64 0),(.bool false),(.bool false),(.sl .full []),.nili,(.int .i64 0),(.int .i64 0),(.str []),(.int .i64 0),(.int .i64 0),(.bool false),(.bool false),(.int .i64 0),(.int .i64 0),(.bool false),(.bool false),(.sl .full []),.nili,(.int .i64 0),(.int .i64 0),(.str []),(.int .i64 0),(.int .i64 0),(.bool false),(.bool false),(.int .i64 0),(.int .i64 0),(.bool false),(.bool false),(.sl .full []),.nili,(.int .i64 0),(.int .i64 0),(.str []),(.int .i64 0),(.int .i64 0),(.bool false),(.bool false),(.int .i64 0),(.int .i64 0),(.bool false),(.bool false),(.sl .full []),.nili,(.int .i64 0),(.int .i64 0),(.str []),(.int .i64 0),(.int .i64 0),(.bool false),(.bool false),(.int .i64 0),(.int .i64 0),(.bool false),(.bool false),(.sl .full []),.nili,(.int .i64 0),(.int .i64 0),(.str []),(.int .i64 0),(.int .i64 0),(.bool false),(.bool false),(.int .i64 0),(.int .i64 0),(.bool false),(.bool false),(.sl .full []),.nili,(.int .i64 0),(.int .i64 0),(.str []),(.int .i64 0),(.int .i64 0),(.bool false),(.bool false),(.int .i64 0),(.int .i64 0),(.bool false),(.bool false),(.sl .full []),.nili,(.int .i64 0),(.int .i64 0),(.str []),(.int .i64 0),(.int .i64 0),(.bool false),(.bool false),(.int .i64 0),(.int .i64 0),(.bool false),(.bool false),(.sl .full []),.nili,(.int .i64 0),(.int .i64 0),(.str []),(.int .i64 0),(.int .i64 0),(.bool false),(.bool false),(.int .i64 0),(.int .i64 0),(.bool false),(.bool false),(.sl .full []),.nili,(.int .i64 0),(.int .i64 0),(.str []),(.int .i64 0),(.int .i64 0),(.bool false),(.bool false),(.int .i64 0),(.int .i64 0),(.bool false),(.bool false),(.sl .full []),.nili,(.int .i64 0),(.int .i64 0),(.str []),(.int .i64 0),(.int .i64 0),(.bool false),(.bool false),(.int .i64 0),(.int .i64 0),(.bool false),(.bool false),(.sl .full []),.nili,(.int .i64 0),(.int .i64 0),(.str []),(.int .i64 0),(.int .i64 0),(.bool false),(.bool false),(.int .i64 0),(.int .i64 0),(.bool false),(.bool false),(.sl .full []),.nili,(.int .i64 0),(.int .i64 0),(.str []),(.int .i64 0),(.int .i64 0),(.bool false),(.bool false),(.int .i64 0),(.int .i64 0),(.bool false),(.bool false),(.sl .full []),.nili,(.int .i64 0),(.int .i64 0),(.str []),(.int .i64 0),(.int .i64 0),(.bool false),(.bool false),(.int .i64 0),(.int .i64 0),(.bool false),(.bool false),(.sl .full []),.nili,(.int .i64 0),(.int .i64 0),(.str []),(.int .i64 0),(.int .i64 0),(.bool false),(.bool false),(.int .i64 0),(.int .i64 0),(.bool false),(.bool false),(.sl .full []),.nili,(.int .i64 0),(.int .i64 0),(.str []),(.int .i64 0),(.int .i64 0),(.bool false),(.bool false),(.int .i64 0),(.int .i64 0),(.bool false),(.bool false),(.sl .full []),.nili,(.int .i64 0),(.int .i64 0),(.str []),(.int .i64 0),(.int .i64 0),(.bool false),(.bool false),(.int .i64 0),(.int .i64 0),(.bool false),(.bool false),(.sl .full []),.nili,(.int .i64 0),(.int .i64 0),(.str []),(.int .i64 0),(.int .i64 0),(.bool false),(.bool false),(.int .i64 0),(.int .i64 0),(.bool false),(.bool false),(.sl .full []),.nili,(.int .i64 0),(.int .i64 0),(.str []),(.int .i64 0),(.int .i64 0),(.bool false),(.bool false),(.int .i64 0),(.int .i64 0),(.bool false),(.bool false),(.sl .full []),.nili,(.int .i64 0),(.int .i64 0),(.str []),(.int .i64 0),(.int .i64 0),(.bool false),(.bool false),(.int .i64 0),(.int .i64 0),(.bool false),(.bool false),(.sl .full []),.nili,(.int .i64 0),(.int .i64 0),(.str []),(.int .i64 0),(.int .i64 0),(.bool false),(.bool false),(.int .i64 0),(.int .i64 0),(.bool false),(.bool false),(.sl .full []),.nili,(.int .i64 0),(.int .i64 0),(.str []),(.int .i64 0),(.int .i64 0),(.bool false),(.bool false),(.int .i64 0),(.int .i64 0),(.bool false),(.bool false),(.sl .full []),.nili] []),oe 3 (.box (.t 2)),oq 1 (.mv (.t 3))]
def c10_6:ACode := .seq c10_1 (.seq (.ops [ oq 4 (.mv (.t 1)),oq 5 (.build [(.int .i64 0),(.int .i64 0),(.str [])] [(0,1,(.v (.int .i64 1))),(1,1,(.v (.int .i64 10000)))]),oq 8 (.nc (.t 4)),oe 6 (.call 33 [(.t 5)]),oe 7 (.call 28 [(.t 6)]),oq 9 (.iaa 32 13 (.t 8) (.v (.int .i64 5))),oz (.store 13 (.t 9) (.t 7))]) (.seq (.ops [ oq 10 (.mv (.t 1)),oe 11 (.call 20 [(.t 10),(.v (.int .i64 3))]),oq 12 (.bin .eql (.t 11) (.v (.str [3,1,5,1,1,160,156,1]))),oq 13 (.mv (.t 12)),⟨some 14,some (13,true),.q (.mv (.t 1)),[]⟩,⟨some 15,some (13,true),.e (.call 14 [(.t 14)]),[]⟩,⟨some 16,some (13,true),.q (.bin .eql (.t 15) (.v (.int .i64 1))),[]⟩,oq 17 (.pick (.t 13) (.t 16) (.v (.bool false))),oq 18 (.mv (.t 17)),⟨some 19,some (18,true),.q (.mv (.t 1)),[]⟩,⟨some 20,some (18,true),.e (.call 16 [(.t 19),(.v (.int .i64 0))]),[]⟩,⟨some 21,some (18,true),.q (.bin .eql (.t 20) (.v (.int .i64 3))),[]⟩,oq 22 (.pick (.t 18) (.t 21) (.v (.bool false))),oq 23 (.mv (.t 22)),⟨some 24,some (23,true),.q (.mv (.t 1)),[]⟩,⟨some 25,some (23,true),.q (.nc (.t 24)),[]⟩,⟨some 26,some (23,true),.q (.iaa 32 13 (.t 25) (.v (.int .i64 5))),[]⟩,⟨some 27,some (23,true),.q (.ld (some 13) (.t 26)),[]⟩,⟨some 28,some (23,true),.e (.call 9 [(.t 27)]),[]⟩,⟨some 29,some (23,true),.q (.bin .eql (.t 28) (.v (.str [49]))),[]⟩,oq 30 (.pick (.t 23) (.t 29) (.v (.bool false))),oq 0 (.mv (.t 30))]) .ret))
def c10_7:ACode := .seq (.ops [ oq 0 (.mv (.v (.bool false)))]) c10_6
def c10:AFn:=⟨31,[.t 0],c10_7⟩
theorem c10_ok:compF Tryz.prog Tryz.f10=some c10:=by kernel_rfl
theorem a10 {args:List AV} {σ:ASt} {R:AV->ASt->Prop} (hl:args.length<=31) (h:c10_7.wp Tryz.prog (RetQ [.t 0] R) (init args) σ):ACalls Tryz.prog 10 args σ R:=acalls_of Tryz.func10 c10_ok hl h
end Go.A
namespace Go.A
open Go.Proofs Go.Lib Go.Vint
def TC.cs (c:TC):List AV:=cellCs c.t.op (match c.t with | .mk _ n _ _ _ _=>n) (match c.t with | .mk _ _ s _ _ _=>s) (match c.t with | .mk _ _ _ a _ _=>a) (match c.t with | .mk _ _ _ _ b _=>b) (c.t.kids.map Nd.av) (voAV c.v)
theorem TC.av_cs (c:TC):c.av = .agg c.cs:=by obtain ⟨⟨op,n,s,a,b,ks⟩,v⟩:=c;rfl
theorem TC.cs_len (c:TC):c.cs.length=13:=rfl
def tileCs (T:List TC):List AV:=T.flatMap TC.cs
theorem tileCs_len (T:List TC):(tileCs T).length=T.length*13:=by
 induction T with
 | nil=>rfl
 | cons c T ih=>
   unfold tileCs at ih ⊢
   rw [List.flatMap_cons,List.length_append,ih,TC.cs_len,List.length_cons]
   omega
theorem tileCs_at {T:List TC}:∀ {i:Nat} {c:TC},T[i]? = some c->((tileCs T).drop (i*13)).take 13=c.cs:=by
 induction T with
 | nil=>intro i c h;simp at h
 | cons d T ih=>
   intro i c h
   have hl:=TC.cs_len d
   unfold tileCs at ih ⊢
   rw [List.flatMap_cons]
   cases i with
   | zero=>
     simp only [List.getElem?_cons_zero,Option.some.injEq] at h
     subst h
     rw [Nat.zero_mul,List.drop_zero,← hl,List.take_left]
   | succ i=>
     rw [List.getElem?_cons_succ] at h
     rw [show (i+1)*13=d.cs.length+i*13 by rw [hl];omega,List.drop_append]
     have e1:d.cs.drop (d.cs.length+i*13) = []:=List.drop_eq_nil_of_le (by omega)
     rw [e1,List.nil_append,Nat.add_sub_cancel_left]
     exact ih h
theorem TileAt.of {T:List TC} {p:Nat} {σ:ASt} (hl:T.length=32) (h:σ p=some (.obj (tileCs T))):TileAt T p σ:=by
 refine ⟨hl,⟨_,h⟩,fun i c hc=>?_⟩
 obtain ⟨hi,_⟩:=List.getElem?_eq_some_iff.1 hc
 have hn:=tileCs_len T
 rw [h]
 show (if i*13+13<=(tileCs T).length then some (AV.agg (((tileCs T).drop (i*13)).take 13)) else none)=_
 rw [if_pos (by omega),tileCs_at hc,TC.av_cs]
def zTC:TC:=⟨zNd,none⟩
def oneTC:TC:=⟨zNd,some (.num 10000)⟩
def oneT:List TC:=List.replicate 5 zTC ++ [oneTC]++List.replicate 26 zTC
def z416:List AV:=(List.replicate 32 (zCells .nili)).flatten
theorem z416_len:z416.length=416:=by decide +kernel
theorem soft416:deeps (z416.take 65++oneTC.cs++z416.drop 78)=tileCs oneT:=by rfl
theorem oneT_len:oneT.length=32:=by decide
theorem oneT_fine:∀ c∈oneT,c.wfine:=by
 intro c hc
 have h:c=zTC\/c=oneTC:=by
  unfold oneT at hc
  simp only [List.mem_append,List.mem_replicate,List.mem_singleton] at hc
  rcases hc with (⟨_,h⟩|h)|⟨_,h⟩
  ·exact .inl h
  ·exact .inr h
  ·exact .inl h
 rcases h with rfl|rfl
 ·exact ⟨fun h=>(by cases h),fun h=>(by cases h),trivial,fun t h=>(by cases h)⟩
 ·exact ⟨fun h=>(by cases h),fun h=>(by cases h),(show (10000:Int).natAbs<=999999999999999999 by decide),fun t h=>(by cases h)⟩
theorem oneT_count:countT oneT=1:=by decide
theorem oneT_full:fullN oneT 32 = [5]:=by decide
theorem oneT_bytes:tileB oneT 3 = [3,1,5,1,1,160,156,1]:=by
 have e:tileB oneT 3=uintB 3++risingB (natsI (fullN oneT 32))++spB oneT (fullN oneT 32):=if_pos rfl
 have b1:uintB 1 = [1]:=by rw [uintB_small (by decide)];rfl
 have b3:uintB 3 = [3]:=by rw [uintB_small (by decide)];rfl
 have b5:uintB 5 = [5]:=by rw [uintB_small (by decide)];rfl
 have bn:uintB 20000 = [160,156,1]:=by
  rw [uintB_big (by decide),uintB_big (by decide),uintB_small (by decide)]
  rfl
 have r:risingB (natsI [5])=uintB 1++uintB 5:=by
  have:risingB (natsI [5])=uintB 1++(uintB 5 ++ []):=rfl
  rw [this,List.append_nil]
 have s:spB oneT [5]=uintB 1++(uintB 1++uintB 20000):=by
  have:spB oneT [5]=(uintB 1++(uintB 1++uintB 20000)) ++ []:=rfl
  rw [this,List.append_nil]
 rw [e,oneT_full,r,s,b1,b3,b5,bn]
 rfl
theorem oneT_text:oneTC.text = [49]:=by decide +kernel
theorem one_fine:oneTC.fine:=⟨fun h=>(by cases h),fun h=>(by cases h),(show (10000:Int).natAbs<=999999999999999999 by decide),trivial,by decide +kernel⟩
theorem av20:ofP ⟨1,10000,[]⟩ = .num 10000:=by decide +kernel
theorem aw20_c1:c10_1 = .ops [⟨some 2,none,.q (.build z416 []),[]⟩,⟨some 3,none,.e (.box (.t 2)),[]⟩,⟨some 1,none,.q (.mv (.t 3)),[]⟩]:=by rfl
theorem tlawake_ok {σ:ASt} (hT:Tab σ) (hM:MaxL σ) (hU:U8 σ):ACalls Tryz.prog 10 [] σ fun v σ'=>v = .bool true/\σ'=σ:=by
 have hO:=fun (τ:ASt) (h:U8 τ)=>of_ok h ⟨1,10000,[]⟩ (by decide)
 rw [av20] at hO
 unfold plAV at hO
 dsimp only at hO
 have hP:=tplain_ok (.num 10000)
 have hPe:TC.av ⟨zNd,some (.num 10000)⟩ = .agg oneTC.cs:=rfl
 rw [hPe] at hP
 have hX:=fun (τ:ASt) (h:Tab τ) (h2:MaxL τ)=>tcText_ok h h2 oneTC one_fine
 rw [oneT_text,TC.av_cs] at hX
 have hW:=fun (τ:ASt) (p:Nat) (h:TileAt oneT p τ)=>twrite_ok h oneT_fine 3 (by decide)
 rw [oneT_bytes] at hW
 have hC:=fun (τ:ASt) (p:Nat) (h:TileAt oneT p τ)=>tcount_ok h
 rw [oneT_count] at hC
 have hC:∀ (τ:ASt) (p:Nat),TileAt oneT p τ->ACalls Tryz.prog 14 [.ptr p 0] τ fun v σ'=>v = .int .i64 1/\σ'=τ:=hC
 have hlv:leaves oneTC.cs=true:=by rfl
 have hL:=fun (τ:ASt) (p:Nat) (h:TileAt oneT p τ)=>tlayout_ok h 0
 have hL0:layT oneT 0=3:=by decide
 rw [hL0] at hL
 have hl1:=TC.cs_len oneTC
 have hl2:=z416_len
 have hs:=soft416
 have hld:∀ (τ:ASt) (p:Nat),TileAt oneT p τ->objC 65 (some 13) (kn (τ p))=some (.agg oneTC.cs):=fun τ p h=>h.cell 5 oneTC rfl
 generalize hOC:oneTC.cs=OC at *
 generalize hPV:(PV.num 10000).av=va at *
 refine a10 (by simp) ?_
 rw [c10_7.eq_1,c10_6.eq_1,aw20_c1]
 generalize z416=Z at *
 simp (disch:=first|assumption|omega) only [go_sem]
 refine boxC_by rfl fun c1 h1=>?_
 simp (disch:=first|assumption|omega) only [go_sem]
 refine (hO _ (U8.set hU h1)).mono ?_
 rintro v σ1 ⟨rfl,rfl⟩
 simp (disch:=first|assumption|omega) only [go_sem]
 refine hP.use ?_
 simp (disch:=first|assumption|omega) only [go_sem,hl1,hl2]
 refine ⟨hlv,?_⟩
 have hd:=SDrop.soft (σ:=σ.set c1 (some (.obj (Z.take 65++OC++Z.drop 78)))) (b:=c1) (ASt.set_same _ _ _)
 rw [ASt.set_set,hs] at hd
 have hTA:=TileAt.of (σ:=σ.set c1 (some (.obj (tileCs oneT)))) oneT_len (ASt.set_same _ _ _)
 have T2:=Tab.set (r:=some (.obj (tileCs oneT))) hT h1
 have M2:=MaxL.set (r:=some (.obj (tileCs oneT))) hM h1
 have dd:=Drop.set (r:=some (.obj (tileCs oneT))) h1
 refine ACalls.soft hd ?_
 clear hd
 generalize σ.set c1 (some (.obj (tileCs oneT)))=σ2 at *
 have hld:=hld _ _ hTA
 refine (hW _ _ hTA).mono ?_
 rintro r σ3 ⟨rfl,rfl⟩
 simp (disch:=first|assumption|omega) only [go_sem]
 refine (hC _ _ hTA).mono ?_
 rintro r σ3 ⟨rfl,rfl⟩
 simp (disch:=first|assumption|omega) only [go_sem]
 refine (hL _ _ hTA).mono ?_
 rintro r σ3 ⟨rfl,rfl⟩
 simp (disch:=first|assumption|omega) only [go_sem,hld]
 refine (hX _ T2 M2).mono ?_
 rintro r σ3 ⟨rfl,rfl⟩
 simp (disch:=first|assumption|omega) only [go_sem]
 exact retC_by dd (.refl _) ⟨rfl,rfl⟩
end Go.A
namespace Go.A
open Go.Proofs
/-! 51: tabular/tabularref12.Same -/
/-! 78: tabular/tabularlaw12.Told -/
end Go.A
namespace Go.A
open Go.Proofs
/-! 19: tabular/tabularref20.Empty -/
/-! 37: tabular/tabularlaw20.Told -/
end Go.A
namespace Go.A
open Go.Proofs
/-! 15: tabular/tabularref20.Count -/
/-! 17: tabular/tabularref20.Layout -/
end Go.A
namespace Go.A
open Go.Proofs
/-! 45: tabular/tabularref02.Uint -/
/-! 48: tabular/tabularref02.Rising -/
/-! 143: tabular/tabularref02.Fold -/
/-! 144: tabular/tabularref02.Text -/
end Go.A
namespace Go.A
open Go.Proofs
/-! 90: tabular/tabularref12.Write -/
/-! 145: tabular/tabularref12.ref -/
end Go.A
namespace Go.A
open Go.Proofs
/-! 47: tabular/tabularref20.put -/
/-! 91: tabular/tabularref15.Put -/
end Go.A
namespace Go.A
open Go.Proofs
/-! 21: tabular/tabularref20.Write -/
/-! 46: tabular/tabularref20.order -/
end Go.A
namespace Go.A
open Go.Proofs
/-! 133: tabular/tabularref10.Letters -/
/-! 138: tabular/tabularref10.Great -/
/-! 182: tabular/tabularref10.Next -/
end Go.A
namespace Go.A
open Go.Proofs
/-! 131: tabular/tabularref01.Digits -/
end Go.A
namespace Go.A
open Go.Proofs
/-! 83: tabular/tabularref10.Text -/
end Go.A
namespace Go.A
open Go.Proofs
/-! 80: tabular/tabularref01.Text -/
/-! 132: tabular/tabularref01.Size -/
/-! 136: tabular/tabularref01.Parse -/
/-! 183: tabular/tabularref01.Value -/
/-! 184: tabular/tabularref01.Strip -/
end Go.A
namespace Go.A
open Go.Proofs
/-! 38: tabular/tabularref12.Print -/
/-! 81: tabular/tabularref11.Quote -/
/-! 82: tabular/tabularref11.Errors -/
/-! 84: tabular/tabularref12.inside -/
/-! 85: tabular/tabularref12.Level -/
end Go.A
namespace Go.A
open Go.Proofs
/-! 88: tabular/tabularref15.Show -/
/-! 141: tabular/tabularref15.AsText -/
end Go.A
namespace Go.A
open Go.Proofs
/-! 18: tabular/tabularref20.Text -/
/-! 39: tabular/tabularref15.Typed -/
/-! 87: tabular/tabularref15.Input -/
/-! 135: tabular/tabularref15.Trim -/
end Go.A
namespace Go.A
open Go.Proofs
/-! 13: tabular/tabularlaw20.Grow -/
/-! 22: tabular/tile.Same -/
/-! 23: tabular/tabularref20.Same -/
end Go.A
namespace Go.A
open Go.Proofs Go.Lib Go.Vint
theorem flat_len {α:Type} {f:α->List AV} {s:Nat} (hf:∀ x,(f x).length=s) (T:List α):(T.flatMap f).length=T.length*s:=by
 induction T with
 | nil=>simp
 | cons c T ih=>rw [List.flatMap_cons,List.length_append,ih,hf,List.length_cons,Nat.succ_mul,Nat.add_comm]
theorem flat_set {α:Type} {f:α->List AV} {s:Nat} (hf:∀ x,(f x).length=s) (c:α):∀ (T:List α) (i:Nat),i<T.length->(T.flatMap f).take (i*s)++f c++(T.flatMap f).drop (i*s+s)=(T.set i c).flatMap f
 | [],i,h=>by simp at h
 | x::T,0,_=>by
   rw [List.set_cons_zero,List.flatMap_cons,List.flatMap_cons,Nat.zero_mul,List.take_zero,Nat.zero_add,List.nil_append]
   congr 1
   rw [<-hf x,List.drop_left]
 | x::T,i+1,h=>by
   have ih:=flat_set hf c T i (by simpa using h)
   have hx:=hf x
   rw [List.set_cons_succ,List.flatMap_cons,List.flatMap_cons,← ih,Nat.succ_mul]
   have e1:(f x++T.flatMap f).take (i*s+s)=f x++(T.flatMap f).take (i*s):=by
    rw [show i*s+s=(f x).length+i*s by rw [hx];omega,List.take_length_add_append]
   have e2:(f x++T.flatMap f).drop (i*s+s+s)=(T.flatMap f).drop (i*s+s):=by
    rw [show i*s+s+s=(f x).length+(i*s+s) by rw [hx];omega,List.drop_length_add_append]
   rw [e1,e2]
   simp only [List.append_assoc]
theorem TC.cs_leaf (c:TC):leaves c.cs=true:=by
 obtain ⟨⟨op,n,s,a,b,ks⟩,v⟩:=c
 cases v with
 | none=>rfl
 | some v=>cases v<;>rfl
theorem soft416z:deeps z416=tileCs (List.replicate 32 zTC):=by rfl
end Go.A
namespace Go.A
open Go.Proofs
/-! 4: tabular/tabularlaw20.TileWrites -/
def c4_20:ACode := .seq (.seq (.ops [ oq 81 (.mv (.t 9)),oq 82 (.bin .lss (.t 81) (.v (.int .i64 4)))]) (.cond (.t 82) .skip (.exit 0))) (.seq (.block 1 (.seq (.ops [ oq 85 (.mv (.t 7)),oq 86 (.mv (.t 9)),oe 87 (.call 20 [(.t 85),(.t 86)]),oq 88 (.mv (.t 8)),oq 89 (.mv (.t 9)),oe 90 (.call 21 [(.t 88),(.t 89)]),oq 91 (.bin .neq (.t 87) (.t 90))]) (.cond (.t 91) (.seq (.ops [ oq 6 (.mv (.v (.bool false)))]) .ret) .skip))) (.ops [ oq 83 (.mv (.t 9)),oq 84 (.bin .add (.t 83) (.v (.int .i64 1))),oq 9 (.mv (.t 84))]))
def c4_27:ACode := .seq (.seq (.ops [ oe 19 (.call 10 []),oq 20 (.un .not (.t 19)),oq 21 (.mv (.t 20)),⟨some 22,some (21,false),.q (.mv (.t 7)),[]⟩,⟨some 24,some (21,false),.q (.mv (.t 8)),[]⟩,⟨some 23,some (21,false),.e (.call 14 [(.t 22)]),[]⟩,⟨some 25,some (21,false),.e (.call 15 [(.t 24)]),[]⟩,⟨some 26,some (21,false),.q (.bin .neq (.t 23) (.t 25)),[]⟩,oq 27 (.pick (.t 21) (.v (.bool true)) (.t 26)),oq 28 (.mv (.t 27)),⟨some 29,some (28,false),.q (.mv (.t 7)),[]⟩,⟨some 30,some (28,false),.q (.mv (.t 1)),[]⟩,⟨some 32,some (28,false),.q (.mv (.t 8)),[]⟩,⟨some 33,some (28,false),.q (.mv (.t 1)),[]⟩,⟨some 31,some (28,false),.e (.call 16 [(.t 29),(.t 30)]),[]⟩,⟨some 34,some (28,false),.e (.call 17 [(.t 32),(.t 33)]),[]⟩,⟨some 35,some (28,false),.q (.bin .neq (.t 31) (.t 34)),[]⟩,oq 36 (.pick (.t 28) (.v (.bool true)) (.t 35)),oq 37 (.mv (.t 36)),⟨some 38,some (37,false),.q (.mv (.t 7)),[]⟩,⟨some 39,some (37,false),.q (.mv (.t 2)),[]⟩,⟨some 40,some (37,false),.q (.nc (.t 38)),[]⟩,⟨some 41,some (37,false),.q (.iaa 32 13 (.t 40) (.t 39)),[]⟩,⟨some 42,some (37,false),.q (.ld (some 13) (.t 41)),[]⟩,⟨some 44,some (37,false),.q (.mv (.t 8)),[]⟩,⟨some 45,some (37,false),.q (.mv (.t 2)),[]⟩,⟨some 46,some (37,false),.q (.ia 15 (.t 44) (.t 45)),[]⟩,⟨some 47,some (37,false),.q (.ld (some 15) (.t 46)),[]⟩,⟨some 43,some (37,false),.e (.call 9 [(.t 42)]),[⟨(some (37,false)),.ld (some 15) (.t 46),47⟩]⟩,⟨some 48,some (37,false),.e (.call 18 [(.t 47)]),[]⟩,⟨some 49,some (37,false),.q (.bin .neq (.t 43) (.t 48)),[]⟩,oq 50 (.pick (.t 37) (.v (.bool true)) (.t 49)),oq 51 (.mv (.t 50)),⟨some 52,some (51,false),.q (.mv (.t 7)),[]⟩,⟨some 53,some (51,false),.q (.mv (.t 2)),[]⟩,⟨some 54,some (51,false),.q (.nc (.t 52)),[]⟩,⟨some 55,some (51,false),.q (.iaa 32 13 (.t 54) (.t 53)),[]⟩,⟨some 56,some (51,false),.q (.ld (some 13) (.t 55)),[]⟩,⟨some 58,some (51,false),.q (.mv (.t 8)),[]⟩,⟨some 59,some (51,false),.q (.mv (.t 2)),[]⟩,⟨some 60,some (51,false),.q (.ia 15 (.t 58) (.t 59)),[]⟩,⟨some 61,some (51,false),.q (.ld (some 15) (.t 60)),[]⟩,⟨some 57,some (51,false),.e (.call 12 [(.t 56)]),[⟨(some (51,false)),.ld (some 15) (.t 60),61⟩]⟩,⟨some 62,some (51,false),.e (.call 19 [(.t 61)]),[]⟩,⟨some 63,some (51,false),.q (.eq .b true (.t 57) (.t 62)),[]⟩,oq 64 (.pick (.t 51) (.v (.bool true)) (.t 63)),oq 65 (.mv (.t 64)),⟨some 66,some (65,false),.q (.mv (.t 7)),[]⟩,⟨some 67,some (65,false),.q (.mv (.t 2)),[]⟩,⟨some 68,some (65,false),.q (.nc (.t 66)),[]⟩,⟨some 69,some (65,false),.q (.iaa 32 13 (.t 68) (.t 67)),[]⟩,⟨some 70,some (65,false),.q (.ld (some 13) (.t 69)),[]⟩,⟨some 72,some (65,false),.q (.mv (.t 8)),[]⟩,⟨some 73,some (65,false),.q (.mv (.t 2)),[]⟩,⟨some 74,some (65,false),.q (.ia 15 (.t 72) (.t 73)),[]⟩,⟨some 75,some (65,false),.q (.fa 0 (.t 74)),[]⟩,⟨some 76,some (65,false),.q (.fa 0 (.t 75)),[]⟩,⟨some 77,some (65,false),.q (.ld none (.t 76)),[]⟩,⟨some 78,some (65,false),.q (.bin .gtr (.t 77) (.v (.int .i64 0))),[]⟩,⟨some 71,some (65,false),.e (.call 11 [(.t 70)]),[⟨(some (65,false)),.ld none (.t 76),77⟩]⟩,⟨some 79,some (65,false),.q (.eq .b true (.t 71) (.t 78)),[]⟩,oq 80 (.pick (.t 65) (.v (.bool true)) (.t 79))]) (.cond (.t 80) (.seq (.ops [ oq 6 (.mv (.v (.bool false)))]) .ret) .skip)) (.seq (.seq (.ops [ oq 9 (.mv (.v (.int .i64 1)))]) (.block 0 (.loop c4_20))) (.seq (.ops [ oq 92 (.mv (.t 7)),oq 93 (.mv (.t 2)),oq 94 (.nc (.t 92)),oq 95 (.iaa 32 13 (.t 94) (.t 93)),oq 96 (.ld (some 13) (.t 95)),oq 97 (.mv (.t 7)),oq 98 (.nc (.t 97)),oq 99 (.iaa 32 13 (.t 98) (.v (.int .i64 0))),oq 100 (.ld (some 13) (.t 99)),oq 102 (.mv (.t 8)),oq 103 (.mv (.t 2)),oq 104 (.ia 15 (.t 102) (.t 103)),oq 105 (.ld (some 15) (.t 104)),oq 106 (.mv (.t 8)),oq 107 (.ia 15 (.t 106) (.v (.int .i64 0))),oq 108 (.ld (some 15) (.t 107)),⟨some 101,none,.e (.call 22 [(.t 96),(.t 100)]),[⟨none,.ld (some 15) (.t 104),105⟩,⟨none,.ld (some 15) (.t 107),108⟩]⟩,oe 109 (.call 23 [(.t 105),(.t 108)]),oq 110 (.eq .b false (.t 101) (.t 109)),oq 6 (.mv (.t 110))]) .ret))
def c4_30:ACode := .seq (.ops [ oq 6 (.mv (.v (.bool false)))]) (.seq (.ops [ oq 11 (.mv (.t 0)),oe 12 (.call 13 [(.t 11)]),oq 10 (.mv (.t 12)),oq 13 (.ext 0 (.t 10)),oq 14 (.ext 1 (.t 10)),oq 7 (.mv (.t 13)),oq 8 (.mv (.t 14))]) (.seq (.ops [ oq 15 (.mv (.t 2)),oq 16 (.bin .rem (.t 15) (.v (.int .i64 32))),oq 17 (.bin .add (.t 16) (.v (.int .i64 32))),oq 18 (.bin .rem (.t 17) (.v (.int .i64 32))),oq 2 (.mv (.t 18))]) c4_27))
def c4:AFn:=⟨111,[.t 6],c4_30⟩
end Go.A
namespace Go.A
open Go.Proofs Go.Lib Go.Vint
structure TC.made (c:TC):Prop where
 fine:c.fine
 wf:c.wfine
 size:c.t.size<=5000
 op:0<=c.t.op
 nf:c.isF=true->Nf c.t/\0<c.t.op
theorem zTC_made:zTC.made:=by
 refine ⟨⟨fun h=>(by cases h),fun h=>(by cases h),trivial,trivial,by decide +kernel⟩,⟨fun h=>(by cases h),fun h=>(by cases h),trivial,fun t h=>(by cases h)⟩,by decide,by decide,fun h=>(by cases h)⟩
end Go.A
namespace Go.A
open Go.Proofs Go.Lib Go.Vint
def eqPl (a:Pl) (k y:Int) (z:List UInt8):Bool:=decide (a.kind=k) && (decide (a.n=y) && decide (a.s=z))
def endV (k y:Int) (z:List UInt8) (p:Nat):PV×Int×Nat:=if eqPl (plOf (ofP ⟨k,y,z⟩)) k y z=true then (ofP ⟨k,y,z⟩,0,p) else (.blank,3,p)
def getV (s:List UInt8) (p:Nat):PV×Int×Nat:=
 if (readU s p 0).2.2≠0 then (.blank,(readU s p 0).2.2,(readU s p 0).2.1)
 else if min (readU s p 0).1 9=1\/min (readU s p 0).1 9=3\/min (readU s p 0).1 9=4 then
  if (readU s (readU s p 0).2.1 0).2.2≠0 then (.blank,(readU s (readU s p 0).2.1 0).2.2,(readU s (readU s p 0).2.1 0).2.1)
  else endV ((min (readU s p 0).1 9:Nat):Int) (unfI (readU s (readU s p 0).2.1 0).1) [] (readU s (readU s p 0).2.1 0).2.1
 else if min (readU s p 0).1 9=2 then
  if (rtxP s (readU s p 0).2.1 0 2000).2.2≠0 then (.blank,(rtxP s (readU s p 0).2.1 0 2000).2.2,(rtxP s (readU s p 0).2.1 0 2000).2.1)
  else endV 2 0 (rtxP s (readU s p 0).2.1 0 2000).1 (rtxP s (readU s p 0).2.1 0 2000).2.1
 else endV ((min (readU s p 0).1 9:Nat):Int) 0 [] (readU s p 0).2.1
def GotV (s:List UInt8) (b:Nat) (σ:ASt) (G:PV×Int×Nat) (v:AV) (σ':ASt):Prop:=v = .tuple [G.1.av,.int .i64 G.2.1]/\∃ P E,σ'=σ.set b (rd s P E)/\(G.2.1=0->P=G.2.2/\E=0)
set_option maxHeartbeats 2000000 in
theorem vgetR_ok {σ:ASt} (hU:U8 σ) (s:List UInt8) (p b:Nat) (hb:σ b=rd s p 0) (hs:s.length<=10000000) (hp:p<=s.length) :
  ACalls Tryz.prog 72 [.ptr b 0] σ (GotV s b σ (getV s p)):=by
 obtain ⟨G,hG⟩:∃ G,getV s p=G:=⟨_,rfl⟩
 rw [hG]
 unfold getV at hG
 obtain ⟨f1,f2,f3,f4⟩:=readU_facts s p 0 hp
 have hq2:=readU_facts s (readU s p 0).2.1 0 f2
 have hx2:=rtxP_facts s (readU s p 0).2.1 2000 f2
 have hI:=fun (τ:ASt) (h:τ b=rd s (readU s p 0).2.1 0)=>rint_ok s (readU s p 0).2.1 0 b τ h (by omega) f2
 have hX:=fun (τ:ASt) (h:τ b=rd s (readU s p 0).2.1 0)=>rtext_ok s (readU s p 0).2.1 0 2000 b τ h (by omega) f2 (by decide)
 have hR:=ruint_ok s p 0 b σ hb (by omega) hp
 have hO:=fun (τ:ASt) (h:U8 τ) (pl:Pl) (hl)=>of_ok h pl hl
 have hE:=fun (τ:ASt) (P:Nat) (E:Int) (h:τ b=rd s P E)=>rerr_ok s P E b τ h
 have hbl:PV.blank.av = .iface 138 (.agg []):=rfl
 generalize readU s p 0=R at *
 obtain ⟨u,p1,e1⟩:=R
 dsimp only at *
 generalize readU s p1 0=Q at *
 obtain ⟨u2,p2,e2⟩:=Q
 generalize rtxP s p1 0 2000=X at *
 obtain ⟨x3,p3,e3⟩:=X
 dsimp only at *
 obtain ⟨k,hk⟩:∃ k:Nat,min u 9=k:=⟨_,rfl⟩
 rw [hk] at hG
 have hmn:min (u:Int) 9=(k:Int):=by omega
 have hk9:k<=9:=by omega
 have hun : -9223372036854775808<=unfI u2/\unfI u2<=9223372036854775807:=by unfold unfI;split<;>omega
 obtain ⟨F,hF⟩:∃ F,F=ACode.wp Tryz.prog c72_34:=⟨_,rfl⟩
 have hcne:∀ {c:Nat},σ c=none->b≠c:=fun {c} hc=>by rintro rfl;rw [hb] at hc;cases hc
 have hgoE:∀ (P P':Nat) (E:Int) (c:Nat) (cs:List AV) (a:AFr),E≠0->σ c=none->(a 0 = .ptr b 0/\a 4 = .ptr c 0)->F (RetQ [.t 2,.t 3] (GotV s b σ (.blank,E,P'))) a ((σ.set b (rd s P E)).set c (some (.obj cs))):=by
  intro P P' E c cs a hE0 hc hf
  have hbc:=hcne hc
  have he:=hE ((σ.set b (rd s P E)).set c (some (.obj cs))) P E (by rw [ASt.set_ne hbc,ASt.set_same])
  rw [hF]
  simp (disch:=first|assumption|omega|(simp only [List.length_append,List.length_cons,List.length_nil];omega)) only [go_sem,hf]
  refine he.mono ?_
  rintro v σ1 ⟨rfl,rfl⟩
  simp (disch:=first|assumption|omega|(simp only [List.length_append,List.length_cons,List.length_nil];omega)) only [go_sem,hf,hE0]
  refine he.mono ?_
  rintro v σ1 ⟨rfl,rfl⟩
  simp (disch:=first|assumption|omega|(simp only [List.length_append,List.length_cons,List.length_nil];omega)) only [go_sem]
  exact retC_by (Drop.set (by rw [ASt.set_ne (Ne.symm hbc)];exact hc)) (.refl _) ⟨rfl,P,E,rfl,fun h=>absurd h hE0⟩
 have hgo:∀ (P:Nat) (k y:Int) (z:List UInt8) (c:Nat) (a:AFr),z.length<=4611686018427387904->σ c=none->(a 0 = .ptr b 0/\a 4 = .ptr c 0)->F (RetQ [.t 2,.t 3] (GotV s b σ (endV k y z P))) a ((σ.set b (rd s P 0)).set c (some (.obj [.int .i64 k,.int .i64 y,.str z]))):=by
  intro P k y z c a hz hc hf
  have hbc:=hcne hc
  have he:=hE ((σ.set b (rd s P 0)).set c (some (.obj [.int .i64 k,.int .i64 y,.str z]))) P 0 (by rw [ASt.set_ne hbc,ASt.set_same])
  have hU2:U8 ((σ.set b (rd s P 0)).set c (some (.obj [.int .i64 k,.int .i64 y,.str z]))):=(hU.rd hb P 0).set (by rw [ASt.set_ne (Ne.symm hbc)];exact hc)
  have ho:=hO _ hU2 ⟨k,y,z⟩ hz
  have hT:=tell_ok (ofP ⟨k,y,z⟩)
  rw [tell_pl] at hT
  have hdr:Drop ((σ.set b (rd s P 0)).set c (some (.obj [.int .i64 k,.int .i64 y,.str z]))) (σ.set b (rd s P 0)):=Drop.set (by rw [ASt.set_ne (Ne.symm hbc)];exact hc)
  have hcc:((σ.set b (rd s P 0)).set c (some (.obj [.int .i64 k,.int .i64 y,.str z]))) c=some (.obj [.int .i64 k,.int .i64 y,.str z]):=ASt.set_same _ _ _
  generalize (σ.set b (rd s P 0)).set c (some (.obj [.int .i64 k,.int .i64 y,.str z]))=τ at *
  obtain ⟨V,hV⟩:∃ V,endV k y z P=V:=⟨_,rfl⟩
  rw [hV]
  unfold endV at hV
  generalize ofP ⟨k,y,z⟩=vv at *
  generalize plOf vv=pl at *
  obtain ⟨k2,y2,z2⟩:=pl
  unfold plAV at ho hT
  dsimp only at ho hT
  have hx:(decide (k2=k) && (decide (y2=y) && decide (z2=z)))=eqPl ⟨k2,y2,z2⟩ k y z:=rfl
  rw [hF]
  cases hq:eqPl ⟨k2,y2,z2⟩ k y z with
  | true=>
    rw [hq] at hV hx
    rw [if_pos rfl] at hV
    subst hV
    simp (disch:=first|assumption|omega|(simp only [List.length_append,List.length_cons,List.length_nil];omega)) only [go_sem,hf]
    refine he.mono ?_
    rintro v σ1 ⟨rfl,rfl⟩
    simp (disch:=first|assumption|omega|(simp only [List.length_append,List.length_cons,List.length_nil];omega)) only [go_sem,hf,hcc]
    refine ho.mono ?_
    rintro v σ1 ⟨rfl,rfl⟩
    simp (disch:=first|assumption|omega|(simp only [List.length_append,List.length_cons,List.length_nil];omega)) only [go_sem,hf,hcc]
    refine hT.use ?_
    simp (disch:=first|assumption|omega|(simp only [List.length_append,List.length_cons,List.length_nil];omega)) only [go_sem,hf,hcc,hx]
    exact retC_by hdr (.refl _) ⟨rfl,P,0,rfl,fun _=>⟨rfl,rfl⟩⟩
  | false=>
    rw [hq] at hV hx
    rw [if_neg (by simp)] at hV
    subst hV
    simp (disch:=first|assumption|omega|(simp only [List.length_append,List.length_cons,List.length_nil];omega)) only [go_sem,hf]
    refine he.mono ?_
    rintro v σ1 ⟨rfl,rfl⟩
    simp (disch:=first|assumption|omega|(simp only [List.length_append,List.length_cons,List.length_nil];omega)) only [go_sem,hf,hcc]
    refine ho.mono ?_
    rintro v σ1 ⟨rfl,rfl⟩
    simp (disch:=first|assumption|omega|(simp only [List.length_append,List.length_cons,List.length_nil];omega)) only [go_sem,hf,hcc]
    refine hT.use ?_
    simp (disch:=first|assumption|omega|(simp only [List.length_append,List.length_cons,List.length_nil];omega)) only [go_sem,hf,hcc,hx]
    exact retC_by hdr (.refl _) ⟨rfl,P,0,rfl,fun h=>by cases h⟩
 have hsw:∀ (c:Nat) (hc:σ c=none) (X Y Z:Option Role),((σ.set b X).set c Y).set b Z=(σ.set b Z).set c Y:=fun c hc X Y Z=>by rw [set_swap (Ne.symm (hcne hc)),ASt.set_set]
 refine a72 (by simp) ?_
 simp (disch:=first|assumption|omega|(simp only [List.length_append,List.length_cons,List.length_nil];omega)) only [go_sem]
 refine hR.mono ?_
 rintro v σ1 ⟨rfl,rfl⟩
 simp (disch:=first|assumption|omega|(simp only [List.length_append,List.length_cons,List.length_nil];omega)) only [go_sem,hmn]
 refine allocC_by fun c hc=>?_
 have hcb:c≠b:=by rintro rfl;unfold A.rd at hc;rw [ASt.set_same] at hc;cases hc
 have hc0:σ c=none:=by rw [ASt.set_ne hcb] at hc;exact hc
 have hbc:b≠c:=Ne.symm hcb
 have hsw:=hsw c hc0
 clear hR hE hO hbl
 by_cases he1:e1=0
 ·subst he1
  rw [if_neg (by simp)] at hG
  by_cases hk134:k=1\/k=3\/k=4
  ·rw [if_pos hk134] at hG
   have hI:=fun (X:Role)=>hI ((σ.set b (rd s p1 0)).set c (some X)) (by rw [ASt.set_ne hbc,ASt.set_same])
   by_cases he2:e2=0
   ·subst he2
    rw [if_neg (by simp)] at hG
    subst hG
    rcases hk134 with rfl|rfl|rfl
    all_goals
     simp (disch:=first|assumption|omega|(simp only [List.length_append,List.length_cons,List.length_nil];omega)) only [go_sem,ASt.set_set,←hF]
     refine (hI _).mono ?_
     rintro v σ2 ⟨rfl,rfl⟩
     simp (disch:=first|assumption|omega|(simp only [List.length_append,List.length_cons,List.length_nil];omega)) only [go_sem,hsw,ASt.set_set,←hF]
     refine hgo p2 _ _ [] c _ (Nat.zero_le _) hc0 ?_
     simp (disch:=first|assumption|omega|(simp only [List.length_append,List.length_cons,List.length_nil];omega)) only [go_sem]
   ·rw [if_pos he2] at hG
    subst hG
    rcases hk134 with rfl|rfl|rfl
    all_goals
     simp (disch:=first|assumption|omega|(simp only [List.length_append,List.length_cons,List.length_nil];omega)) only [go_sem,ASt.set_set,←hF]
     refine (hI _).mono ?_
     rintro v σ2 ⟨rfl,rfl⟩
     simp (disch:=first|assumption|omega|(simp only [List.length_append,List.length_cons,List.length_nil];omega)) only [go_sem,hsw,ASt.set_set,←hF]
     refine hgoE p2 p2 e2 c _ _ he2 hc0 ?_
     simp (disch:=first|assumption|omega|(simp only [List.length_append,List.length_cons,List.length_nil];omega)) only [go_sem]
  ·rw [if_neg hk134] at hG
   by_cases hk2:k=2
   ·subst hk2
    rw [if_pos rfl] at hG
    have hX:=fun (X:Role)=>hX ((σ.set b (rd s p1 0)).set c (some X)) (by rw [ASt.set_ne hbc,ASt.set_same])
    have h20:((2000:Nat):Int)=2000:=rfl
    rw [h20] at hX
    by_cases he3:e3=0
    ·subst he3
     rw [if_neg (by simp)] at hG
     subst hG
     simp (disch:=first|assumption|omega|(simp only [List.length_append,List.length_cons,List.length_nil];omega)) only [go_sem,ASt.set_set,←hF]
     refine (hX _).mono ?_
     rintro v σ2 ⟨rfl,rfl⟩
     simp (disch:=first|assumption|omega|(simp only [List.length_append,List.length_cons,List.length_nil];omega)) only [go_sem,hsw,ASt.set_set,←hF]
     refine hgo p3 _ _ x3 c _ (by omega) hc0 ?_
     simp (disch:=first|assumption|omega|(simp only [List.length_append,List.length_cons,List.length_nil];omega)) only [go_sem]
    ·rw [if_pos he3] at hG
     subst hG
     simp (disch:=first|assumption|omega|(simp only [List.length_append,List.length_cons,List.length_nil];omega)) only [go_sem,ASt.set_set,←hF]
     refine (hX _).mono ?_
     rintro v σ2 ⟨rfl,rfl⟩
     simp (disch:=first|assumption|omega|(simp only [List.length_append,List.length_cons,List.length_nil];omega)) only [go_sem,hsw,ASt.set_set,←hF]
     refine hgoE p3 p3 e3 c _ _ he3 hc0 ?_
     simp (disch:=first|assumption|omega|(simp only [List.length_append,List.length_cons,List.length_nil];omega)) only [go_sem]
   ·rw [if_neg hk2] at hG
    subst hG
    have n1:¬ (k:Int)=1:=by omega
    have n2:¬ (k:Int)=2:=by omega
    have n3:¬ (k:Int)=3:=by omega
    have n4:¬ (k:Int)=4:=by omega
    simp (disch:=first|assumption|omega|(simp only [List.length_append,List.length_cons,List.length_nil];omega)) only [go_sem,n1,n2,n3,n4,ASt.set_set,←hF]
    refine hgo p1 _ _ [] c _ (Nat.zero_le _) hc0 ?_
    simp (disch:=first|assumption|omega|(simp only [List.length_append,List.length_cons,List.length_nil];omega)) only [go_sem]
 ·rw [if_pos he1] at hG
  subst hG
  obtain ⟨hu0,_⟩:=f3 he1
  obtain rfl:k=0:=by omega
  simp (disch:=first|assumption|omega|(simp only [List.length_append,List.length_cons,List.length_nil];omega)) only [go_sem,ASt.set_set,←hF]
  refine hgoE p1 p1 e1 c _ _ he1 hc0 ?_
  simp (disch:=first|assumption|omega|(simp only [List.length_append,List.length_cons,List.length_nil];omega)) only [go_sem]
theorem endV_law {k y:Int} {z:List UInt8} {p:Nat} (hz:z.length<=2000) (h:(endV k y z p).2.1=0):∃ v,endV k y z p=(v,0,p)/\plOf v=⟨k,y,z⟩/\v.good/\(∀ t,v = .text t->t.length<=2000)/\ofP (plOf v)=v/\putB v=plB k y z:=by
 unfold endV at h ⊢
 by_cases hq:eqPl (plOf (ofP ⟨k,y,z⟩)) k y z=true
 ·rw [if_pos hq]
  have hpl:plOf (ofP ⟨k,y,z⟩)=⟨k,y,z⟩:=by
   unfold eqPl at hq
   simp only [Bool.and_eq_true,decide_eq_true_eq] at hq
   generalize plOf (ofP ⟨k,y,z⟩)=pl at *
   obtain ⟨a,b,c⟩:=pl
   obtain ⟨rfl,rfl,rfl⟩:=hq
   rfl
  have hshort:∀ t,ofP ⟨k,y,z⟩ = .text t->t.length<=2000:=fun t ht=>by
   rw [ht] at hpl
   have:t=z:=congrArg Pl.s hpl
   rw [this];exact hz
  refine ⟨_,rfl,hpl,ofP_good _,hshort,by rw [hpl],?_⟩
  obtain ⟨k2,y2,z2,h1,h2,_⟩:=put_pl (ofP ⟨k,y,z⟩) (ofP_good _) hshort
  rw [hpl] at h1
  injection h1 with h3 h4 h5
  rw [h2,h3,h4,h5]
 ·rw [if_neg hq] at h
  cases h
theorem plOf_kind (v:PV):0<=(plOf v).kind/\(plOf v).kind<=4:=by cases v<;>simp only [plOf]<;>omega
theorem getV_law {s:List UInt8} {p:Nat} (hp:p<=s.length) (h:(getV s p).2.1=0):∃ v p',getV s p=(v,0,p')/\s.drop p=putB v++s.drop p'/\p'=p+(putB v).length/\p'<=s.length/\v.good/\(∀ t,v = .text t->t.length<=2000)/\ofP (plOf v)=v:=by
 obtain ⟨f1,f2,f3,f4⟩:=readU_facts s p 0 hp
 have hq2:=readU_facts s (readU s p 0).2.1 0 f2
 have hx2:=rtxP_facts s (readU s p 0).2.1 2000 f2
 have hL1:=readU_law (s:=s) (p:=p)
 have hL2:=readU_law (s:=s) (p:=(readU s p 0).2.1)
 have hLX:=rtx_law (s:=s) (most:=2000) f2
 unfold getV at h ⊢
 generalize readU s p 0=R at *
 obtain ⟨u,p1,e1⟩:=R
 dsimp only at *
 generalize readU s p1 0=Q at *
 obtain ⟨u2,p2,e2⟩:=Q
 generalize rtxP s p1 0 2000=X at *
 obtain ⟨x3,p3,e3⟩:=X
 dsimp only at *
 by_cases he1:e1=0
 ·subst he1
  obtain ⟨l1,l2⟩:=hL1 rfl
  rw [if_neg (by simp)] at h ⊢
  by_cases hk:min u 9=1\/min u 9=3\/min u 9=4
  ·rw [if_pos hk] at h ⊢
   by_cases he2:e2=0
   ·subst he2
    obtain ⟨m1,m2⟩:=hL2 rfl
    rw [if_neg (by simp)] at h ⊢
    obtain ⟨v,h1,h2,h3,h4,h5,h6⟩:=endV_law (Nat.zero_le _) h
    have hb:putB v=uintB u++uintB u2:=by
     rw [h6]
     unfold plB
     rw [if_pos (by omega),fold_unf,Int.toNat_natCast,show min u 9=u by omega]
    refine ⟨v,p2,h1,?_,?_,hq2.2.1,h3,h4,h5⟩
    ·rw [l1,m1,hb,List.append_assoc]
    ·rw [hb,List.length_append];omega
   ·rw [if_pos he2] at h
    exact absurd h he2
  ·rw [if_neg hk] at h ⊢
   by_cases hk2:min u 9=2
   ·rw [if_pos hk2] at h ⊢
    by_cases he3:e3=0
    ·subst he3
     obtain ⟨m1,m2⟩:=hLX rfl
     rw [if_neg (by simp)] at h ⊢
     obtain ⟨v,h1,h2,h3,h4,h5,h6⟩:=endV_law hx2.2 h
     have hb:putB v=uintB u++textB x3:=by
      rw [h6]
      unfold plB
      rw [if_neg (by omega),if_pos rfl,show u=2 by omega]
      rfl
     refine ⟨v,p3,h1,?_,?_,hx2.1,h3,h4,h5⟩
     ·rw [l1,m1,hb,List.append_assoc]
     ·rw [hb,List.length_append];omega
    ·rw [if_pos he3] at h
     exact absurd h he3
   ·rw [if_neg hk2] at h ⊢
    obtain ⟨v,h1,h2,h3,h4,h5,h6⟩:=endV_law (Nat.zero_le _) h
    have hkd:=plOf_kind v
    rw [h2] at hkd
    dsimp only at hkd
    have hu0:u=0:=by omega
    have hb:putB v=uintB u:=by
     rw [h6]
     unfold plB
     rw [if_neg (by omega),if_neg (by omega),hu0,List.append_nil]
     rfl
    exact ⟨v,p1,h1,by rw [hb];exact l1,by rw [hb];exact l2,f2,h3,h4,h5⟩
 ·rw [if_pos he1] at h
  exact absurd h he1
end Go.A
namespace Go.A
open Go.Proofs
/-! 56: tabular/tile.get -/
def c56_47:ACode := .seq (.ops [ oq 48 (.mv (.t 0)),oe 49 (.call 72 [(.t 48)]),oq 47 (.mv (.t 49)),oq 50 (.ext 0 (.t 47)),oq 51 (.ext 1 (.t 47)),oq 10 (.mv (.t 50)),oq 11 (.mv (.t 51))]) (.seq (.seq (.ops [ oq 52 (.mv (.t 11)),oq 53 (.bin .neq (.t 52) (.v (.int .i64 0)))]) (.cond (.t 53) (.seq (.ops [ oq 54 (.build [(.int .i64 0),(.int .i64 0),(.str []),(.int .i64 0),(.int .i64 0),(.bool false),(.bool false),(.int .i64 0),(.int .i64 0),(.bool false),(.bool false),(.sl .full []),.nili] []),oq 55 (.mv (.t 11)),oz (.store 13 (.t 4) (.t 54)),oq 5 (.mv (.t 55))]) .ret) .skip)) (.seq (.seq (.ops [ oq 56 (.mv (.t 10)),oq 57 (.fa 12 (.t 6)),oz (.store 1 (.t 57) (.t 56))]) (.seq (.ops [ oq 58 (.ld (some 13) (.t 6)),oe 59 (.call 12 [(.t 58)])]) (.cond (.t 59) (.seq (.ops [ oq 60 (.build [(.int .i64 0),(.int .i64 0),(.str []),(.int .i64 0),(.int .i64 0),(.bool false),(.bool false),(.int .i64 0),(.int .i64 0),(.bool false),(.bool false),(.sl .full []),.nili] []),oz (.store 13 (.t 4) (.t 60)),oq 5 (.mv (.v (.int .i64 3)))]) .ret) .skip))) (.seq (.ops [ oq 61 (.ld (some 13) (.t 6)),oz (.store 13 (.t 4) (.t 61)),oq 5 (.mv (.v (.int .i64 0)))]) .ret)))
def c56_54:ACode := .seq (.ops [ oe 4 (.alloc [(.int .i64 0),(.int .i64 0),(.str []),(.int .i64 0),(.int .i64 0),(.bool false),(.bool false),(.int .i64 0),(.int .i64 0),(.bool false),(.bool false),(.sl .full []),.nili]),oq 5 (.mv (.v (.int .i64 0)))]) (.seq (.ops [ oe 6 (.alloc [(.int .i64 0),(.int .i64 0),(.str []),(.int .i64 0),(.int .i64 0),(.bool false),(.bool false),(.int .i64 0),(.int .i64 0),(.bool false),(.bool false),(.sl .full []),.nili])]) (.seq (.ops [ oq 12 (.mv (.t 0)),oe 13 (.call 53 [(.t 12)]),oq 7 (.mv (.t 13))]) (.seq (.seq (.ops [ oq 14 (.mv (.t 0)),oe 15 (.call 54 [(.t 14)]),oq 16 (.bin .neq (.t 15) (.v (.int .i64 0)))]) (.cond (.t 16) (.seq (.ops [ oq 17 (.ld (some 13) (.t 6)),oq 18 (.mv (.t 0)),⟨some 19,none,.e (.call 54 [(.t 18)]),[⟨none,.ld (some 13) (.t 6),17⟩]⟩,oz (.store 13 (.t 4) (.t 17)),oq 5 (.mv (.t 19))]) .ret) .skip)) (.seq (.seq (.ops [ oq 20 (.mv (.t 7)),oq 21 (.bin .gtr (.t 20) (.v (.int .u64 2))),oq 22 (.mv (.t 21)),⟨some 23,some (22,false),.q (.mv (.t 7)),[]⟩,⟨some 24,some (22,false),.q (.bin .eql (.t 23) (.v (.int .u64 0))),[]⟩,⟨some 25,some (22,false),.q (.mv (.t 24)),[]⟩,⟨some 26,some (25,true),.q (.mv (.t 1)),[]⟩,⟨some 27,some (25,true),.q (.un .not (.t 26)),[]⟩,⟨some 28,some (22,false),.q (.pick (.t 25) (.t 27) (.v (.bool false))),[]⟩,oq 29 (.pick (.t 22) (.v (.bool true)) (.t 28))]) (.cond (.t 29) (.seq (.ops [ oq 30 (.ld (some 13) (.t 6)),oz (.store 13 (.t 4) (.t 30)),oq 5 (.mv (.v (.int .i64 3)))]) .ret) .skip)) (.seq (.seq (.ops [ oq 31 (.mv (.t 7)),oq 32 (.bin .eql (.t 31) (.v (.int .u64 0)))]) (.cond (.t 32) (.seq (.ops [ oq 33 (.ld (some 13) (.t 6)),oz (.store 13 (.t 4) (.t 33)),oq 5 (.mv (.v (.int .i64 0)))]) .ret) .skip)) (.seq (.seq (.ops [ oq 34 (.mv (.t 7)),oq 35 (.bin .eql (.t 34) (.v (.int .u64 2)))]) (.cond (.t 35) (.seq (.ops [ oq 37 (.mv (.t 0)),oe 38 (.call 96 [(.t 37)]),oq 36 (.mv (.t 38)),oq 39 (.ext 0 (.t 36)),oq 40 (.ext 1 (.t 36)),oe 8 (.alloc [(.int .i64 0),(.int .i64 0),(.str []),(.int .i64 0),(.int .i64 0),(.bool false),(.bool false),(.int .i64 0),(.int .i64 0),(.bool false),(.bool false),(.sl .full [])]),oz (.store 12 (.t 8) (.t 39)),oq 9 (.mv (.t 40))]) (.seq (.seq (.ops [ oq 41 (.mv (.t 9)),oq 42 (.bin .neq (.t 41) (.v (.int .i64 0)))]) (.cond (.t 42) (.seq (.ops [ oq 43 (.build [(.int .i64 0),(.int .i64 0),(.str []),(.int .i64 0),(.int .i64 0),(.bool false),(.bool false),(.int .i64 0),(.int .i64 0),(.bool false),(.bool false),(.sl .full []),.nili] []),oq 44 (.mv (.t 9)),oz (.store 13 (.t 4) (.t 43)),oq 5 (.mv (.t 44))]) .ret) .skip)) (.ops [ oq 45 (.ld (some 12) (.t 8)),oq 46 (.fa 0 (.t 6)),oz (.store 12 (.t 46) (.t 45))]))) .skip)) c56_47))))))
@[go_sem] def c56_47_wp:=wp_of c56_47.eq_1
@[go_sem] def c56_54_wp:=wp_of c56_54.eq_1
def c56:AFn:=⟨62,[.c 4 (some 13),.t 5],c56_54⟩
theorem c56_ok:compF Tryz.prog Tryz.f56=some c56:=by kernel_rfl
theorem a56 {args:List AV} {σ:ASt} {R:AV->ASt->Prop} (hl:args.length<=62) (h:c56_54.wp Tryz.prog (RetQ [.c 4 (some 13),.t 5] R) (init args) σ):ACalls Tryz.prog 56 args σ R:=acalls_of Tryz.func56 c56_ok hl h
end Go.A
namespace Go.A
open Go.Proofs Go.Lib Go.Vint
def endC (t:Nd) (G:PV×Int×Nat):TC×Int×Nat:=if G.2.1≠0 then (zTC,G.2.1,G.2.2) else if TC.empty ⟨t,some G.1⟩=true then (zTC,3,G.2.2) else (⟨t,some G.1⟩,0,G.2.2)
def getC (s:List UInt8) (p:Nat) (em:Bool):TC×Int×Nat:=
 if (readU s p 0).2.2≠0 then (zTC,(readU s p 0).2.2,(readU s p 0).2.1)
 else if 2<(readU s p 0).1\/((readU s p 0).1=0/\em=false) then (zTC,3,(readU s p 0).2.1)
 else if (readU s p 0).1=0 then (zTC,0,(readU s p 0).2.1)
 else if (readU s p 0).1=2 then
  if (treeR s 2101 (readU s p 0).2.1).2.1≠0 then (zTC,(treeR s 2101 (readU s p 0).2.1).2.1,(treeR s 2101 (readU s p 0).2.1).2.2.1)
  else endC (treeR s 2101 (readU s p 0).2.1).1 (getV s (treeR s 2101 (readU s p 0).2.1).2.2.1)
 else endC zNd (getV s (readU s p 0).2.1)
def GotC (s:List UInt8) (b:Nat) (σ:ASt) (G:TC×Int×Nat) (v:AV) (σ':ASt):Prop:=v = .tuple [G.1.av,.int .i64 G.2.1]/\∃ P E,σ'=σ.set b (rd s P E)/\(G.2.1=0->P=G.2.2/\E=0)
theorem U8.objs {σ:ASt} (h:U8 σ) {b:Nat} {cs:List AV} {r:Option Role} (hb:σ b=some (.obj cs)):U8 (σ.set b r):=by
 unfold U8 at h ⊢
 obtain ⟨h1,h2⟩:=h
 constructor
 ·rw [ASt.set_ne]
  ·exact h1
  ·rintro rfl;rw [hb] at h1;cases h1
 ·rw [ASt.set_ne]
  ·exact h2
  ·rintro rfl;rw [hb] at h2;cases h2
def headCs (op n:Int) (x:List UInt8) (a c:Ref) (kv:AV):List AV := [.int .i64 op,.int .i64 n,.str x,.int .i64 a.row,.int .i64 a.col,.bool a.absRow,.bool a.absCol,.int .i64 c.row,.int .i64 c.col,.bool c.absRow,.bool c.absCol,kv]
set_option maxHeartbeats 4000000 in
theorem tget_ok {σ:ASt} (hU:U8 σ) (s:List UInt8) (p b:Nat) (hb:σ b=rd s p 0) (hs:s.length<=10000000) (hp:p<=s.length) (em:Bool) :
  ACalls Tryz.prog 56 [.ptr b 0,.bool em] σ (GotC s b σ (getC s p em)):=by
 obtain ⟨G,hG⟩:∃ G,getC s p em=G:=⟨_,rfl⟩
 rw [hG]
 unfold getC at hG
 obtain ⟨f1,f2,f3,f4⟩:=readU_facts s p 0 hp
 have hR:=fun (τ:ASt) (h:τ b=rd s p 0)=>ruint_ok s p 0 b τ h (by omega) hp
 have hV:=fun (τ:ASt) (P:Nat) (hP:P<=s.length) (hU:U8 τ) (h:τ b=rd s P 0)=>vgetR_ok hU s P b h hs hP
 have hT:=fun (τ:ASt) (P:Nat) (hP:P<=s.length) (hU:U8 τ) (h:τ b=rd s P 0)=>eReadP_ok s hs b P hP τ hU h
 have hTF:=fun (P:Nat) (hP:P<=s.length)=>treeR_facts s 2101 P hP
 have hE:=fun (τ:ASt) (P:Nat) (E:Int) (h:τ b=rd s P E)=>rerr_ok s P E b τ h
 have hbne:∀ {c:Nat},σ c=none->c≠b:=fun {c} hc=>by rintro rfl;rw [hb] at hc;cases hc
 generalize readU s p 0=R at *
 obtain ⟨u,p1,e1⟩:=R
 dsimp only at *
 refine ACalls.retd (K:=fun v σ'=>GotC s b σ G (Go.A.deep v) σ') ?_ (fun v σ' h=>h)
 obtain ⟨F,hF⟩:∃ F,F=ACode.wp Tryz.prog c56_47:=⟨_,rfl⟩
 have hz:Go.A.deep (.agg [.int .i64 0,.int .i64 0,.str [],.int .i64 0,.int .i64 0,.bool false,.bool false,.int .i64 0,.int .i64 0,.bool false,.bool false,.sl .full [],.nili])=zTC.av:=rfl
 have hgo:∀ (τ:ASt) (c4 c6 P:Nat) (op n:Int) (x:List UInt8) (a c:Ref) (kv:AV) (ks:List Nd) (a0:AFr),P<=s.length->U8 τ->τ b=rd s P 0->Go.A.deep kv = .sl .shr (ks.map Nd.av)->kv.leaf=true->kv.cells = [kv]->kv.isAny=false →
   τ c4=some (.obj [.int .i64 0,.int .i64 0,.str [],.int .i64 0,.int .i64 0,.bool false,.bool false,.int .i64 0,.int .i64 0,.bool false,.bool false,.sl .full [],.nili])->τ c6=some (.obj (headCs op n x a c kv ++ [.nili]))->σ c4=none->σ c6=none->c4≠c6->(∀ y,y≠b->σ y=τ y\/σ y=none) →
   (a0 0 = .ptr b 0/\a0 4 = .ptr c4 0/\a0 6 = .ptr c6 0)->F (RetQ [.c 4 (some 13),.t 5] fun v σ'=>GotC s b σ (endC (.mk op n x a c ks) (getV s P)) (Go.A.deep v) σ') a0 τ:=by
  intro τ c4 c6 P op n x a c kv ks a0 hP hU2 hτb hkv hkl hkc hka h4 h6 hs4 hs6 h46 hout hf
  have n4:=hbne hs4
  have n6:=hbne hs6
  have n4':b≠c4:=Ne.symm n4
  have n6':b≠c6:=Ne.symm n6
  have h64:c6≠c4:=Ne.symm h46
  have hV:=hV τ P hP hU2 hτb
  have hdr:∀ (X:Option Role) (Y Z:Option Role),Drop (((τ.set b X).set c6 Y).set c4 Z) (σ.set b X):=fun X Y Z y=>by
   by_cases hy4:y=c4
   ·rw [hy4,ASt.set_ne n4];exact .inr hs4
   by_cases hy6:y=c6
   ·rw [hy6,ASt.set_ne n6];exact .inr hs6
   rw [ASt.set_ne hy4,ASt.set_ne hy6]
   by_cases hyb:y=b
   ·rw [hyb,ASt.set_same,ASt.set_same];exact .inl rfl
   ·rw [ASt.set_ne hyb,ASt.set_ne hyb];exact hout y hyb
  have hdr2:∀ (X:Option Role) (Z:Option Role),Drop ((τ.set b X).set c4 Z) (σ.set b X):=fun X Z y=>by
   by_cases hy4:y=c4
   ·rw [hy4,ASt.set_ne n4];exact .inr hs4
   rw [ASt.set_ne hy4]
   by_cases hyb:y=b
   ·rw [hyb,ASt.set_same,ASt.set_same];exact .inl rfl
   ·rw [ASt.set_ne hyb,ASt.set_ne hyb];exact hout y hyb
  rw [hF]
  simp (disch:=first|assumption|omega|(simp only [List.length_append,List.length_cons,List.length_nil];omega)) only [go_sem,hf]
  refine hV.mono ?_
  rintro v σ1 ⟨rfl,P2,E2,rfl,hPE⟩
  generalize getV s P=V at *
  obtain ⟨vv,ve,vp⟩:=V
  dsimp only at hPE ⊢
  unfold endC
  dsimp only
  by_cases hve:ve=0
  ·subst hve
   rw [if_neg (by simp)]
   obtain ⟨rfl,rfl⟩:=hPE rfl
   have hcell:Go.A.deep (.agg [.int .i64 op,.int .i64 n,.str x,.int .i64 a.row,.int .i64 a.col,.bool a.absRow,.bool a.absCol,.int .i64 c.row,.int .i64 c.col,.bool c.absRow,.bool c.absCol,kv,vv.av])=TC.av ⟨.mk op n x a c ks,some vv⟩:=by
    simp only [deep_agg,deeps_cons,deeps_nil,deep_int,deep_str,deep_bool,hkv,pv_deep]
    rfl
   have hEm:=tcEmpty_ok ⟨.mk op n x a c ks,some vv⟩
   have h6':τ c6=some (.obj [.int .i64 op,.int .i64 n,.str x,.int .i64 a.row,.int .i64 a.col,.bool a.absRow,.bool a.absCol,.int .i64 c.row,.int .i64 c.col,.bool c.absRow,.bool c.absCol,kv,.nili]):=h6
   have va:=PV.av_any vv
   have vl:=PV.av_leaf vv
   have vc:=PV.av_cells vv
   generalize TC.empty ⟨.mk op n x a c ks,some vv⟩=emp at *
   obtain ⟨cav,hcav⟩:∃ cav,TC.av ⟨.mk op n x a c ks,some vv⟩=cav:=⟨_,rfl⟩
   rw [hcav] at hEm hcell
   generalize vv.av=w at *
   simp (disch:=first|assumption|omega|(simp only [List.length_append,List.length_cons,List.length_nil];omega)) only [go_sem,hf,h6',va,vl,vc]
   refine ACalls.deep (args' := [cav]) (by rw [deeps_cons,hcell];rfl) (hEm.use ?_)
   cases emp with
   | true=>
     rw [if_pos rfl]
     simp (disch:=first|assumption|omega|(simp only [List.length_append,List.length_cons,List.length_nil];omega)) only [go_sem,hf,h4]
     exact retC_by (hdr _ _ _) (.refl _) ⟨rfl,P2,0,rfl,fun h=>by cases h⟩
   | false=>
     rw [if_neg (by simp)]
     simp (disch:=first|assumption|omega|(simp only [List.length_append,List.length_cons,List.length_nil];omega)) only [go_sem,hf,h4,hkl,hkc,hka,va,vl,vc]
     exact retC_by (hdr _ _ _) (.refl _) ⟨by rw [hcav,← hcell];rfl,P2,0,rfl,fun _=>⟨rfl,rfl⟩⟩
  ·rw [if_pos hve]
   simp (disch:=first|assumption|omega|(simp only [List.length_append,List.length_cons,List.length_nil];omega)) only [go_sem,hf,hve,h4]
   exact retC_by (hdr2 _ _) (.refl _) ⟨rfl,P2,E2,rfl,fun h=>absurd h hve⟩
 refine a56 (by simp) ?_
 simp (disch:=first|assumption|omega|(simp only [List.length_append,List.length_cons,List.length_nil];omega)) only [go_sem]
 refine allocC_by fun c4 h4=>?_
 have n4:=hbne h4
 have n4':b≠c4:=Ne.symm n4
 simp (disch:=first|assumption|omega|(simp only [List.length_append,List.length_cons,List.length_nil];omega)) only [go_sem]
 refine allocC_by fun c6 h6=>?_
 repeat (with_reducible replace h6:=set_none h6;obtain ⟨_,_,h6⟩:=h6)
 have n6:=hbne h6
 have n6':b≠c6:=Ne.symm n6
 have h64:c6≠c4:=by assumption
 have h46:c4≠c6:=Ne.symm h64
 obtain ⟨Z,hZ⟩:∃ Z,Z=([.int .i64 0,.int .i64 0,.str [],.int .i64 0,.int .i64 0,.bool false,.bool false,.int .i64 0,.int .i64 0,.bool false,.bool false,.sl .full [],.nili]:List AV):=⟨_,rfl⟩
 rw [<-hZ] at hgo hz ⊢
 have hZl:Z.length=13:=by rw [hZ];rfl
 have hZv:leaves Z=true:=by rw [hZ];rfl
 have hZt:Z.take 13=Z:=by rw [hZ];rfl
 have hZd:Z.drop 13 = []:=by rw [hZ];rfl
 have hgz:∀ e:Int,Go.A.deep (.tuple [.agg Z,.int .i64 e]) = .tuple [zTC.av,.int .i64 e]:=fun e=>by rw [deep_tuple,deeps_cons,hz];rfl
 have hdr:∀ (X:Option Role) (A B C:Option Role),Drop ((((σ.set c4 A).set c6 B).set b X).set c4 C) (σ.set b X):=fun X A B C y=>by
  by_cases hy4:y=c4
  ·rw [hy4,ASt.set_ne n4];exact .inr h4
  rw [ASt.set_ne hy4]
  by_cases hyb:y=b
  ·rw [hyb,ASt.set_same,ASt.set_same];exact .inl rfl
  rw [ASt.set_ne hyb,ASt.set_ne hyb]
  by_cases hy6:y=c6
  ·rw [hy6];exact .inr h6
  rw [ASt.set_ne hy6,ASt.set_ne hy4];exact .inl rfl
 have hU2:∀ (P:Nat) (E:Int),U8 (((σ.set c4 (some (.obj Z))).set c6 (some (.obj Z))).set b (rd s P E)):=fun P E=>by
  have h1:U8 ((σ.set c4 (some (.obj Z))).set c6 (some (.obj Z))):=(hU.set h4).set (by rw [ASt.set_ne h64];exact h6)
  exact U8.rd h1 (p:=p) (e:=0) (by rw [ASt.set_ne n6',ASt.set_ne n4'];exact hb) P E
 have hR:=hR ((σ.set c4 (some (.obj Z))).set c6 (some (.obj Z))) (by rw [ASt.set_ne n6',ASt.set_ne n4'];exact hb)
 have hE1:=hE (((σ.set c4 (some (.obj Z))).set c6 (some (.obj Z))).set b (rd s p1 e1)) p1 e1 (ASt.set_same _ _ _)
 simp (disch:=first|assumption|omega|(simp only [List.length_append,List.length_cons,List.length_nil];omega)) only [go_sem]
 refine hR.mono ?_
 rintro v σ1 ⟨rfl,rfl⟩
 simp (disch:=first|assumption|omega|(simp only [List.length_append,List.length_cons,List.length_nil];omega)) only [go_sem]
 refine hE1.mono ?_
 rintro v σ1 ⟨rfl,rfl⟩
 by_cases he1:e1=0
 ·subst he1
  rw [if_neg (by simp)] at hG
  by_cases hu2:2<u
  ·rw [if_pos (.inl hu2)] at hG
   subst hG
   have hu2':(2:Int)<(u:Int):=by omega
   simp (disch:=first|assumption|omega|(simp only [List.length_append,List.length_cons,List.length_nil];omega)) only [go_sem,hu2',hZl,hZv,hZt,hZd,List.drop_zero]
   exact retC_by (hdr _ _ _ _) (.refl _) ⟨hgz 3,p1,0,rfl,fun h=>by cases h⟩
  have hu2':¬ (2:Int)<(u:Int):=by omega
  by_cases hu0:u=0
  ·subst hu0
   cases em with
   | false=>
     rw [if_pos (.inr ⟨rfl,rfl⟩)] at hG
     subst hG
     simp (disch:=first|assumption|omega|(simp only [List.length_append,List.length_cons,List.length_nil];omega)) only [go_sem,hZl,hZv,hZt,hZd,List.drop_zero]
     exact retC_by (hdr _ _ _ _) (.refl _) ⟨hgz 3,p1,0,rfl,fun h=>by cases h⟩
   | true=>
     rw [if_neg (by simp),if_pos rfl] at hG
     subst hG
     simp (disch:=first|assumption|omega|(simp only [List.length_append,List.length_cons,List.length_nil];omega)) only [go_sem,hZl,hZv,hZt,hZd,List.drop_zero]
     exact retC_by (hdr _ _ _ _) (.refl _) ⟨hgz 0,p1,0,rfl,fun _=>⟨rfl,rfl⟩⟩
  have hu0':¬ (u:Int)=0:=by omega
  rw [if_neg (by rintro (h|⟨h,_⟩)<;>omega),if_neg hu0] at hG
  by_cases hk2:u=2
  ·subst hk2
   rw [if_pos rfl] at hG
   have hT:=hT (((σ.set c4 (some (.obj Z))).set c6 (some (.obj Z))).set b (rd s p1 0)) p1 f2 (hU2 p1 0) (ASt.set_same _ _ _)
   have hTF:=hTF p1 f2
   generalize treeR s 2101 p1=T at *
   obtain ⟨t,te,P,E⟩:=T
   obtain ⟨op,n,x,ra,rc,ks⟩:=t
   rw [ASt.set_set] at hT
   dsimp only at hT hTF hG
   rw [Nd.av_cs] at hT
   unfold Nd.cs at hT
   have hkv:Go.A.deep (.sl .shr (ks.map Nd.av)) = .sl .shr (ks.map Nd.av):=by rw [deep_sl,deeps_map]
   have hgo:=hgo
   by_cases hte:te=0
   ·subst hte
    obtain rfl:=hTF.2 rfl
    rw [if_neg (by simp)] at hG
    subst hG
    have hgo:=fun (τ:ASt) (a0:AFr)=>hgo τ c4 c6 P op n x ra rc (.sl .shr (ks.map Nd.av)) ks a0 hTF.1
    generalize ks.map Nd.av=KL at *
    simp (disch:=first|assumption|omega|(simp only [List.length_append,List.length_cons,List.length_nil];omega)) only [go_sem,←hF]
    refine hT.mono ?_
    rintro v σ1 ⟨rfl,rfl⟩
    simp (disch:=first|assumption|omega|(simp only [List.length_append,List.length_cons,List.length_nil];omega)) only [go_sem,←hF]
    refine allocC_by fun c8 h8=>?_
    have h8b:c8≠b:=by rintro rfl;unfold A.rd at h8;rw [ASt.set_same] at h8;cases h8
    rw [ASt.set_ne h8b] at h8
    have h86:c8≠c6:=by rintro rfl;rw [ASt.set_same] at h8;cases h8
    rw [ASt.set_ne h86] at h8
    have h84:c8≠c4:=by rintro rfl;rw [ASt.set_same] at h8;cases h8
    rw [ASt.set_ne h84] at h8
    have h6b:c6≠c8:=Ne.symm h86
    have hZ6:Z.drop 12 = [.nili]:=by rw [hZ];rfl
    have h8b':b≠c8:=Ne.symm h8b
    have h84':c4≠c8:=Ne.symm h84
    simp (disch:=first|assumption|omega|(simp only [List.length_append,List.length_cons,List.length_nil];omega)) only [go_sem,hZl,hZ6,ASt.set_set,←hF]
    have hS8:(((σ.set c4 (some (.obj Z))).set c6 (some (.obj Z))).set b (rd s P 0)) c8=none:=by rw [ASt.set_ne h8b,ASt.set_ne h86,ASt.set_ne h84];exact h8
    refine hgo _ _ (U8.objs (cs:=Z) (U8.set (hU2 P 0) hS8) ?_) ?_ hkv rfl rfl rfl ?_ (ASt.set_same _ _ _) h4 h6 h46 (fun y hy=>?_) ?_
    ·rw [ASt.set_ne h6b,ASt.set_ne n6,ASt.set_same]
    ·rw [ASt.set_ne n6',ASt.set_ne h8b',ASt.set_same]
    ·rw [ASt.set_ne h46,ASt.set_ne h84',ASt.set_ne n4,ASt.set_ne h46,ASt.set_same,hZ]
    ·by_cases y4:y=c4
     ·rw [y4];exact .inr h4
     by_cases y6:y=c6
     ·rw [y6];exact .inr h6
     by_cases y8:y=c8
     ·rw [y8];exact .inr h8
     rw [ASt.set_ne y6,ASt.set_ne y8,ASt.set_ne hy,ASt.set_ne y6,ASt.set_ne y4]
     exact .inl rfl
    ·simp (disch:=first|assumption|omega|(simp only [List.length_append,List.length_cons,List.length_nil];omega)) only [go_sem]
   ·rw [if_pos hte] at hG
    subst hG
    generalize ks.map Nd.av=KL at *
    simp (disch:=first|assumption|omega|(simp only [List.length_append,List.length_cons,List.length_nil];omega)) only [go_sem,←hF]
    refine hT.mono ?_
    rintro v σ1 ⟨rfl,rfl⟩
    simp (disch:=first|assumption|omega|(simp only [List.length_append,List.length_cons,List.length_nil];omega)) only [go_sem,←hF]
    refine allocC_by fun c8 h8=>?_
    have h8b:c8≠b:=by rintro rfl;unfold A.rd at h8;rw [ASt.set_same] at h8;cases h8
    rw [ASt.set_ne h8b] at h8
    have h86:c8≠c6:=by rintro rfl;rw [ASt.set_same] at h8;cases h8
    rw [ASt.set_ne h86] at h8
    have h84:c8≠c4:=by rintro rfl;rw [ASt.set_same] at h8;cases h8
    rw [ASt.set_ne h84] at h8
    have h84':c4≠c8:=Ne.symm h84
    simp (disch:=first|assumption|omega|(simp only [List.length_append,List.length_cons,List.length_nil];omega)) only [go_sem,hte,hZl,hZv,hZt,hZd,List.drop_zero,ASt.set_set,←hF]
    refine retC_by (σ':=σ.set b (rd s P E)) (fun y=>?_) (.refl _) ⟨(by first|exact hgz te|(have h:=hgz te;rw [hZ] at h;exact h)),P,E,rfl,fun h=>absurd h hte⟩
    by_cases y4:y=c4
    ·rw [y4,ASt.set_ne n4];exact .inr h4
    by_cases y6:y=c6
    ·rw [y6,ASt.set_ne n6];exact .inr h6
    by_cases y8:y=c8
    ·rw [y8,ASt.set_ne h8b];exact .inr h8
    rw [ASt.set_ne y4,ASt.set_ne y8]
    by_cases yb:y=b
    ·rw [yb,ASt.set_same,ASt.set_same];exact .inl rfl
    rw [ASt.set_ne yb,ASt.set_ne yb,ASt.set_ne y6,ASt.set_ne y4]
    exact .inl rfl
  ·rw [if_neg hk2] at hG
   subst hG
   have hk2':¬ (u:Int)=2:=by omega
   simp (disch:=first|assumption|omega|(simp only [List.length_append,List.length_cons,List.length_nil];omega)) only [go_sem,hu2',hu0',hk2',←hF]
   refine hgo _ c4 c6 p1 0 0 [] .zero .zero (.sl .full []) [] _ f2 (hU2 p1 0) (ASt.set_same _ _ _) rfl rfl rfl rfl ?_ ?_ h4 h6 h46 (fun y hy=>?_) ?_
   ·rw [ASt.set_ne n4,ASt.set_ne h46,ASt.set_same,hZ]
   ·rw [ASt.set_ne n6,ASt.set_same,hZ];rfl
   ·by_cases y4:y=c4
    ·rw [y4];exact .inr h4
    by_cases y6:y=c6
    ·rw [y6];exact .inr h6
    rw [ASt.set_ne hy,ASt.set_ne y6,ASt.set_ne y4]
    exact .inl rfl
   ·simp (disch:=first|assumption|omega|(simp only [List.length_append,List.length_cons,List.length_nil];omega)) only [go_sem]
 ·rw [if_pos he1] at hG
  subst hG
  simp (disch:=first|assumption|omega|(simp only [List.length_append,List.length_cons,List.length_nil];omega)) only [go_sem,he1,hZl,hZv,hZt,hZd,List.drop_zero]
  refine hE1.mono ?_
  rintro v σ1 ⟨rfl,rfl⟩
  simp (disch:=first|assumption|omega|(simp only [List.length_append,List.length_cons,List.length_nil];omega)) only [go_sem,hZl,hZv,hZt,hZd,List.drop_zero]
  exact retC_by (hdr _ _ _ _) (.refl _) ⟨hgz e1,p1,e1,rfl,fun h=>absurd h he1⟩
end Go.A
namespace Go.A
open Go.Vint
theorem readU_ok {s:List UInt8} {p u p':Nat} {e:Int} (h:readU s p e=(u,p',0)):e=0/\p'=p+(uintB u).length/\s.drop p=uintB u++s.drop p':=by
 unfold readU at h
 by_cases he:e≠0
 ·rw [if_pos he] at h
  simp only [Prod.mk.injEq] at h
  exact absurd h.2.2 he
 ·rw [if_neg he] at h
  simp only [Prod.mk.injEq] at h
  obtain ⟨h1,h2,h3⟩:=h
  obtain ⟨w,h4,h5,h6,_⟩:=scan_of (s.drop p) 0 0 _ _ (by omega) (show scan 0 0 (s.drop p)=(0,(scan 0 0 (s.drop p)).2.1,(scan 0 0 (s.drop p)).2.2) by rw [<-h3])
  simp only [Nat.pow_zero,Nat.mul_one,Nat.zero_add,Nat.sub_zero] at h4 h5 h6
  obtain rfl:w=u:=by omega
  refine ⟨by omega,by omega,?_⟩
  rw [<-h2,← List.drop_drop]
  exact h6
end Go.A
namespace Go.A
open Go.Vint
theorem risF_err {s:List UInt8} {p:Nat} {e:Int} (he:e≠0):∀ {k:Nat} {l:List Int},risF s k l p e=(l,p,e)
 | 0,l=>rfl
 | k+1,l=>by unfold risF;rw [if_pos he]
theorem risF_e0 {s:List UInt8} {p p' k:Nat} {e:Int} {l L:List Int} (h:risF s k l p e=(L,p',0)):e=0:=by
 by_cases he:e=0
 ·exact he
 ·rw [risF_err he] at h;simp at h;exact h.2.2
theorem numsB_drop {l:List Int} {i:Nat} {g:Int} (h:l[i]? = some g):numsB (l.drop i)=uintB g.toNat++numsB (l.drop (i+1)):=by
 obtain ⟨h1,h2⟩:=List.getElem?_eq_some_iff.1 h
 rw [List.drop_eq_getElem_cons h1,h2];rfl
theorem rises_one {u:Nat} (h:u<18446744073709551616):Rises [(u:Int)]:=by
 refine ⟨fun x hx=>?_,fun k x y hx hy=>?_⟩
 ·simp at hx;subst hx;omega
 ·simp at hy
theorem rises_snoc {l:List Int} (h:Rises l) {x v:Int} (hx:l.getLast? = some x) (hv:x<v) (hv1:v<=18446744073709551615):Rises (l ++ [v]):=by
 obtain ⟨m,rfl⟩:∃ m,l=m ++ [x]:=by
  rcases nil_or_snoc l with rfl|⟨a,b,rfl⟩
  ·simp at hx
  ·simp at hx;subst hx;exact ⟨a,rfl⟩
 have h0:(0:Int)<=x:=(h.1 x (by simp)).1
 refine ⟨fun y hy=>?_,fun k a b ha hb=>?_⟩
 ·rcases List.mem_append.1 hy with hy|hy
  ·exact h.1 y hy
  ·simp at hy;subst hy;omega
 ·have hlt:=(List.getElem?_eq_some_iff.1 hb).1
  simp only [List.length_append,List.length_singleton] at hlt
  rcases Nat.lt_or_ge (k+1) (m ++ [x]).length with h1|h1
  ·rw [List.getElem?_append_left (by omega)] at ha
   rw [List.getElem?_append_left h1] at hb
   exact h.2 k a b ha hb
  ·simp only [List.length_append,List.length_singleton] at h1
   obtain rfl:k=m.length:=by omega
   simp at ha hb
   omega
theorem risF_of {s:List UInt8}:∀ (k:Nat) (l:List Int) (p:Nat) (e:Int) (L:List Int) (p':Nat),p<=s.length->Rises l->risF s k l p e=(L,p',0) →
  e=0/\Rises L/\L.take l.length=l/\L.length=l.length+k/\s.drop p=numsB ((gaps L).drop l.length)++s.drop p'/\p'<=s.length
 | 0,l,p,e,L,p',hp,hl,h=>by
   simp only [risF,Prod.mk.injEq] at h
   obtain ⟨rfl,rfl,rfl⟩:=h
   have e2:(gaps l).drop l.length = []:=List.drop_eq_nil_of_le (by rw [gaps_length];omega)
   exact ⟨rfl,hl,List.take_of_length_le (Nat.le_refl _),rfl,by rw [e2];rfl,hp⟩
 | k+1,l,p,e,L,p',hp,hl,h=>by
   obtain rfl:=risF_e0 h
   rw [risF,if_neg (by simp)] at h
   obtain ⟨f1,f2,f3,f4⟩:=readU_facts s p 0 hp
   have fin:∀ (v:Int) (u p1:Nat),readU s p 0=(u,p1,0)->p1<=s.length->Rises (l ++ [v])->((l = []/\v=u)\/∃ x,l.getLast? = some x/\v-x-1=u)->risF s k (l ++ [v]) p1 0=(L,p',0) →
     (0:Int)=0/\Rises L/\L.take l.length=l/\L.length=l.length+(k+1)/\s.drop p=numsB ((gaps L).drop l.length)++s.drop p'/\p'<=s.length:=by
    intro v u p1 hr hp1 hri hv hrest
    obtain ⟨_,h2,h3,h4,h5,h6⟩:=risF_of k (l ++ [v]) p1 0 L p' hp1 hri hrest
    obtain ⟨_,_,h8⟩:=readU_ok hr
    simp only [List.length_append,List.length_singleton] at h3 h4 h5
    have hget:L[l.length]? = some v:=by
     have:(L.take (l.length+1))[l.length]? = some v:=by rw [h3];simp
     rw [List.getElem?_take,if_pos (by omega)] at this
     exact this
    have htl:L.take l.length=l:=by
     have:(L.take (l.length+1)).take l.length=l:=by rw [h3];simp
     rwa [List.take_take,Nat.min_eq_left (by omega)] at this
    have hgap:(gaps L)[l.length]? = some (u:Int):=by
     rcases hv with ⟨rfl,rfl⟩|⟨x,hx,hvx⟩
     ·exact gaps_zero hget
     ·obtain ⟨j,hj⟩:∃ j,l.length=j+1:=by
       cases l with
       | nil=>simp at hx
       | cons a b=>exact ⟨b.length,rfl⟩
      obtain ⟨x',hx1,hx2⟩:=last_at hj
      rw [hx] at hx1
      injection hx1 with hx1
      subst hx1
      have hLj:L[j]? = some x:=by
       rw [<-htl] at hx2
       rw [List.getElem?_take,if_pos (by omega)] at hx2
       exact hx2
      rw [hj] at hget ⊢
      rw [gaps_succ hLj hget,hvx]
    refine ⟨rfl,h2,htl,by omega,?_,h6⟩
    rw [numsB_drop hgap,Int.toNat_natCast,List.append_assoc,← h5]
    exact h8
   split at h
   ·rename_i hnone
    have hl0:l = []:=List.getLast?_eq_none_iff.1 hnone
    have he1:=risF_e0 h
    rw [he1] at h
    exact fin _ (readU s p 0).1 (readU s p 0).2.1 (Prod.ext rfl (Prod.ext rfl he1)) f2 (by rw [hl0];exact rises_one f1) (.inl ⟨hl0,rfl⟩) h
   ·rename_i x hx
    have hxb:=hl.1 x (List.mem_of_getLast? hx)
    have he1:=risF_e0 h
    rw [he1] at h
    unfold afterP at h he1
    split at h
    ·rename_i hc;rw [if_pos hc] at he1;simp at he1
    ·rename_i hc
     rw [if_neg hc] at he1
     dsimp only at h he1
     have hlt:x+(readU s p 0).1+1<18446744073709551616:=by omega
     rw [Int.emod_eq_of_lt (by omega) (by omega)] at h
     exact fin _ (readU s p 0).1 (readU s p 0).2.1 (Prod.ext rfl (Prod.ext rfl he1)) f2 (rises_snoc hl hx (by omega) (by omega)) (.inr ⟨x,hx,by omega⟩) h
theorem count_of {s:List UInt8} {p p' n most:Nat} {e:Int} (h:countP s p e most=(n,p',0)):e=0/\s.drop p=uintB n++s.drop p'/\n<=most:=by
 unfold countP at h
 split at h
 ·rename_i he
  simp only [Prod.mk.injEq] at h
  exact absurd h.2.2 he
 ·rename_i he
  split at h
  ·simp at h
  ·simp only [Prod.mk.injEq] at h
   obtain ⟨h1,h2,_⟩:=h
   obtain ⟨h3,_,h5⟩:=readU_ok (show readU s p e=(n,p',0) from Prod.ext h1 (Prod.ext h2 (by simpa using he)))
   exact ⟨h3,h5,by omega⟩
theorem risingR_of {s:List UInt8} {p most p':Nat} {e:Int} {L:List Int} (hp:p<=s.length) (h:risingR s p e most=(L,p',0)):e=0/\Rises L/\s.drop p=risingB L++s.drop p'/\L.length<=most:=by
 unfold risingR at h
 split at h
 ·rename_i he
  simp only [Prod.mk.injEq] at h
  rw [h.2] at he
  simp at he
 ·rename_i he
  obtain ⟨c1,c2⟩:=countP_facts s p e most hp
  have hri:Rises []:=⟨fun x hx=>by simp at hx,fun k x y hx=>by simp at hx⟩
  obtain ⟨h1,h2,h3,h4,h5,h6⟩:=risF_of _ _ _ _ _ _ c2 hri h
  obtain ⟨h7,h8,h9⟩:=count_of (Prod.ext rfl (Prod.ext rfl h1):countP s p e most=((countP s p e most).1,(countP s p e most).2.1,0))
  simp only [List.length_nil,Nat.zero_add,List.drop_zero] at h4 h5
  refine ⟨h7,h2,?_,by omega⟩
  unfold risingB
  rw [List.append_assoc,← h5,h4]
  exact h8
end Go.A
namespace Go.A
open Go.Proofs
/-! 25: tabular/tile.Read -/
def c25_8:ACode := .ops [ oq 30 (.build [(.int .i64 0),(.int .i64 0),(.str []),(.int .i64 0),(.int .i64 0),(.bool false),(.bool false),(.int .i64 0),(.int .i64 0),(.bool false),(.bool false),(.sl .full []),.nili,(.int .i64 0),(.int .i64 0),(.str []),(.int .i64 0),(.int .i64 0),(.bool false),(.bool false),(.int .i64 0),(.int .i64 0),(.bool false),(.bool false),(.sl .full []),.nili,(.int .i64 0),(.int .i64 0),(.str []),(.int .i64 0),(.int .i64 0),(.bool false),(.bool false),(.int .i64 0),(.int .i64 0),(.bool false),(.bool false),(.sl .full []),.nili,(.int .i64 0),(.int .i64 0),(.str []),(.int .i64 0),(.int .i64 0),(.bool false),(.bool false),(.int .i64 0),(.int .i64 0),(.bool false),(.bool false),(.sl .full []),.nili,(.int .i64 0),(.int .i64 0),(.str []),(.int .i64 0),(.int .i64 0),(.bool false),(.bool false),(.int .i64 0),(.int .i64 0),(.bool false),(.bool false),(.sl .full []),.nili,(.int .i64 0),(.int .i64 0),(.str []),(.int .i64 0),(.int .i64 0),(.bool false),(.bool false),(.int .i64 0),(.int .i64 0),(.bool false),(.bool false),(.sl .full []),.nili,(.int .i64 0),(.int .i64 0),(.str []),(.int .i64 0),(.int .i64 0),(.bool false),(.bool false),(.int .i64 0),(.int .i64 0),(.bool false),(.bool false),(.sl .full []),.nili,(.int .i64 0),(.int .i64 0),(.str []),(.int .i64 0),(.int .i64 0),(.bool false),(.bool false),(.int .i64 0),(.int .i64 0),(.bool false),(.bool false),(.sl .full []),.nili,(.int .i64 0),(.int .i64 0),(.str []),(.int .i64 0),(.int .i64 0),(.bool false),(.bool false),(.int .i64 0),(.int .i64 0),(.bool false),(.bool false),(.sl .full []),.nili,(.int .i64 0),(.int .i64 0),(.str []),(.int .i64 0),(.int .i64 0),(.bool false),(.bool false),(.int .i64 0),(.int .i64 0),(.bool false),(.bool false),(.sl .full []),.nili,(.int .i64 0),(.int .i64 0),(.str []),(.int .i64 0),(.int .i64 0),(.bool false),(.bool false),(.int .i64 0),(.int .i64 0),(.bool false),(.bool false),(.sl .full []),.nili,(.int .i64 0),(.int .i64 0),(.str []),(.int .i64 0),(.int .i64 0),(.bool false),(.bool false),(.int .i64 0),(.int .i64 0),(.bool false),(.bool false),(.sl .full []),.nili,(.int .i64 0),(.int .i64 0),(.str []),(.int .i64 0),(.int .i64 0),(.bool false),(.bool false),(.int .i64 0),(.int .i64 0),(.bool false),(.bool false),(.sl .full []),.nili,(.int .i64 0),(.int .i64 0),(.str []),(.int .i64 0),(.int .i64 0),(.bool false),(.bool false),(.int .i64 0),(.int .i64 0),(.bool false),(.bool false),(.sl .full []),.nili,(.int .i64 0),(.int .i64 0),(.str []),(.int .i64 0),(.int .i64 0),(.bool false),(.bool false),(.int .i64 0),(.int .i64 0),(.bool false),(.bool false),(.sl .full []),.nili,(.int .i64 0),(.int .i64 0),(.str []),(.int .i64 0),(.int .i64 0),(.bool false),(.bool false),(.int .i64 0),(.int .i64 0),(.bool false),(.bool false),(.sl .full []),.nili,(.int .i64 0),(.int .i64 0),(.str []),(.int .i64 0),(.int .i64 0),(.bool false),(.bool false),(.int .i64 0),(.int .i64 0),(.bool false),(.bool false),(.sl .full []),.nili,(.int .i64 0),(.int .i64 0),(.str []),(.int .i64 0),(.int .i64 0),(.bool false),(.bool false),(.int .i64 0),(.int .i64 0),(.bool false),(.bool false),(.sl .full []),.nili,(.int .i64 0),(.int .i64 0),(.str []),(.int .i64 0),(.int .i64 0),(.bool false),(.bool false),(.int .i64 0),(.int .i64 0),(.bool false),(.bool false),(.sl .full []),.nili,(.int .i64 0),(.int .i64 0),(.str []),(.int .i64 0),(.int .i64 0),(.bool false),(.bool false),(.int .i64 0),(.int .i64 0),(.bool false),(.bool false),(.sl .full []),.nili,(.int .i64 0),(.int .i64 0),(.str []),(.int .i64 0),(.int .i64 0),(.bool false),(.bool false),(.int .i64 0),(.int .i64 0),(.bool false),(.bool false),(.sl .full []),.nili,(.int .i64 0),(.int .i64 0),(.str []),(.int .i64 0),(.int .i64 0),(.bool false),(.bool false),(.int .i64 0),(.int .i64 0),(.bool false),(.bool false),(.sl .full []),.nili,(.int .i64 0),(.int .i64 0),(.str []),(.int .i64 0),(.int .i64 0),(.bool false),(.bool false),(.int .i64 0),(.int .i64 0),(.bool false),(.bool false),(.sl .full []),.nili,(.int .i64 0),(.int .i64 0),(.str []),(.int .i64 0),(.int .i64 0),(.bool false),(.bool false),(.int .i64 0),(.int .i64 0),(.bool false),(.bool false),(.sl .full []),.nili,(.int .i64 0),(.int .i64 0),(.str []),(.int .i64 0),(.int .i64 0),(.bool false),(.bool false),(.int .i64 0),(.int .i64 0),(.bool false),(.bool false),(.sl .full []),.nili,(.int .i64 0),(.int .i64 0),(.str []),(.int .i64 0),(.int .i64 0),(.bool false),(.bool false),(.int .i64 0),(.int .i64 0),(.bool false),(.bool false),(.sl .full []),.nili,(.int .i64 0),(.int .i64 0),(.str []),(.int .i64 0),(.int .i64 0),(.bool false),(.bool false),(.int .i64 0),(.int .i64 0),(.bool false),(.bool false),(.sl .full []),.nili,(.int .i64 0),(.int .i64 0),(.str []),(.int .i64 0),(.int .i64 0),(.bool false),(.bool false),(.int .i64 0),(.int .i64 0),(.bool false),(.bool false),(.sl .full []),.nili,(.int .i64 0),(.int .i64 0),(.str []),(.int .i64 0),(.int .i64 0),(.bool false),(.bool false),(.int .i64 0),(.int .i64 0),(.bool false),(.bool false),(.sl .full []),.nili,(.int .i64 0),(.int .i64 0),(.str []),(.int .i64 0),(.int .i64 0),(.bool false),(.bool false),(.int .i64 0),(.int .i64 0),(.bool false),(.bool false),(.sl .full []),.nili,(.int .i64 0),(.int .i64 0),(.str []),(.int .i64 0),(.int .i64 0),(.bool false),(.bool false),(.int .i64 0),(.int .i64 0),(.bool false),(.bool false),(.sl .full []),.nili,(.int .i64 0),(.int .i64 0),(.str []),(.int .i64 0),(.int .i64 0),(.bool false),(.bool false),(.int .i64 0),(.int .i64 0),(.bool false),(.bool false),(.sl .full []),.nili] []),oe 31 (.box (.t 30)),oq 7 (.mv (.t 31))]
def c25_22:ACode := .seq (.ops [ oq 37 (.bin .lss (.t 36) (.v (.int .i64 32)))]) (.seq (.cond (.t 37) .skip (.exit 0)) (.seq (.block 1 (.seq (.ops [ oq 38 (.mv (.t 36)),oq 9 (.mv (.t 38))]) (.ops [ oq 39 (.mv (.t 8)),oq 40 (.mv (.t 6)),oq 41 (.conv .i64 (.t 40)),oq 42 (.mv (.t 9)),oe 43 (.call 42 [(.t 41),(.t 42)]),oq 44 (.conv .u64 (.t 43)),oq 45 (.bsl 1 [(.t 44)]),oe 46 (.app 94 1 8 [(.int .u64 0)] (.t 39) (.t 45)),oq 8 (.mv (.t 46))]))) (.ops [ oq 47 (.bin .add (.t 36) (.v (.int .i64 1))),oq 36 (.mv (.t 47))])))
def c25_57:ACode := .seq (.ops [ oq 56 (.bin .lss (.t 55) (.t 54))]) (.seq (.cond (.t 56) .skip (.exit 2)) (.seq (.block 3 (.seq (.ops [ oq 57 (.ia 1 (.t 53) (.t 55)),oq 58 (.ld none (.t 57)),oq 11 (.mv (.t 58))]) (.seq (.seq (.ops [ oq 59 (.mv (.t 11)),oq 60 (.bin .geq (.t 59) (.v (.int .u64 32)))]) (.cond (.t 60) (.seq (.ops [ oq 2 (.mv (.v .nilp)),oq 3 (.mv (.v (.int .i64 0))),oq 4 (.mv (.v (.int .i64 3)))]) .ret) .skip)) (.seq (.ops [ oq 62 (.mv (.t 5)),oq 63 (.mv (.t 6)),oq 64 (.bin .neq (.t 63) (.v (.int .u64 3))),oe 65 (.call 56 [(.t 62),(.t 64)]),oq 61 (.mv (.t 65)),oq 66 (.ext 0 (.t 61)),oq 67 (.ext 1 (.t 61)),oe 12 (.alloc [(.int .i64 0),(.int .i64 0),(.str []),(.int .i64 0),(.int .i64 0),(.bool false),(.bool false),(.int .i64 0),(.int .i64 0),(.bool false),(.bool false),(.sl .full []),.nili]),oz (.store 13 (.t 12) (.t 66)),oq 13 (.mv (.t 67))]) (.seq (.seq (.ops [ oq 68 (.mv (.t 13)),oq 69 (.bin .neq (.t 68) (.v (.int .i64 0)))]) (.cond (.t 69) (.seq (.ops [ oq 70 (.mv (.t 13)),oq 2 (.mv (.v .nilp)),oq 3 (.mv (.v (.int .i64 0))),oq 4 (.mv (.t 70))]) .ret) .skip)) (.ops [ oq 71 (.mv (.t 7)),oq 72 (.mv (.t 11)),oq 73 (.ld (some 13) (.t 12)),oq 74 (.nc (.t 71)),oq 75 (.iaa 32 13 (.t 74) (.t 72)),oz (.store 13 (.t 75) (.t 73))])))))) (.ops [ oq 76 (.bin .add (.t 55) (.v (.int .i64 1))),oq 55 (.mv (.t 76))])))
def c25_71:ACode := .seq (.seq (.ops [ oq 53 (.mv (.t 8)),oq 54 (.len (.t 53)),oq 55 (.mv (.v (.int .i64 0)))]) (.block 2 (.loop c25_57))) (.seq (.seq (.ops [ oq 77 (.mv (.t 5)),oe 78 (.call 57 [(.t 77)]),oq 14 (.mv (.t 78))]) (.seq (.ops [ oq 79 (.mv (.t 14)),oq 80 (.bin .neq (.t 79) (.v (.int .i64 0)))]) (.cond (.t 80) (.seq (.ops [ oq 81 (.mv (.t 14)),oq 2 (.mv (.v .nilp)),oq 3 (.mv (.v (.int .i64 0))),oq 4 (.mv (.t 81))]) .ret) .skip))) (.seq (.ops [ oq 82 (.mv (.t 7)),oq 83 (.mv (.t 6)),oq 84 (.conv .i64 (.t 83)),oq 2 (.mv (.t 82)),oq 3 (.mv (.t 84)),oq 4 (.mv (.v (.int .i64 0)))]) .ret))
def c25_72:ACode := .seq (.seq (.ops [ oq 48 (.mv (.t 5)),oe 49 (.call 54 [(.t 48)]),oq 50 (.bin .neq (.t 49) (.v (.int .i64 0)))]) (.cond (.t 50) (.seq (.ops [ oq 51 (.mv (.t 5)),oe 52 (.call 54 [(.t 51)]),oq 2 (.mv (.v .nilp)),oq 3 (.mv (.v (.int .i64 0))),oq 4 (.mv (.t 52))]) .ret) .skip)) c25_71
def c25_73:ACode := .seq (.seq (.ops [ oq 32 (.mv (.t 6)),oq 33 (.bin .eql (.t 32) (.v (.int .u64 3)))]) (.cond (.t 33) (.ops [ oq 34 (.mv (.t 5)),oe 35 (.call 55 [(.t 34),(.v (.int .i64 32))]),oq 8 (.mv (.t 35))]) (.seq (.ops [ oq 36 (.mv (.v (.int .i64 0)))]) (.block 0 (.loop c25_22))))) c25_72
def c25_74:ACode := .seq (.ops [ oq 8 (.mv (.v (.sl .full [])))]) c25_73
def c25_75:ACode := .seq c25_8 c25_74
def c25_76:ACode := .seq (.seq (.ops [ oq 19 (.mv (.t 5)),oe 20 (.call 54 [(.t 19)]),oq 21 (.bin .eql (.t 20) (.v (.int .i64 0))),oq 22 (.mv (.t 21)),⟨some 23,some (22,true),.q (.mv (.t 6)),[]⟩,⟨some 24,some (22,true),.q (.bin .lss (.t 23) (.v (.int .u64 1))),[]⟩,⟨some 25,some (22,true),.q (.mv (.t 24)),[]⟩,⟨some 26,some (25,false),.q (.mv (.t 6)),[]⟩,⟨some 27,some (25,false),.q (.bin .gtr (.t 26) (.v (.int .u64 3))),[]⟩,⟨some 28,some (22,true),.q (.pick (.t 25) (.v (.bool true)) (.t 27)),[]⟩,oq 29 (.pick (.t 22) (.t 28) (.v (.bool false)))]) (.cond (.t 29) (.seq (.ops [ oq 2 (.mv (.v .nilp)),oq 3 (.mv (.v (.int .i64 0))),oq 4 (.mv (.v (.int .i64 3)))]) .ret) .skip)) c25_75
def c25_77:ACode := .seq (.ops [ oq 17 (.mv (.t 5)),oe 18 (.call 53 [(.t 17)]),oq 6 (.mv (.t 18))]) c25_76
def c25_78:ACode := .seq (.ops [ oq 15 (.mv (.t 0)),oe 16 (.call 52 [(.t 15)]),oq 5 (.mv (.t 16))]) c25_77
def c25_79:ACode := .seq (.ops [ oq 2 (.mv (.v .nilp)),oq 3 (.mv (.v (.int .i64 0))),oq 4 (.mv (.v (.int .i64 0)))]) c25_78
@[go_sem] def c25_22_wp:=wp_of c25_22.eq_1
@[go_sem] def c25_57_wp:=wp_of c25_57.eq_1
@[go_sem] def c25_71_wp:=wp_of c25_71.eq_1
def c25:AFn:=⟨85,[.t 2,.t 3,.t 4],c25_79⟩
theorem c25_ok:compF Tryz.prog Tryz.f25=some c25:=by kernel_rfl
theorem a25 {args:List AV} {σ:ASt} {R:AV->ASt->Prop} (hl:args.length<=85) (h:c25_79.wp Tryz.prog (RetQ [.t 2,.t 3,.t 4] R) (init args) σ):ACalls Tryz.prog 25 args σ R:=acalls_of Tryz.func25 c25_ok hl h
end Go.A
namespace Go.A
open Go.Proofs Go.Lib Go.Vint
theorem endV_place (k y:Int) (z:List UInt8) (p:Nat):(endV k y z p).2.2=p:=by unfold endV;split<;>rfl
theorem getV_facts {s:List UInt8} {p:Nat} (hp:p<=s.length):(getV s p).2.2<=s.length:=by
 obtain ⟨f1,f2,f3,f4⟩:=readU_facts s p 0 hp
 have hq2:=readU_facts s (readU s p 0).2.1 0 f2
 have hx2:=rtxP_facts s (readU s p 0).2.1 2000 f2
 unfold getV
 split
 ·exact f2
 split
 ·split
  ·exact hq2.2.1
  ·rw [endV_place];exact hq2.2.1
 split
 ·split
  ·exact hx2.1
  ·rw [endV_place];exact hx2.1
 ·rw [endV_place];exact f2
theorem endC_place (t:Nd) (G:PV×Int×Nat):(endC t G).2.2=G.2.2:=by
 unfold endC
 split
 ·rfl
 ·split<;>rfl
theorem getC_facts {s:List UInt8} {p:Nat} (hp:p<=s.length) (em:Bool):(getC s p em).2.2<=s.length:=by
 obtain ⟨f1,f2,f3,f4⟩:=readU_facts s p 0 hp
 have ht:=treeR_facts s 2101 (readU s p 0).2.1 f2
 unfold getC
 split
 ·exact f2
 split
 ·exact f2
 split
 ·exact f2
 split
 ·split
  ·exact ht.1
  ·rw [endC_place];exact getV_facts ht.1
 ·rw [endC_place];exact getV_facts f2
theorem risF_place (s:List UInt8):∀ (k:Nat) (l:List Int) (p:Nat) (e:Int),p<=s.length->(∀ x∈l,0<=x/\x<=18446744073709551615)->(risF s k l p e).2.1<=s.length/\∀ x∈(risF s k l p e).1,0<=x/\x<=18446744073709551615
 | 0,l,p,e,hp,hl=>⟨hp,hl⟩
 | k+1,l,p,e,hp,hl=>by
   obtain ⟨f1,f2,f3,f4⟩:=readU_facts s p e hp
   rw [risF]
   split
   ·exact ⟨hp,hl⟩
   ·split
    ·refine risF_place s k _ _ _ f2 fun x hx=>?_
     rcases List.mem_append.1 hx with hx|hx
     ·exact hl x hx
     ·rw [List.mem_singleton.1 hx];omega
    ·rename_i x hx
     have hxm:=hl x (List.mem_of_getLast? hx)
     obtain ⟨g1,g2,g3⟩:=afterP_facts s p e x hp hxm.1 hxm.2
     refine risF_place s k _ _ _ g3 fun y hy=>?_
     rcases List.mem_append.1 hy with hy|hy
     ·exact hl y hy
     ·rw [List.mem_singleton.1 hy];exact ⟨g1,g2⟩
theorem risingR_place {s:List UInt8} {p most:Nat} {e:Int} (hp:p<=s.length):(risingR s p e most).2.1<=s.length/\∀ x∈(risingR s p e most).1,0<=x/\x<=18446744073709551615:=by
 have hc:=countP_facts s p e most hp
 have h:=risF_place s (countP s p e most).1 [] (countP s p e most).2.1 (countP s p e most).2.2 hc.2 (fun x hx=>by cases hx)
 unfold risingR
 split
 ·exact ⟨h.1,fun x hx=>by cases hx⟩
 ·exact h
def cellsR (s:List UInt8) (em:Bool):List Int->Nat->List TC->List TC×Int×Nat
 | [],p,T=>(T,0,p)
 | i::ls,p,T=>if 32<=i then (T,3,p) else if (getC s p em).2.1≠0 then (T,(getC s p em).2.1,p) else cellsR s em ls (getC s p em).2.2 (T.set i.toNat (getC s p em).1)
def finR (s:List UInt8) (u:Nat) (R:List TC×Int×Nat):List TC×Nat×Int:=if R.2.1≠0 then ([],0,R.2.1) else if R.2.2<s.length then ([],0,3) else (R.1,u,0)
def placesL (u:Nat):List Int:=(List.range 32).map fun i=>((placeN (u:Int) i:Nat):Int)
def tileR (s:List UInt8):List TC×Nat×Int:=
 if (readU s 0 0).2.2≠0 then ([],0,(readU s 0 0).2.2)
 else if (readU s 0 0).1<1\/3<(readU s 0 0).1 then ([],0,3)
 else if (readU s 0 0).1=3 then
  if (risingR s (readU s 0 0).2.1 0 32).2.2≠0 then ([],0,(risingR s (readU s 0 0).2.1 0 32).2.2)
  else finR s 3 (cellsR s false (risingR s (readU s 0 0).2.1 0 32).1 (risingR s (readU s 0 0).2.1 0 32).2.1 (List.replicate 32 zTC))
 else finR s (readU s 0 0).1 (cellsR s true (placesL (readU s 0 0).1) (readU s 0 0).2.1 (List.replicate 32 zTC))
def TreadQ (σ:ASt) (R:List TC×Nat×Int) (v:AV) (σ':ASt):Prop:=
 (R.2.2=0/\∃ q,σ q=none/\v = .tuple [.ptr q 0,.int .i64 R.2.1,.int .i64 0]/\σ'=σ.set q (some (.obj (tileCs R.1))))\/(R.2.2≠0/\v = .tuple [.nilp,.int .i64 0,.int .i64 R.2.2]/\σ'=σ)
set_option maxHeartbeats 4000000 in
theorem tread_tail {σ S:ASt} {s:List UInt8} (hs:s.length<=10000000) {b q p u:Nat} (hu:u<=3) (hp:p<=s.length) {kk:SK} {ns:List Int} (hns:∀ x∈ns,0<=x/\x<=18446744073709551615) (hnl:ns.length<=1000) {Zc:List AV} (hZc:deeps Zc=tileCs (List.replicate 32 zTC))
  (hb:S b=rd s p 0) (hq:S q=some (.obj Zc)) (hbq:b≠q) (hsb:σ b=none) (hsq:σ q=none) (hout:∀ x,x≠b->x≠q->σ x=S x\/σ x=none) (hU:U8 S) (a1:AFr)
  (hf:a1 5 = .ptr b 0/\a1 6 = .int .u64 u/\a1 7 = .ptr q 0/\a1 8 = .sl kk (ns.map (AV.int .u64))) :
  ACode.wp Tryz.prog c25_71 (RetQ [.t 2,.t 3,.t 4] (TreadQ σ (finR s u (cellsR s (decide (u≠3)) ns p (List.replicate 32 zTC))))) a1 S:=by
 have hqb:q≠b:=Ne.symm hbq
 obtain ⟨RES,hRES⟩:∃ R,cellsR s (decide (u≠3)) ns p (List.replicate 32 zTC)=R:=⟨_,rfl⟩
 rw [hRES]
 have hS:S=(S.set b (rd s p 0)).set q (some (.obj Zc)):=by
  funext x
  by_cases h1:x=q
  ·rw [h1,ASt.set_same,hq]
  by_cases h2:x=b
  ·rw [h2,ASt.set_ne hbq,ASt.set_same,hb]
  ·rw [ASt.set_ne h1,ASt.set_ne h2]
 have hsd:SDrop ((S.set b (rd s p 0)).set q (some (.obj Zc))) ((S.set b (rd s p 0)).set q (some (.obj (tileCs (List.replicate 32 zTC))))):=SDrop.cong (SDrop.refl _) hZc
 have hUU:∀ (P:Nat) (E:Int) (cs:List AV),U8 ((S.set b (rd s P E)).set q (some (.obj cs))):=fun P E cs=>U8.objs (cs:=Zc) (U8.rd hU hb P E) (by rw [ASt.set_ne hqb];exact hq)
 have hG:=fun (T:List TC) (P:Nat) (hP:P<=s.length) (em:Bool)=>tget_ok (hUU P 0 (tileCs T)) s P b (by rw [ASt.set_ne hbq,ASt.set_same]) hs hP em
 have hsw:∀ (X Y Z:Option Role),((S.set b X).set q Y).set b Z=(S.set b Z).set q Y:=fun X Y Z=>by rw [set_swap hqb,ASt.set_set]
 have hdn:=fun (T:List TC) (P:Nat)=>rdone_ok s P 0 b ((S.set b (rd s P 0)).set q (some (.obj (tileCs T)))) (by rw [ASt.set_ne hbq,ASt.set_same])
 have hdr0:∀ X Y,Drop ((S.set b X).set q Y) σ:=fun X Y x=>by
  by_cases h1:x=q
  ·rw [h1];exact .inr hsq
  by_cases h2:x=b
  ·rw [h2];exact .inr hsb
  rw [ASt.set_ne h1,ASt.set_ne h2]
  exact hout x h2 h1
 have hdr1:∀ X Y,Drop ((S.set b X).set q Y) (σ.set q Y):=fun X Y x=>by
  by_cases h1:x=q
  ·rw [h1,ASt.set_same,ASt.set_same];exact .inl rfl
  rw [ASt.set_ne h1,ASt.set_ne h1]
  by_cases h2:x=b
  ·rw [h2];exact .inr hsb
  rw [ASt.set_ne h2]
  exact hout x h2 h1
 have hnl':((ns.map (AV.int .u64)).length:Int)=(ns.length:Int):=by rw [List.length_map]
 obtain ⟨J,hJ⟩:∃ J:Nat->AFr->ASt->Prop,J=fun j a s2=>j<=ns.length/\(a 5 = .ptr b 0/\a 6 = .int .u64 u/\a 7 = .ptr q 0/\a 53 = .sl kk (ns.map (AV.int .u64))/\a 54 = .int .i64 ns.length/\a 55 = .int .i64 j)/\∃ T P,T.length=32/\P<=s.length/\cellsR s (decide (u≠3)) (ns.drop j) P T=RES/\s2=(S.set b (rd s P 0)).set q (some (.obj (tileCs T))):=⟨_,rfl⟩
 rw [hS]
 simp (disch:=first|assumption|omega|(simp only [List.length_append,List.length_cons,List.length_nil];omega)) only [go_sem,hf,hnl']
 refine wp_loop_by J (fun j=>ns.length-j) 0 (Dr.sdrop hsd ?_) ?_
 ·rw [hJ]
  refine ⟨Nat.zero_le _,?_,_,p,List.length_replicate,hp,hRES,rfl⟩
  simp (disch:=first|assumption|omega|(simp only [List.length_append,List.length_cons,List.length_nil];omega)) only [go_sem,hf]
 clear hf hsd hS hRES hb hq
 intro j a2 s2 hjj
 rw [hJ] at hjj
 obtain ⟨hj,hf,T,P,hTl,hP,hR,rfl⟩:=hjj
 by_cases hlt:j<ns.length
 ·have hlt':(j:Int)<(ns.length:Int):=by omega
  obtain ⟨i,hi⟩:∃ i,ns[j]? = some i:=⟨_,List.getElem?_eq_getElem hlt⟩
  have hib:=hns i (List.mem_of_getElem? hi)
  have hix:(ns.map (AV.int .u64))[j]? = some (.int .u64 i):=by rw [List.getElem?_map,hi];rfl
  have hdrop:ns.drop j=i::ns.drop (j+1):=by
   obtain ⟨_,rfl⟩:=List.getElem?_eq_some_iff.1 hi
   exact List.drop_eq_getElem_cons hlt
  rw [hdrop,cellsR] at hR
  by_cases h32:32<=i
  ·rw [if_pos h32] at hR
   subst hR
   simp (disch:=first|assumption|omega|(simp only [List.length_append,List.length_cons,List.length_nil];omega)) only [go_sem,hf,hlt',hix,h32]
   exact retC_by (hdr0 _ _) (.refl _) (.inr ⟨by rw [finR,if_pos (show (3:Int)≠0 by decide)];exact (by decide:(3:Int)≠0),by rw [finR,if_pos (show (3:Int)≠0 by decide)];rfl,rfl⟩)
  ·rw [if_neg h32] at hR
   have hE:=hG T P hP (decide (u≠3))
   have hGf:=getC_facts hP (decide (u≠3))
   obtain ⟨⟨c,e,P2⟩,hGe⟩:∃ G,getC s P (decide (u≠3))=G:=⟨_,rfl⟩
   rw [hGe] at hE hR hGf
   dsimp only at hR hGf
   have hdec:decide (u≠3) = !decide ((u:Int)=3):=by
    by_cases h3:u=3
    ·rw [h3];rfl
    ·rw [decide_eq_true h3,decide_eq_false (by omega:¬ (u:Int)=3)];rfl
   rw [hdec] at hE
   simp (disch:=first|assumption|omega|(simp only [List.length_append,List.length_cons,List.length_nil];omega)) only [go_sem,hf,hlt',hix,h32]
   refine hE.mono ?_
   rintro v σ1 ⟨rfl,P',E',rfl,hPE⟩
   dsimp only at hPE
   rw [hsw]
   simp (disch:=first|assumption|omega|(simp only [List.length_append,List.length_cons,List.length_nil];omega)) only [go_sem]
   refine allocC_by fun c12 h12=>?_
   have h12q:c12≠q:=by rintro rfl;rw [ASt.set_same] at h12;cases h12
   rw [ASt.set_ne h12q] at h12
   have h12b:c12≠b:=by rintro rfl;unfold A.rd at h12;rw [ASt.set_same] at h12;cases h12
   rw [ASt.set_ne h12b] at h12
   have hs12:σ c12=none:=(hout c12 h12b h12q).elim (fun h=>h.trans h12) id
   have hf1:=TC.cs_leaf c
   have hn1:=TC.cs_len c
   have hset1:=flat_set TC.cs_len c T i.toNat (by omega)
   have hcl:=flat_len TC.cs_len T
   have hTl2:(T.set i.toNat c).length=32:=by rw [List.length_set];exact hTl
   have hcd:∀ T,T.flatMap TC.cs=tileCs T:=fun _=>rfl
   rw [hcd,hcd] at hset1
   rw [hcd] at hcl
   rw [TC.av_cs]
   generalize hT2:T.set i.toNat c=T2 at *
   generalize hC2:tileCs T2=C2 at *
   generalize hC1:tileCs T=C1 at *
   generalize c.cs=mcs at *
   have hb1:i.toNat*13+13<=C1.length:=by omega
   have hi32:i<32:=by omega
   have htk:mcs.take 13=mcs:=List.take_of_length_le (by omega)
   by_cases he:e=0
   ·rw [if_neg (fun h=>h he)] at hR
    obtain ⟨rfl,rfl⟩:=hPE he
    simp (disch:=first|assumption|omega|(simp only [List.length_append,List.length_cons,List.length_nil];omega)) only [go_sem,hf,hf1,hn1,he,hi32,hib,hb1,hset1,htk,Nat.zero_add]
    refine ⟨j+1,by dsimp only;omega,?_⟩
    rw [set_swap h12q,ASt.set_set]
    refine Dr.drop (Drop.set (by rw [ASt.set_ne h12q,ASt.set_ne h12b];exact h12)) ?_
    rw [hJ]
    refine ⟨by omega,?_,T2,P',hTl2,hGf,hR,by rw [hC2]⟩
    simp (disch:=first|assumption|omega|(simp only [List.length_append,List.length_cons,List.length_nil];omega)) only [go_sem,hf]
   ·rw [if_pos he] at hR
    subst hR
    simp (disch:=first|assumption|omega|(simp only [List.length_append,List.length_cons,List.length_nil];omega)) only [go_sem,hf,hf1,hn1,he]
    refine retC_by (σ':=σ) (fun y=>?_) (.refl _) (.inr ⟨by rw [finR,if_pos (by exact he)];exact he,by rw [finR,if_pos (by exact he)];rfl,rfl⟩)
    by_cases y1:y=c12
    ·rw [y1];exact .inr hs12
    rw [ASt.set_ne y1]
    exact hdr0 _ _ y
 ·have hlt':¬ (j:Int)<(ns.length:Int):=by omega
  rw [List.drop_of_length_le (by omega),cellsR] at hR
  subst hR
  have hD:=hdn T P
  by_cases hPl:P<s.length
  ·rw [if_pos hPl] at hD
   simp (disch:=first|assumption|omega|(simp only [List.length_append,List.length_cons,List.length_nil];omega)) only [go_sem,hf,hlt']
   refine hD.mono ?_
   rintro v σ1 ⟨rfl,rfl⟩
   simp (disch:=first|assumption|omega|(simp only [List.length_append,List.length_cons,List.length_nil];omega)) only [go_sem,firstErr]
   exact retC_by (by rw [hsw];exact hdr0 _ _) (.refl _) (.inr ⟨by rw [finR,if_neg (fun h=>h rfl),if_pos (by exact hPl)];exact (by decide:(3:Int)≠0),by rw [finR,if_neg (fun h=>h rfl),if_pos (by exact hPl)];rfl,rfl⟩)
  ·rw [if_neg hPl] at hD
   simp (disch:=first|assumption|omega|(simp only [List.length_append,List.length_cons,List.length_nil];omega)) only [go_sem,hf,hlt']
   refine hD.mono ?_
   rintro v σ1 ⟨rfl,rfl⟩
   simp (disch:=first|assumption|omega|(simp only [List.length_append,List.length_cons,List.length_nil];omega)) only [go_sem,hf]
   exact retC_by (by rw [hsw];exact hdr1 _ _) (.refl _) (.inl ⟨by rw [finR,if_neg (fun h=>h rfl),if_neg (by exact hPl)],q,hsq,by rw [finR,if_neg (fun h=>h rfl),if_neg (by exact hPl)];rfl,by rw [finR,if_neg (fun h=>h rfl),if_neg (by exact hPl)]⟩)
set_option maxHeartbeats 2000000 in
theorem tread_post {σ S:ASt} {s:List UInt8} (hs:s.length<=10000000) {b q p u:Nat} {E:Int} (hu:u<=3) (hp:p<=s.length) {kk:SK} {ns:List Int} (hns:∀ x∈ns,0<=x/\x<=18446744073709551615) (hnl:ns.length<=1000) {Zc:List AV} (hZc:deeps Zc=tileCs (List.replicate 32 zTC))
  (hb:S b=rd s p E) (hq:S q=some (.obj Zc)) (hbq:b≠q) (hsb:σ b=none) (hsq:σ q=none) (hout:∀ x,x≠b->x≠q->σ x=S x\/σ x=none) (hU:U8 S) (a1:AFr)
  (hf:a1 5 = .ptr b 0/\a1 6 = .int .u64 u/\a1 7 = .ptr q 0/\a1 8 = .sl kk (ns.map (AV.int .u64))) {R:List TC×Nat×Int}
  (hR:if E≠0 then R.2.2=E else R=finR s u (cellsR s (decide (u≠3)) ns p (List.replicate 32 zTC))) :
  ACode.wp Tryz.prog c25_72 (RetQ [.t 2,.t 3,.t 4] (TreadQ σ R)) a1 S:=by
 have hE:=rerr_ok s p E b S hb
 obtain ⟨K,hK⟩:∃ K,K=c25_71:=⟨_,rfl⟩
 rw [c25_72.eq_1,← hK]
 by_cases he:E=0
 ·subst he
  rw [if_neg (fun h=>h rfl)] at hR
  subst hR
  simp (disch:=first|assumption|omega|(simp only [List.length_append,List.length_cons,List.length_nil];omega)) only [go_sem,hf]
  refine hE.mono ?_
  rintro v σ1 ⟨rfl,rfl⟩
  simp (disch:=first|assumption|omega|(simp only [List.length_append,List.length_cons,List.length_nil];omega)) only [go_sem]
  rw [hK]
  refine tread_tail (kk:=kk) hs hu hp hns hnl hZc hb hq hbq hsb hsq hout hU _ ?_
  simp (disch:=first|assumption|omega|(simp only [List.length_append,List.length_cons,List.length_nil];omega)) only [go_sem,hf]
 ·rw [if_pos he] at hR
  simp (disch:=first|assumption|omega|(simp only [List.length_append,List.length_cons,List.length_nil];omega)) only [go_sem,hf]
  refine hE.mono ?_
  rintro v σ1 ⟨rfl,rfl⟩
  simp (disch:=first|assumption|omega|(simp only [List.length_append,List.length_cons,List.length_nil];omega)) only [go_sem,hf,he]
  refine hE.mono ?_
  rintro v σ1 ⟨rfl,rfl⟩
  simp (disch:=first|assumption|omega|(simp only [List.length_append,List.length_cons,List.length_nil];omega)) only [go_sem,hf,he]
  refine retC_by (σ':=σ) (fun y=>?_) (.refl _) (.inr ⟨by rw [hR];exact he,by rw [hR];rfl,rfl⟩)
  by_cases y1:y=b
  ·rw [y1];exact .inr hsb
  by_cases y2:y=q
  ·rw [y2];exact .inr hsq
  exact hout y y1 y2
def ordP (u n:Nat):List AV:=(List.range n).map fun (i:Nat)=>AV.int .u64 (placeN (u:Int) i:Nat)
theorem ordP_succ (u n:Nat):ordP u (n+1)=ordP u n ++ [.int .u64 (placeN (u:Int) n:Nat)]:=by
 unfold ordP;rw [List.range_succ,List.map_append];rfl
theorem ordP_len (u n:Nat):(ordP u n).length=n:=by unfold ordP;simp
theorem ordP_all (u:Nat):ordP u 32=(placesL u).map (AV.int .u64):=by unfold ordP placesL;rw [List.map_map];rfl
theorem placesL_at {u:Nat}:∀ x∈placesL u,0<=x/\x<=18446744073709551615:=fun x hx=>by
 obtain ⟨i,hi,rfl⟩:=List.mem_map.1 hx
 have:=placeN_lt (k:=(u:Int)) (List.mem_range.1 hi)
 omega
theorem risF_len {s:List UInt8}:∀ (k:Nat) (l:List Int) (p:Nat) (e:Int),(risF s k l p e).1.length<=l.length+k
 | 0,l,p,e=>Nat.le_refl _
 | k+1,l,p,e=>by
   rw [risF]
   split
   ·show l.length<=l.length+(k+1);omega
   ·split
    ·refine Nat.le_trans (risF_len k _ _ _) ?_;rw [List.length_append];show _+1+k<=_;omega
    ·refine Nat.le_trans (risF_len k _ _ _) ?_;rw [List.length_append];show _+1+k<=_;omega
theorem risingR_len {s:List UInt8} {p most:Nat} {e:Int}:(risingR s p e most).1.length<=most:=by
 have h1:(countP s p e most).1<=most:=by unfold countP;split;exact Nat.zero_le _;split;exact Nat.zero_le _;show (readU s p e).1<=_;omega
 have h:=risF_len (s:=s) (countP s p e most).1 [] (countP s p e most).2.1 (countP s p e most).2.2
 unfold risingR
 split
 ·exact Nat.zero_le _
 ·simp at h;omega
theorem tread_c8:c25_8 = .ops [⟨some 30,none,.q (.build z416 []),[]⟩,⟨some 31,none,.e (.box (.t 30)),[]⟩,⟨some 7,none,.q (.mv (.t 31)),[]⟩]:=by rfl
set_option maxHeartbeats 4000000 in
theorem tread_mid {σ:ASt} (hU:U8 σ) {s:List UInt8} (hs:s.length<=10000000) {b q p1 u:Nat} {e1:Int} (hu:u<=3) (hp:p1<=s.length) {Z:List AV} (hZ:deeps Z=tileCs (List.replicate 32 zTC)) (hb:σ b=none) (hq:σ q=none) (hbq:b≠q) {a1:AFr} (hf:a1 5 = .ptr b 0/\a1 6 = .int .u64 u/\a1 7 = .ptr q 0) {R:List TC×Nat×Int}
  (hR:if u=3 then (if (risingR s p1 e1 32).2.2≠0 then R.2.2=(risingR s p1 e1 32).2.2 else R=finR s 3 (cellsR s false (risingR s p1 e1 32).1 (risingR s p1 e1 32).2.1 (List.replicate 32 zTC))) else (if e1≠0 then R.2.2=e1 else R=finR s u (cellsR s true (placesL u) p1 (List.replicate 32 zTC)))) :
  ACode.wp Tryz.prog c25_74 (RetQ [.t 2,.t 3,.t 4] (TreadQ σ R)) a1 ((σ.set b (rd s p1 e1)).set q (some (.obj Z))):=by
 obtain ⟨K,hK⟩:∃ K,K=c25_72:=⟨_,rfl⟩
 have hqb:q≠b:=Ne.symm hbq
 have hU2:∀ P E,U8 ((σ.set b (rd s P E)).set q (some (.obj Z))):=fun P E=>U8.set (U8.set hU hb) (by rw [ASt.set_ne hqb];exact hq)
 have hout:∀ P E x,x≠b->x≠q->σ x=((σ.set b (rd s P E)).set q (some (.obj Z))) x:=fun P E x h1 h2=>by rw [ASt.set_ne h2,ASt.set_ne h1]
 rw [c25_74.eq_1,c25_73.eq_1,← hK]
 by_cases h3:u=3
 ·subst h3
  rw [if_pos rfl] at hR
  have hRi:=rrising_ok s p1 e1 32 b ((σ.set b (rd s p1 e1)).set q (some (.obj Z))) (by rw [ASt.set_ne hbq,ASt.set_same]) (by omega) hp (by decide)
  have hpl:=risingR_place (s:=s) (p:=p1) (most:=32) (e:=e1) hp
  have hln:=risingR_len (s:=s) (p:=p1) (most:=32) (e:=e1)
  generalize risingR s p1 e1 32=X at *
  obtain ⟨L,p2,e2⟩:=X
  dsimp only at hR hRi hpl hln
  rw [set_swap hqb,ASt.set_set] at hRi
  unfold u64sAV at hRi
  simp (disch:=first|assumption|omega|(simp only [List.length_append,List.length_cons,List.length_nil];omega)) only [go_sem,hf]
  refine hRi.mono ?_
  rintro v σ1 ⟨rfl,rfl⟩
  simp (disch:=first|assumption|omega|(simp only [List.length_append,List.length_cons,List.length_nil];omega)) only [go_sem]
  rw [hK]
  refine tread_post (kk := .shr) (ns:=L) (E:=e2) hs hu hpl.1 hpl.2 (by omega) hZ (by rw [ASt.set_ne hbq,ASt.set_same]) (ASt.set_same _ _ _) hbq hb hq (fun x h1 h2 => .inl (hout _ _ x h1 h2)) (hU2 _ _) _ ?_ hR
  simp (disch:=first|assumption|omega|(simp only [List.length_append,List.length_cons,List.length_nil];omega)) only [go_sem,hf]
 ·rw [if_neg h3] at hR
  have h3':¬ (u:Int)=3:=by omega
  have hdc:decide (u≠3)=true:=decide_eq_true h3
  have hUk:=hU2 p1 e1
  have hout':=hout p1 e1
  have hSb:((σ.set b (rd s p1 e1)).set q (some (.obj Z))) b=rd s p1 e1:=by rw [ASt.set_ne hbq,ASt.set_same]
  have hSq:((σ.set b (rd s p1 e1)).set q (some (.obj Z))) q=some (.obj Z):=ASt.set_same _ _ _
  generalize (σ.set b (rd s p1 e1)).set q (some (.obj Z))=S0 at *
  simp (disch:=first|assumption|omega|(simp only [List.length_append,List.length_cons,List.length_nil];omega)) only [go_sem,hf,h3']
  refine wp_loop_on (fun (i:Nat) a s2=>i<=32/\∃ kk,(a 5 = .ptr b 0/\a 6 = .int .u64 u/\a 7 = .ptr q 0/\a 8 = .sl kk (ordP u i)/\a 36 = .int .i64 i)/\Grown S0 s2 kk (ordP u i).length 1) (fun i=>32-i) 0 ⟨Nat.zero_le _,.full,?_,.inl ⟨rfl,rfl,rfl⟩⟩ ?_
  ·simp (disch:=first|assumption|omega|(simp only [List.length_append,List.length_cons,List.length_nil];omega)) only [go_sem,hf]
   all_goals rfl
  rintro i a2 s2 ⟨hi,kk,hf,hg⟩
  have hln:=ordP_len u i
  by_cases hlt:i<32
  ·have hlt':(i:Int)<32:=by omega
   have hst:=ordP_succ u i
   have hpn:=placeN_lt (k:=(u:Int)) hlt
   have hP:=place_ok (u:Int) i hlt
   generalize placeN (u:Int) i=pn at *
   generalize ordP u i=xs at *
   simp (disch:=first|assumption|omega|(simp only [List.length_append,List.length_cons,List.length_nil];omega)) only [go_sem,hf,hlt']
   refine hP.use ?_
   simp (disch:=first|assumption|omega|(simp only [List.length_append,List.length_cons,List.length_nil];omega)) only [go_sem,hf]
   refine appC_by hg rfl rfl (by rw [hln];simp;omega) (by rw [hln];simp;omega) fun q' s3 hg'=>?_
   simp (disch:=first|assumption|omega|(simp only [List.length_append,List.length_cons,List.length_nil];omega)) only [go_sem,hf]
   refine ⟨i+1,by omega,by omega,q',?_,by rw [hst];simpa using hg'⟩
   rw [hst]
   simp (disch:=first|assumption|omega|(simp only [List.length_append,List.length_cons,List.length_nil];omega)) only [go_sem,hf]
   all_goals simp
  ·have hi32:i=32:=by omega
   subst hi32
   have hlt':¬ ((32:Nat):Int)<32:=by omega
   rw [ordP_all] at hf
   simp (disch:=first|assumption|omega|(simp only [List.length_append,List.length_cons,List.length_nil];omega)) only [go_sem,hf,hlt']
   rw [hK]
   refine tread_post (kk:=kk) (ns:=placesL u) (E:=e1) hs hu hp placesL_at (by unfold placesL;simp) hZ ?_ ?_ hbq hb hq (fun x h1 h2=>?_) ?_ _ ?_ (by rw [hdc];exact hR)
   ·exact hg.at hSb
   ·exact hg.at hSq
   ·rcases hg.drop x with h|h
    ·exact .inl ((hout' x h1 h2).trans h)
    ·exact .inr ((hout' x h1 h2).trans h)
   ·rcases hg with ⟨_,_,rfl⟩|⟨c,T,_,hc,rfl⟩
    ·exact hUk
    ·exact U8.set hUk hc
   ·simp (disch:=first|assumption|omega|(simp only [List.length_append,List.length_cons,List.length_nil];omega)) only [go_sem,hf]
set_option maxHeartbeats 4000000 in
theorem tread_ok {σ:ASt} (hU:U8 σ) (s:List UInt8) (hs:s.length<=10000000):ACalls Tryz.prog 25 [.str s] σ (TreadQ σ (tileR s)):=by
 obtain ⟨R,hR⟩:∃ R,tileR s=R:=⟨_,rfl⟩
 rw [hR]
 obtain ⟨f1,f2,f3,f4⟩:=readU_facts s 0 0 (Nat.zero_le _)
 unfold tileR at hR
 have hI:=fun (b:Nat)=>ruint_ok s 0 0 b (σ.set b (rd s 0 0)) (ASt.set_same _ _ _) (by omega) (Nat.zero_le _)
 have hE:=fun (b P:Nat) (E:Int)=>rerr_ok s P E b (σ.set b (rd s P E)) (ASt.set_same _ _ _)
 have hRi:=fun (b P q:Nat) (E:Int) (τ:ASt) (h:τ b=rd s P E) (hP:P<=s.length)=>rrising_ok s P E 32 b τ h (by omega) hP (by decide)
 have hU1:∀ b,σ b=none->∀ P E,U8 (σ.set b (rd s P E)):=fun b hb P E=>U8.set hU hb
 obtain ⟨RU,hRU⟩:∃ RU,readU s 0 0=RU:=⟨_,rfl⟩
 rw [hRU] at hR f1 f2 f3 hI
 obtain ⟨u,p1,e1⟩:=RU
 dsimp only at hR f1 f2 f3 hI
 obtain ⟨Z,hZ⟩:∃ Z,Z=z416:=⟨_,rfl⟩
 have hs1:=soft416z
 have hl416:=z416_len
 have hc8:=tread_c8
 rw [<-hZ] at hs1 hc8 hl416
 obtain ⟨K,hK⟩:∃ K,K=c25_74:=⟨_,rfl⟩
 refine a25 (by simp) ?_
 rw [c25_79.eq_1,c25_78.eq_1,c25_77.eq_1,c25_76.eq_1,c25_75.eq_1,hc8,← hK]
 clear hZ hc8
 simp (disch:=first|assumption|omega|(simp only [List.length_append,List.length_cons,List.length_nil];omega)) only [go_sem]
 refine (rread_ok s σ).mono ?_
 rintro v σ1 ⟨b,rfl,hb,rfl⟩
 simp (disch:=first|assumption|omega|(simp only [List.length_append,List.length_cons,List.length_nil];omega)) only [go_sem]
 refine (hI b).mono ?_
 rintro v σ1 ⟨rfl,rfl⟩
 simp (disch:=first|assumption|omega|(simp only [List.length_append,List.length_cons,List.length_nil];omega)) only [go_sem,ASt.set_set]
 refine (hE b p1 e1).mono ?_
 rintro v σ1 ⟨rfl,rfl⟩
 by_cases he:e1=0
 ·subst he
  rw [if_neg (fun h=>h rfl)] at hR
  by_cases h1:u<1
  ·have h1':(u:Int)<1:=by omega
   rw [if_pos (.inl h1)] at hR
   subst hR
   simp (disch:=first|assumption|omega|(simp only [List.length_append,List.length_cons,List.length_nil];omega)) only [go_sem,h1']
   refine retC_by (σ':=σ) (Drop.set hb) (.refl _) (.inr ⟨(by decide:(3:Int)≠0),rfl,rfl⟩)
  have h1':¬ (u:Int)<1:=by omega
  by_cases h2:3<u
  ·have h2':(3:Int)<u:=by omega
   rw [if_pos (.inr h2)] at hR
   subst hR
   simp (disch:=first|assumption|omega|(simp only [List.length_append,List.length_cons,List.length_nil];omega)) only [go_sem,h1',h2']
   refine retC_by (σ':=σ) (Drop.set hb) (.refl _) (.inr ⟨(by decide:(3:Int)≠0),rfl,rfl⟩)
  have h2':¬ (3:Int)<u:=by omega
  rw [if_neg (by omega)] at hR
  simp (disch:=first|assumption|omega|(simp only [List.length_append,List.length_cons,List.length_nil];omega)) only [go_sem,h1',h2']
  refine boxC_by rfl fun q hq=>?_
  repeat (with_reducible replace hq:=set_none hq;obtain ⟨_,_,hq⟩:=hq)
  simp (disch:=first|assumption|omega|(simp only [List.length_append,List.length_cons,List.length_nil];omega)) only [go_sem]
  rw [hK]
  refine tread_mid (u:=u) hU hs (by omega) f2 hs1 hb (by assumption) (by rename_i h _ ;exact Ne.symm h) ?_ ?_
  ·simp (disch:=first|assumption|omega|(simp only [List.length_append,List.length_cons,List.length_nil];omega)) only [go_sem]
  ·by_cases h3:u=3
   ·rw [if_pos h3] at hR ⊢
    split at hR
    ·rename_i h;rw [if_pos h,← hR]
    ·rename_i h;rw [if_neg h,← hR]
   ·rw [if_neg h3] at hR ⊢
    rw [if_neg (fun h=>h rfl),← hR]
 ·rw [if_pos he] at hR
  subst hR
  obtain ⟨rfl,rfl⟩:=f3 he
  simp (disch:=first|assumption|omega|(simp only [List.length_append,List.length_cons,List.length_nil];omega)) only [go_sem,he]
  refine boxC_by rfl fun q hq=>?_
  repeat (with_reducible replace hq:=set_none hq;obtain ⟨_,_,hq⟩:=hq)
  simp (disch:=first|assumption|omega|(simp only [List.length_append,List.length_cons,List.length_nil];omega)) only [go_sem]
  rw [hK]
  refine tread_mid (u:=0) hU hs (by omega) f2 hs1 hb (by assumption) (by rename_i h _ ;exact Ne.symm h) ?_ ?_
  ·simp (disch:=first|assumption|omega|(simp only [List.length_append,List.length_cons,List.length_nil];omega)) only [go_sem]
  ·rw [if_neg (by decide),if_pos he]
end Go.A
namespace Go.A
open Go.Proofs Go.Lib Go.Vint
theorem wd_op {n:Nd} (h:n.wd):¬ n.op=0:=by
 obtain ⟨op,m,s,a,b,ks⟩:=n
 rw [Nd.wd] at h
 have:=h.1.op1
 rw [Nd.op];omega
theorem zTC_bytes:zTC.bytes=uintB 0:=by
 have h:zTC.empty=true:=by decide +kernel
 unfold TC.bytes
 rw [if_pos h]
theorem getC_law {s:List UInt8} (hs:s.length<=100000) {p:Nat} (hp:p<=s.length) {em:Bool} (h:(getC s p em).2.1=0) :
  ∃ c p',getC s p em=(c,0,p')/\s.drop p=c.bytes++s.drop p'/\p'=p+c.bytes.length/\p'<=s.length/\c.wfine/\(em=false->c.empty=false):=by
 obtain ⟨f1,f2,f3,f4⟩:=readU_facts s p 0 hp
 have hL1:=readU_law (s:=s) (p:=p)
 have hT:=fun h=>treeR_tells s 2101 (readU s p 0).2.1 f2 h
 have hend:∀ (t:Nd) (q:Nat),q<=s.length->(endC t (getV s q)).2.1=0->∃ v p',endC t (getV s q)=(⟨t,some v⟩,0,p')/\TC.empty ⟨t,some v⟩=false/\s.drop q=putB v++s.drop p'/\p'=q+(putB v).length/\p'<=s.length/\v.good/\(∀ t,v = .text t->t.length<=2000):=by
  intro t q hq h
  unfold endC at h ⊢
  by_cases h1:(getV s q).2.1=0
  ·obtain ⟨v,p',g1,g2,g3,g4,g5,g6,g7⟩:=getV_law hq h1
   rw [g1] at h ⊢
   dsimp only at h ⊢
   rw [if_neg (fun h=>h rfl)] at h ⊢
   by_cases h2:TC.empty ⟨t,some v⟩=true
   ·rw [if_pos h2] at h;exact absurd h (show ¬ (3:Int)=0 by decide)
   ·rw [if_neg h2]
    exact ⟨v,p',rfl,by simpa using h2,g2,g3,g4,g5,g6⟩
  ·rw [if_pos h1] at h;exact absurd h h1
 unfold getC at h ⊢
 generalize readU s p 0=R at *
 obtain ⟨u,p1,e1⟩:=R
 dsimp only at *
 by_cases he1:e1=0
 ·subst he1
  obtain ⟨l1,l2⟩:=hL1 rfl
  rw [if_neg (fun h=>h rfl)] at h ⊢
  by_cases hk:2<u\/(u=0/\em=false)
  ·rw [if_pos hk] at h;exact absurd h (show ¬ (3:Int)=0 by decide)
  rw [if_neg hk] at h ⊢
  by_cases hu0:u=0
  ·subst hu0
   rw [if_pos rfl]
   exact ⟨zTC,p1,rfl,by rw [zTC_bytes];exact l1,by rw [zTC_bytes];exact l2,f2,zTC_made.wf,fun h=>absurd ⟨rfl,h⟩ (fun h=>hk (.inr h))⟩
  rw [if_neg hu0] at h ⊢
  by_cases hu2:u=2
  ·subst hu2
   rw [if_pos rfl] at h ⊢
   by_cases ht:(treeR s 2101 p1).2.1=0
   ·obtain ⟨t1,t2,t3,t4,t5⟩:=hT ht
    rw [if_neg (fun h=>h ht)] at h ⊢
    generalize treeR s 2101 p1=X at *
    obtain ⟨t,e,q,d⟩:=X
    dsimp only at *
    obtain ⟨v,p',g1,g2,g3,g4,g5,g6,g7⟩:=hend t q t5 h
    have hf:TC.isF ⟨t,some v⟩=true:=by unfold TC.isF;rw [decide_eq_false (wd_op t1)];rfl
    have hb:TC.bytes ⟨t,some v⟩=uintB 2++t.bytes++putB v:=by
     unfold TC.bytes
     rw [g2,if_neg (by simp),if_pos hf]
     rfl
    refine ⟨_,p',g1,?_,?_,g5,⟨fun _=>t1,fun _=>?_,g6,g7⟩,fun _=>g2⟩
    ·rw [hb,l1,t3,g3];simp only [List.append_assoc]
    ·rw [hb,List.length_append,List.length_append];omega
    ·show t.bytes.length<=100000;omega
   ·rw [if_pos ht] at h;exact absurd h ht
  ·rw [if_neg hu2] at h ⊢
   obtain rfl:u=1:=by omega
   obtain ⟨v,p',g1,g2,g3,g4,g5,g6,g7⟩:=hend zNd p1 f2 h
   have hf:¬ TC.isF ⟨zNd,some v⟩=true:=fun h=>by cases h
   have hb:TC.bytes ⟨zNd,some v⟩=uintB 1++putB v:=by
    unfold TC.bytes
    rw [g2,if_neg (by simp),if_neg hf]
    rfl
   refine ⟨_,p',g1,?_,?_,g5,⟨fun h=>absurd h hf,fun h=>absurd h hf,g6,g7⟩,fun _=>g2⟩
   ·rw [hb,l1,g3,List.append_assoc]
   ·rw [hb,List.length_append];omega
 ·rw [if_pos he1] at h;exact absurd h he1
theorem cellsR_law {s:List UInt8} (hs:s.length<=100000) {em:Bool}:∀ (ls:List Int) (p:Nat) (T:List TC),ls.Nodup->(∀ x∈ls,0<=x)->p<=s.length->T.length=32->(cellsR s em ls p T).2.1=0 →
  ∃ T' p',cellsR s em ls p T=(T',0,p')/\T'.length=32/\p'<=s.length/\s.drop p=(ls.flatMap fun x=>cellB T' x.toNat)++s.drop p'/\(∀ j:Nat,(j:Int) ∉ ls->T'[j]? = T[j]?)/\(∀ x∈ls,x<32/\∃ c,T'[x.toNat]? = some c/\c.wfine/\(em=false->c.empty=false))
 | [],p,T,_,_,hp,hT,h=>⟨T,p,rfl,hT,hp,rfl,fun _ _=>rfl,fun x hx=>by cases hx⟩
 | i::ls,p,T,hnd,h0,hp,hT,h=>by
   rw [cellsR] at h ⊢
   by_cases h32:32<=i
   ·rw [if_pos h32] at h;exact absurd h (show ¬ (3:Int)=0 by decide)
   rw [if_neg h32] at h ⊢
   by_cases hg:(getC s p em).2.1=0
   ·rw [if_neg (fun h=>h hg)] at h ⊢
    obtain ⟨c,p1,g1,g2,g3,g4,g5,g6⟩:=getC_law hs hp hg
    rw [g1] at h ⊢
    dsimp only at h ⊢
    have hi0:=h0 i List.mem_cons_self
    obtain ⟨hni,hnd'⟩:=List.nodup_cons.1 hnd
    obtain ⟨T',p',k1,k2,k3,k4,k5,k6⟩:=cellsR_law hs ls p1 (T.set i.toNat c) hnd' (fun x hx=>h0 x (List.mem_cons_of_mem _ hx)) g4 (by rw [List.length_set];exact hT) h
    have hci:T'[i.toNat]? = some c:=by
     rw [k5 i.toNat (by rw [show ((i.toNat:Nat):Int)=i by omega];exact hni)]
     exact List.getElem?_set_self (by omega)
    refine ⟨T',p',k1,k2,k3,?_,fun j hj=>?_,fun x hx=>?_⟩
    ·rw [List.flatMap_cons,cellB_at hci,g2,k4,List.append_assoc]
    ·rw [k5 j (fun h=>hj (List.mem_cons_of_mem _ h))]
     exact List.getElem?_set_ne (by rintro rfl;exact hj (by rw [show ((i.toNat:Nat):Int)=i by omega];exact List.mem_cons_self))
    ·rcases List.mem_cons.1 hx with rfl|hx
     ·exact ⟨by omega,c,hci,g5,g6⟩
     ·exact k6 x hx
   ·rw [if_pos hg] at h;exact absurd h hg
theorem pair_eq:∀ {a b:List Int},a.Pairwise (· < ·)->b.Pairwise (· < ·)->(∀ x,x∈a↔x∈b)->a=b
 | [],[],_,_,_=>rfl
 | [],y::b,_,_,h=>by have:=(h y).2 List.mem_cons_self;cases this
 | x::a,[],_,_,h=>by have:=(h x).1 List.mem_cons_self;cases this
 | x::a,y::b,ha,hb,h=>by
   obtain ⟨ha1,ha2⟩:=List.pairwise_cons.1 ha
   obtain ⟨hb1,hb2⟩:=List.pairwise_cons.1 hb
   have hxy:x=y:=by
    rcases List.mem_cons.1 ((h x).1 List.mem_cons_self) with h1|h1
    ·exact h1
    rcases List.mem_cons.1 ((h y).2 List.mem_cons_self) with h2|h2
    ·exact h2.symm
    have:=ha1 y h2
    have:=hb1 x h1
    omega
   subst hxy
   rw [pair_eq ha2 hb2 fun z=>⟨fun hz=>?_,fun hz=>?_⟩]
   ·rcases List.mem_cons.1 ((h z).1 (List.mem_cons_of_mem _ hz)) with h1|h1
    ·have:=ha1 z hz;omega
    ·exact h1
   ·rcases List.mem_cons.1 ((h z).2 (List.mem_cons_of_mem _ hz)) with h1|h1
    ·have:=hb1 z hz;omega
    ·exact h1
theorem rises_tail {x:Int} {l:List Int} (h:Rises (x::l)):Rises l:=⟨fun y hy=>h.1 y (List.mem_cons_of_mem _ hy),fun k a b ha hb=>h.2 (k+1) a b ha hb⟩
theorem rises_pair:∀ {l:List Int},Rises l->l.Pairwise (· < ·)
 | [],_ => .nil
 | [x],_=>List.pairwise_singleton _ _
 | x::y::l,h=>by
   have ih:=rises_pair (rises_tail h)
   have hxy:x<y:=h.2 0 x y rfl rfl
   refine List.pairwise_cons.2 ⟨fun z hz=>?_,ih⟩
   rcases List.mem_cons.1 hz with rfl|hz
   ·exact hxy
   ·have:=(List.pairwise_cons.1 ih).1 z hz;omega
theorem pair_nodup {l:List Int} (h:l.Pairwise (· < ·)):l.Nodup:=List.Pairwise.imp (fun h=>by omega) h
theorem nats_pair {T:List TC} {n:Nat}:(natsI (fullN T n)).Pairwise (· < ·):=by
 have hp:(fullN T n).Pairwise (· < ·):=List.Pairwise.filter _ List.pairwise_lt_range
 unfold natsI
 rw [List.pairwise_map]
 exact hp.imp fun h=>by omega
theorem mem_nats {T:List TC} {x:Int}:x∈natsI (fullN T 32)↔0<=x/\x<32/\hasT T x.toNat=true:=by
 unfold natsI fullN
 rw [List.mem_map]
 constructor
 ·rintro ⟨j,hj,rfl⟩
  obtain ⟨h1,h2⟩:=List.mem_filter.1 hj
  have:=List.mem_range.1 h1
  exact ⟨by omega,by omega,by rw [Int.toNat_natCast];exact h2⟩
 ·rintro ⟨h0,h1,h2⟩
  exact ⟨x.toNat,List.mem_filter.2 ⟨List.mem_range.2 (by omega),h2⟩,by omega⟩
theorem places_nodup {u:Nat} (h:u<=3):(placesL u).Nodup:=by
 have:u=0\/u=1\/u=2\/u=3:=by omega
 rcases this with rfl|rfl|rfl|rfl<;>decide +kernel
theorem tileR_law {s:List UInt8} (hs:s.length<=100000) {T:List TC} {k:Nat} (h:tileR s=(T,k,0)):T.length=32/\(∀ c∈T,c.wfine)/\1<=k/\k<=3/\tileB T k=s:=by
 obtain ⟨f1,f2,f3,f4⟩:=readU_facts s 0 0 (Nat.zero_le _)
 have hL1:=readU_law (s:=s) (p:=0)
 have hfin:∀ (u:Nat) (ls:List Int) (em:Bool) (p:Nat),p<=s.length->ls.Nodup->(∀ x∈ls,0<=x)->finR s u (cellsR s em ls p (List.replicate 32 zTC))=(T,k,0)->k=u/\T.length=32/\s.drop p=(ls.flatMap fun x=>cellB T x.toNat)/\(∀ c∈T,c.wfine)/\(∀ j:Nat,(j:Int) ∉ ls->j<32->T[j]? = some zTC)/\(∀ x∈ls,x<32/\∃ c,T[x.toNat]? = some c/\(em=false->c.empty=false)):=by
  intro u ls em p hp hnd h0 h
  unfold finR at h
  by_cases h1:(cellsR s em ls p (List.replicate 32 zTC)).2.1=0
  ·rw [if_neg (fun h=>h h1)] at h
   obtain ⟨T',p',g1,g2,g3,g4,g5,g6⟩:=cellsR_law hs ls p _ hnd h0 hp List.length_replicate h1
   rw [g1] at h
   dsimp only at h
   by_cases hlt:p'<s.length
   ·rw [if_pos hlt] at h;cases h
   rw [if_neg hlt] at h
   injection h with h2 h3
   injection h3 with h4 h5
   subst h2 h4
   have hz:∀ j:Nat,(j:Int) ∉ ls->j<32->T'[j]? = some zTC:=fun j hj hj2=>by
    rw [g5 j hj,List.getElem?_replicate,if_pos hj2]
   refine ⟨rfl,g2,?_,fun c hc=>?_,hz,fun x hx=>?_⟩
   ·rw [g4,List.drop_of_length_le (by omega),List.append_nil]
   ·obtain ⟨j,hj⟩:=List.getElem?_of_mem hc
    have hj2:j<32:=by have:=(List.getElem?_eq_some_iff.1 hj).1;omega
    by_cases hm:(j:Int)∈ls
    ·obtain ⟨_,c',k1,k2,_⟩:=g6 _ hm
     rw [Int.toNat_natCast,hj] at k1
     injection k1 with k1
     rw [k1];exact k2
    ·rw [hz j hm hj2] at hj
     injection hj with hj
     rw [<-hj];exact zTC_made.wf
   ·obtain ⟨k1,c,k2,_,k3⟩:=g6 x hx
    exact ⟨k1,c,k2,k3⟩
  ·rw [if_pos h1] at h
   injection h with _ h
   injection h with _ h
   exact absurd h h1
 unfold tileR at h
 generalize hRU:readU s 0 0=R at *
 obtain ⟨u,p1,e1⟩:=R
 dsimp only at *
 by_cases he1:e1=0
 ·subst he1
  obtain ⟨l1,l2⟩:=hL1 rfl
  rw [List.drop_zero] at l1
  rw [if_neg (fun h=>h rfl)] at h
  by_cases hk:u<1\/3<u
  ·rw [if_pos hk] at h;cases h
  rw [if_neg hk] at h
  by_cases h3:u=3
  ·subst h3
   rw [if_pos rfl] at h
   have hpl:=risingR_place (s:=s) (p:=p1) (most:=32) (e:=0) f2
   by_cases he2:(risingR s p1 0 32).2.2=0
   ·rw [if_neg (fun h=>h he2)] at h
    generalize hX:risingR s p1 0 32=X at *
    obtain ⟨L,p2,e2⟩:=X
    dsimp only at h he2 hpl
    subst he2
    obtain ⟨_,r1,r2,r3⟩:=risingR_of f2 hX
    have hpw:=rises_pair r1
    obtain ⟨rfl,g1,g2,g3,g4,g5⟩:=hfin 3 L false p2 hpl.1 (pair_nodup hpw) (fun x hx=>(hpl.2 x hx).1) h
    have hLN:natsI (fullN T 32)=L:=by
     refine pair_eq nats_pair hpw fun x=>?_
     rw [mem_nats]
     constructor
     ·rintro ⟨h1,h2,h3⟩
      by_cases hm:x∈L
      ·exact hm
      ·have hz:=g4 x.toNat (by rw [show ((x.toNat:Nat):Int)=x by omega];exact hm) (by omega)
       unfold hasT at h3
       rw [hz] at h3
       exact absurd h3 (by decide +kernel)
     ·intro hm
      obtain ⟨k1,c,k2,k3⟩:=g5 x hm
      refine ⟨(hpl.2 x hm).1,k1,?_⟩
      unfold hasT
      rw [k2]
      show (!c.empty)=true
      rw [k3 rfl];rfl
    refine ⟨g1,g3,by decide,by decide,?_⟩
    unfold tileB
    rw [if_pos (by decide),hLN]
    have hsp:spB T (fullN T 32)=L.flatMap fun x=>cellB T x.toNat:=by
     rw [<-hLN]
     unfold spB natsI
     rw [List.flatMap_map]
     rfl
    rw [hsp,← g2,List.append_assoc,← r2]
    exact l1.symm
   ·rw [if_pos he2] at h
    injection h with _ h
    injection h with _ h
    exact absurd h he2
  ·rw [if_neg h3] at h
   obtain ⟨rfl,g1,g2,g3,g4,g5⟩:=hfin u (placesL u) true p1 f2 (places_nodup (by omega)) (fun x hx=>(placesL_at x hx).1) h
   refine ⟨g1,g3,by omega,by omega,?_⟩
   unfold tileB
   rw [if_neg (by omega)]
   have hw:wrT T (k:Int) 32=(placesL k).flatMap fun x=>cellB T x.toNat:=by
    unfold wrT placesL
    rw [List.flatMap_map]
    rfl
   rw [hw,← g2,Int.toNat_natCast]
   exact l1.symm
 ·rw [if_pos he1] at h
  injection h with _ h
  injection h with _ h
  exact absurd h he1
end Go.A
namespace Go.A
open Go.Proofs
/-! 5: tabular/tabularlaw20.TileOne -/
def c5_13:ACode := .seq (.ops [ oq 2 (.mv (.v (.bool false)))]) (.seq (.ops [ oq 6 (.mv (.t 0)),oe 7 (.call 24 [(.t 6),(.v (.int .i64 600))]),oq 0 (.mv (.t 7))]) (.seq (.ops [ oq 9 (.mv (.t 0)),oe 10 (.call 25 [(.t 9)]),oq 8 (.mv (.t 10)),oq 11 (.ext 0 (.t 8)),oq 12 (.ext 1 (.t 8)),oq 13 (.ext 2 (.t 8)),oq 3 (.mv (.t 11)),oq 4 (.mv (.t 12)),oq 5 (.mv (.t 13))]) (.seq (.seq (.ops [ oq 14 (.mv (.t 5)),oq 15 (.bin .neq (.t 14) (.v (.int .i64 0)))]) (.cond (.t 15) (.seq (.ops [ oe 16 (.call 10 []),oq 17 (.mv (.t 16)),⟨some 18,some (17,true),.q (.mv (.t 3)),[]⟩,⟨some 19,some (17,true),.q (.eq .p false (.t 18) (.v .nilp)),[]⟩,oq 20 (.pick (.t 17) (.t 19) (.v (.bool false))),oq 21 (.mv (.t 20)),⟨some 22,some (21,true),.q (.mv (.t 4)),[]⟩,⟨some 23,some (21,true),.q (.bin .eql (.t 22) (.v (.int .i64 0))),[]⟩,oq 24 (.pick (.t 21) (.t 23) (.v (.bool false))),oq 2 (.mv (.t 24))]) .ret) .skip)) (.seq (.ops [ oe 25 (.call 10 []),oq 26 (.mv (.t 25)),⟨some 27,some (26,true),.q (.mv (.t 3)),[]⟩,⟨some 28,some (26,true),.q (.mv (.t 4)),[]⟩,⟨some 29,some (26,true),.e (.call 20 [(.t 27),(.t 28)]),[]⟩,⟨some 30,some (26,true),.q (.mv (.t 0)),[]⟩,⟨some 31,some (26,true),.q (.bin .eql (.t 29) (.t 30)),[]⟩,oq 32 (.pick (.t 26) (.t 31) (.v (.bool false))),oq 2 (.mv (.t 32))]) .ret))))
@[go_sem] def c5_13_wp:=wp_of c5_13.eq_1
def c5:AFn:=⟨33,[.t 2],c5_13⟩
theorem c5_ok:compF Tryz.prog Tryz.f5=some c5:=by kernel_rfl
theorem a5 {args:List AV} {σ:ASt} {R:AV->ASt->Prop} (hl:args.length<=33) (h:c5_13.wp Tryz.prog (RetQ [.t 2] R) (init args) σ):ACalls Tryz.prog 5 args σ R:=acalls_of Tryz.func5 c5_ok hl h
end Go.A
namespace Go.A
open Go.Proofs Go.Lib Go.Vint
set_option maxHeartbeats 2000000 in
theorem TileOne_any {σ:ASt} (hT:Tab σ) (hM:MaxL σ) (hU:U8 σ) (s0:List UInt8):ACalls Tryz.prog 5 [.str s0] σ fun v σ'=>v = .bool true/\σ'=σ:=by
 have hC:=lcut_ok s0 600
 have hl6:(s0.take 600).length<=600:=by rw [List.length_take];omega
 generalize s0.take 600=s at *
 have hR:=tread_ok hU s (by omega)
 have hlaw:=fun T k=>tileR_law (s:=s) (by omega) (T:=T) (k:=k)
 have hA:=tlawake_ok hT hM hU
 refine a5 (by simp) ?_
 simp (disch:=first|assumption|omega|(simp only [List.length_append,List.length_cons,List.length_nil];omega)) only [go_sem]
 refine hC.use ?_
 simp (disch:=first|assumption|omega|(simp only [List.length_append,List.length_cons,List.length_nil];omega)) only [go_sem]
 refine hR.mono ?_
 rintro v σ1 (⟨he,q,hq,rfl,rfl⟩|⟨he,rfl,rfl⟩)
 ·generalize tileR s=R at *
  obtain ⟨T,k,e⟩:=R
  dsimp only at he
  subst he
  obtain ⟨hl,hw,hk1,hk3,hB⟩:=hlaw T k rfl
  have hTA:=TileAt.of (σ:=σ.set q (some (.obj (tileCs T)))) hl (ASt.set_same _ _ _)
  have T2:=Tab.set (r:=some (.obj (tileCs T))) hT hq
  have M2:=MaxL.set (r:=some (.obj (tileCs T))) hM hq
  have U2:=U8.set (r:=some (.obj (tileCs T))) hU hq
  have dd:=Drop.set (r:=some (.obj (tileCs T))) hq
  have hW:=twrite_ok hTA hw (k:Int) (by omega)
  rw [hB] at hW
  simp (disch:=first|assumption|omega|(simp only [List.length_append,List.length_cons,List.length_nil];omega)) only [go_sem]
  refine (tlawake_ok T2 M2 U2).mono ?_
  rintro v σ2 ⟨rfl,rfl⟩
  simp (disch:=first|assumption|omega|(simp only [List.length_append,List.length_cons,List.length_nil];omega)) only [go_sem]
  refine hW.mono ?_
  rintro v σ2 ⟨rfl,rfl⟩
  simp (disch:=first|assumption|omega|(simp only [List.length_append,List.length_cons,List.length_nil];omega)) only [go_sem,eq_self]
  exact retC_by dd (.refl _) ⟨rfl,rfl⟩
 ·generalize (tileR s).2.2=e at *
  simp (disch:=first|assumption|omega|(simp only [List.length_append,List.length_cons,List.length_nil];omega)) only [go_sem,he]
  refine hA.mono ?_
  rintro v σ2 ⟨rfl,rfl⟩
  simp (disch:=first|assumption|omega|(simp only [List.length_append,List.length_cons,List.length_nil];omega)) only [go_sem]
  exact retC_by (.refl _) (.refl _) ⟨rfl,rfl⟩
end Go.A
namespace Go.Proofs.YtfnhdjigeedieaaGreatDoor
open Go Go.ChangeShapes Go.WideShapes Go.ChangeAt Go.RowKit Go.A Go.Lib Go.Shelf
theorem row_own:ownKnob Tryz.prog.godebug=none:=by kernel_rfl
theorem row_laid:laidOutB Tryz.prog=true:=by kernel_rfl
theorem first_eq:Rows.laid_unicode_utf8_first=firstData:=by kernel_rfl
theorem acc_eq:(Rows.laid_unicode_utf8_acceptRanges:DataW Unit)=acceptData:=by kernel_rfl
theorem u8_extra:U8Extra Tryz.prog Tryz.lays260_ren:=⟨by kernel_rfl,by kernel_rfl,by kernel_rfl,by kernel_rfl,by kernel_rfl,by kernel_rfl,by kernel_rfl⟩
theorem var_size {P:Program} {w:World} {n:String} {d:DataW Unit} (h:VarReads P w n d) {g:Nat} (hg:P.globalNamed n=some g) {t e:TypeId} {k:Nat} (hty:(P.globals[g]?).map (·.type)=some t) (ht:P.underlying t=some (.array k e)) :
  ∃ cs T fr,w.heap[g]? = some (.cells cs T fr)/\cs.size=P.cellsOf t:=by
 obtain ⟨g',t',cs,fuel,p,hg',hty',hvar,hd⟩:=h
 obtain rfl:=Option.some.inj (hg.symm.trans hg')
 obtain rfl:=Option.some.inj (hty.symm.trans hty')
 have hlen:cs.toList.length=P.cellsOf t:=by
  cases fuel with
  | zero=>simp [DataW.trod] at hd
  | succ fuel=>
    simp only [DataW.trod,ht] at hd
    split at hd
    ·assumption
    ·cases hd
 unfold World.var? at hvar
 rw [hg,Option.bind_some] at hvar
 split at hvar
 ·rename_i cs' T fr hheap
  injection hvar with hvar
  subst hvar
  exact ⟨_,_,_,hheap,by simpa using hlen⟩
 ·cases hvar
theorem ints_reps {σ:ASt} {w:World} {k:IntKind}:∀ zs:List Int,Reps σ w (zs.map (AV.int k)) (zs.map (Value.int k))
 | [] => .nil
 | z::zs => .cons (.int k z) (ints_reps zs)
theorem fix_ok {σ:ASt} {W:World} {b:Nat} {zs:List Int} (hs:σ b=some (.fix (zs.map (AV.int .u8)))) {cs:Array Value} {T:TypeId} {fr:Nat×Nat} (hh:W.heap[b]? = some (.cells cs T fr)) (hsz:cs.size=zs.length)
  (hc:∀ j z,zs[j]? = some z->W.cell? ⟨b,j,none⟩=some (.int .u8 z)):RoleOk σ W b (.fix (zs.map (AV.int .u8))):=by
 have hlt:b<W.heap.size:=(Array.getElem?_eq_some_iff.1 hh).1
 refine ⟨At.mk' (ints_reps _) (fun j _=>⟨hlt,.inr (.inl ⟨_,hs⟩)⟩) (fun j v hj=>?_),cs,T,fr,hh,by simpa using hsz⟩
 rw [List.getElem?_map] at hj
 obtain ⟨z,hz,rfl⟩:=Option.map_eq_some_iff.1 hj
 rw [Nat.zero_add]
 exact hc j z hz
def stOf:List (Nat×List AV)->ASt
 | [],_=>none
 | p::ps,b=>if b=p.1 then some (.fix p.2) else stOf ps b
theorem stOf_fix:∀ {ps:List (Nat×List AV)} {b:Nat} {r:Role},stOf ps b=some r->∃ l,r = .fix l
 | [],_,_,h=>by cases h
 | p::ps,b,r,h=>by
   simp only [stOf] at h
   split at h
   ·injection h with h;exact ⟨_,h.symm⟩
   ·exact stOf_fix h
theorem stOf_mem:∀ {ps:List (Nat×List AV)} {b:Nat} {r:Role},stOf ps b=some r->∃ l,(b,l)∈ps/\r = .fix l
 | [],_,_,h=>by cases h
 | p::ps,b,r,h=>by
   simp only [stOf] at h
   split at h
   ·rename_i hb
    injection h with h
    subst hb
    exact ⟨p.2,List.mem_cons_self,h.symm⟩
   ·obtain ⟨l,hl,he⟩:=stOf_mem h
    exact ⟨l,List.mem_cons_of_mem _ hl,he⟩
theorem still_fix {σ:ASt} (hfx:∀ b r,σ b=some r->∃ l,r = .fix l) {w:World} {b o:Nat} (h:b<w.heap.size):Still σ w b o:=by
 refine ⟨h,?_⟩
 cases hb:σ b with
 | none=>exact .inl rfl
 | some r=>obtain ⟨l,rfl⟩:=hfx b r hb;exact .inr (.inl ⟨_,rfl⟩)
end Go.Proofs.YtfnhdjigeedieaaGreatDoor
namespace Go.A
section
variable {σ:ASt} {w:World}
theorem Still.fixed (hfx:∀ b r,σ b=some r->∃ l,r = .fix l) {b o:Nat} (h:Still noRole w b o):Still σ w b o:=by
 refine ⟨h.1,?_⟩
 cases hb:σ b with
 | none=>exact .inl rfl
 | some r=>obtain ⟨l,rfl⟩:=hfx b r hb;exact .inr (.inl ⟨_,rfl⟩)
theorem Stands.fixed (hfx:∀ b r,σ b=some r->∃ l,r = .fix l) (b:Nat):Stands σ b:=by
 refine ⟨fun cs h=>?_,fun l p h=>?_,fun T cs h=>?_⟩<;>(obtain ⟨l,hl⟩:=hfx b _ h;cases hl)
theorem SK.ok_fixed (hfx:∀ b r,σ b=some r->∃ l,r = .fix l) {k:SK} {b o n c sz:Nat} (h:k.ok noRole w b o n c sz):k.ok σ w b o n c sz:=by
 cases k with
 | shr=>trivial
 | full=>exact h
 | tok t s T=>exact ⟨h.1,h.2.1,h.2.2.1,h.2.2.2.1,Stands.fixed hfx b⟩
mutual
theorem Rep.fixed (hfx:∀ b r,σ b=some r->∃ l,r = .fix l):∀ {a:AV} {v:Value},Rep noRole w a v->Rep σ w a v
 | _,_,.any v => .any v
 | _,_,.bool b => .bool b
 | _,_,.int k n => .int k n
 | _,_,.str l => .str l
 | _,_,.ptr b o => .ptr b o
 | _,_,.imm h1 => .imm (h1.fixed hfx)
 | _,_,.nilp => .nilp
 | _,_,.slE A c => .slE A c
 | _,_,.slN => .slN
 | _,_,.sl h1 h2 h3 h4 h5 => .sl (h1.fixed hfx) h2 h3 (SK.ok_fixed hfx h4) h5
 | _,_,.msl b o n c => .msl b o n c
 | _,_,.agg h1 => .agg (h1.fixed hfx)
 | _,_,.tuple h1 => .tuple (h1.fixed hfx)
 | _,_,.iface h1 => .iface (h1.fixed hfx)
 | _,_,.nili => .nili
 | _,_,.func h1 h2 => .func (h1.fixed hfx) (h2.fixed hfx)
 | _,_,.nilf => .nilf
theorem Reps.fixed (hfx:∀ b r,σ b=some r->∃ l,r = .fix l):∀ {avs:List AV} {vs:List Value},Reps noRole w avs vs->Reps σ w avs vs
 | _,_,.nil => .nil
 | _,_,.cons h1 h2 => .cons (h1.fixed hfx) (h2.fixed hfx)
theorem At.fixed (hfx:∀ b r,σ b=some r->∃ l,r = .fix l):∀ {b o:Nat} {avs:List AV},At noRole w b o avs->At σ w b o avs
 | _,_,_,.nil b o => .nil b o
 | _,_,_,.cons h1 h2 h3 h4 => .cons (h1.fixed hfx) h2 (h3.fixed hfx) (h4.fixed hfx)
theorem Row.fixed (hfx:∀ b r,σ b=some r->∃ l,r = .fix l):∀ {b o sz:Nat} {avs:List AV},Row noRole w b o sz avs->Row σ w b o sz avs
 | _,_,_,_,.nil b o sz => .nil b o sz
 | _,_,_,_,.cons h1 h2 h3 => .cons h1 (h2.fixed hfx) (h3.fixed hfx)
end
end
end Go.A
namespace Go.Proofs.YtfnhdjigeedieaaGreatDoor
open Go Go.ChangeShapes Go.WideShapes Go.ChangeAt Go.RowKit Go.A Go.Lib Go.Shelf
theorem u8_roles {σ : ASt} {W : World} (h3 : VarReads Tryz.prog W "unicode/utf8.first" firstData) (h4 : VarReads Tryz.prog W "unicode/utf8.acceptRanges" acceptData) :
  (σ 1=some (.fix (firstTab.map (AV.int .u8)))->RoleOk σ W 1 (.fix (firstTab.map (AV.int .u8))))/\(σ 2=some (.fix (accTab.map (AV.int .u8)))->RoleOk σ W 2 (.fix (accTab.map (AV.int .u8)))):=by
 have hT:=utf8Tabs_of_reads (ρ:=Tryz.lays260_ren) Tryz.lays260 u8_extra h3 h4
 obtain ⟨hT1,hT2⟩:=hT
 have hT1:∀ c,c<256->W.cell? ⟨1,c,none⟩=some (.int .u8 (firstT c)):=hT1
 have hT2:∀ i,i<16->W.cell? ⟨2,2*i,none⟩=some (.int .u8 (accLo i))/\W.cell? ⟨2,2*i+1,none⟩=some (.int .u8 (accHi i)):=hT2
 constructor
 ·intro hs
  obtain ⟨cs,T,fr,hh,hsz⟩:=var_size h3 (g:=1) (by kernel_rfl) u8_extra.y3 (Tryz.lays260.t119)
  refine fix_ok hs hh (hsz.trans (by kernel_rfl)) fun j z hj=>?_
  have hl:=(List.getElem?_eq_some_iff.1 hj).1
  simp only [firstTab,List.length_map,List.length_range] at hl
  simp only [firstTab,List.getElem?_map,List.getElem?_range hl,Option.map_some,Option.some.injEq] at hj
  subst hj
  exact hT1 j hl
 ·intro hs
  obtain ⟨cs,T,fr,hh,hsz⟩:=var_size h4 (g:=2) (by kernel_rfl) u8_extra.y4 (Tryz.lays260.t139)
  refine fix_ok hs hh (hsz.trans (by kernel_rfl)) fun j z hj=>?_
  have hl:=(List.getElem?_eq_some_iff.1 hj).1
  have key:∀ j,j<32->accTab[j]? = some (if j % 2=0 then (accLo (j / 2):Int) else accHi (j / 2)):=by decide
  have hl:j<32:=hl
  rw [key j hl] at hj
  injection hj with hj
  subst hj
  obtain ⟨g1,g2⟩:=hT2 (j / 2) (by omega)
  split
  ·rw [show 2*(j / 2)=j by omega] at g1;exact g1
  ·rw [show 2*(j / 2)+1=j by omega] at g2;exact g2
theorem pow_role {σ : ASt} {W : World} (hfx : ∀ b r, σ b = some r → ∃ l, r = .fix l) (h3 : VarReads Tryz.prog W "internal/strconv.uint64pow10" (Lib.tabData .u64 Lib.pow10Tab)) :
  RoleOk σ W 5 (.fix (Lib.pow10Tab.map (AV.int .u64))):=by
 obtain ⟨g',t',cs,fuel,p,hg',ht',hvar,hd⟩:=h3
 obtain rfl := Option.some.inj ((show Tryz.prog.globalNamed "internal/strconv.uint64pow10" = some 5 by kernel_rfl).symm.trans hg')
 obtain rfl:=Option.some.inj ((show (Tryz.prog.globals[5]?).map (·.type)=some 273 by kernel_rfl).symm.trans ht')
 have hcs:=cells_of_tab (n:=20) (e:=94) (k := .u64) (by kernel_rfl) (by kernel_rfl) (by kernel_rfl) (by kernel_rfl) hd
 unfold World.var? at hvar
 rw [show Tryz.prog.globalNamed "internal/strconv.uint64pow10" = some 5 by kernel_rfl, Option.bind_some] at hvar
 split at hvar
 ·rename_i cs' T fr hheap
  injection hvar with hvar
  have hlt:5<W.heap.size:=(Array.getElem?_eq_some_iff.1 hheap).1
  have he:cs'=(Lib.pow10Tab.map fun z=>Value.int .u64 z).toArray:=by rw [hvar];exact Array.ext' (by simpa using hcs)
  refine ⟨At.mk' (ints_reps _) (fun j _=>still_fix hfx hlt) (fun j v hj=>?_),cs',T,fr,hheap,by rw [he];simp⟩
  simp only [World.cell?,hheap,Nat.zero_add,he]
  simpa using hj
 ·cases hvar
end Go.Proofs.YtfnhdjigeedieaaGreatDoor
namespace Go.Proofs.YtfnhdjigeedieaaGreatDoor
open Go Go.ChangeShapes Go.WideShapes Go.ChangeAt Go.RowKit Go.A Go.Lib Go.Shelf
def laidV : List (String × DataW Unit) := [("math/bits.deBruijn32tab", Rows.laid_math_bits_deBruijn32tab), ("math/bits.deBruijn64tab", Rows.laid_math_bits_deBruijn64tab), ("internal/strconv.uint64pow10", Rows.laid_internal_strconv_uint64pow10), ("unicode/utf8.acceptRanges", Rows.laid_unicode_utf8_acceptRanges), ("unicode/utf8.first", Rows.laid_unicode_utf8_first)]
def vPs:List (Nat×List AV) := [(1,firstTab.map (AV.int .u8)),(2,accTab.map (AV.int .u8)),(5,Lib.pow10Tab.map (AV.int .u64))]
def vSt:ASt:=stOf vPs
end Go.Proofs.YtfnhdjigeedieaaGreatDoor
end
