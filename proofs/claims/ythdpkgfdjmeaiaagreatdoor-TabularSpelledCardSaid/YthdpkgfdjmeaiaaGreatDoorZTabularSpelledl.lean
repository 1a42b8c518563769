/- Part 12 of what TabularSpelled leans on: Mk. -/
import Derived.Test.YthdpkgfdjmeaiaaGreatDoorZTabularSpelledk
set_option linter.defProp false
set_option linter.unusedSimpArgs false
set_option linter.unusedVariables false
set_option maxRecDepth 100000
namespace Go.Proofs.YthdpkgfdjmeaiaaGreatDoor
open Go Go.ChangeShapes Go.WideShapes Go.ChangeAt Go.RowKit Go.A Go.Lib Go.Shelf
def ckZ:List Int:=ckT.map fun (n:Nat)=>(n:Int)
theorem ckZ_av:ckZ.map (AV.int .u32)=ckAV:=by unfold ckZ ckAV;rw [List.map_map];rfl
theorem ck_eq:(Rows.laid_tabular_check_table:DataW Unit)=Lib.tabData .u32 ckZ:=by kernel_rfl
theorem ck_role {σ : ASt} {W : World} (hfx : ∀ b r, σ b = some r → ∃ l, r = .fix l) (h3 : VarReads Tryz.prog W "tabular/check.table" (Lib.tabData .u32 ckZ)) :
  RoleOk σ W 1 (.fix ckAV):=by
 rw [<-ckZ_av]
 obtain ⟨g',t',cs,fuel,p,hg',ht',hvar,hd⟩:=h3
 obtain rfl := Option.some.inj ((show Tryz.prog.globalNamed "tabular/check.table" = some 1 by kernel_rfl).symm.trans hg')
 obtain rfl:=Option.some.inj ((show (Tryz.prog.globals[1]?).map (·.type)=some 188 by kernel_rfl).symm.trans ht')
 have hcs:=cells_of_tab (n:=16) (e:=117) (k := .u32) (by kernel_rfl) (by kernel_rfl) (by kernel_rfl) (by kernel_rfl) hd
 unfold World.var? at hvar
 rw [show Tryz.prog.globalNamed "tabular/check.table" = some 1 by kernel_rfl, Option.bind_some] at hvar
 split at hvar
 ·rename_i cs' T fr hheap
  injection hvar with hvar
  have hlt:1<W.heap.size:=(Array.getElem?_eq_some_iff.1 hheap).1
  have he:cs'=(ckZ.map fun z=>Value.int .u32 z).toArray:=by rw [hvar];exact Array.ext' (by simpa using hcs)
  refine ⟨At.mk' (ints_reps _) (fun j _=>still_fix hfx hlt) (fun j v hj=>?_),cs',T,fr,hheap,by rw [he];simp⟩
  simp only [World.cell?,hheap,Nat.zero_add,he]
  simpa using hj
 ·cases hvar
def laidK : List (String × DataW Unit) := [("tabular/check.table", Rows.laid_tabular_check_table), ("unicode/utf8.acceptRanges", Rows.laid_unicode_utf8_acceptRanges), ("tabular/parse.levels", Rows.laid_tabular_parse_levels), ("unicode/utf8.first", Rows.laid_unicode_utf8_first)]
def kPs:List (Nat×List AV) := [(3,firstTab.map (AV.int .u8)),(4,accTab.map (AV.int .u8)),(0,[lvAV]),(1,ckAV)]
def kSt:ASt:=stOf kPs
theorem kSt_u8:U8 kSt:=⟨by simp [kSt,kPs,stOf],by simp [kSt,kPs,stOf]⟩
theorem k_sim {W:World} (h:laidMetH Tryz.prog laidK W):Sim kSt W:=by
 rw [MakeChecks.laidMetH_plain _ _ _ (by kernel_rfl)] at h
 have hc : VarReads Tryz.prog W "tabular/check.table" (Lib.tabData .u32 ckZ) := ck_eq ▸ Lib.laidMet.reads h (.head _)
 have h4 : VarReads Tryz.prog W "unicode/utf8.acceptRanges" acceptData := acc_eq ▸ Lib.laidMet.reads h (.tail _ (.head _))
 have h5 : VarReads Tryz.prog W "tabular/parse.levels" (.slice (levelsL.map fun l => .slice (l.map fun s => .lit (.string s)) []) []) := Lib.laidMet.reads h (.tail _ (.tail _ (.head _)))
 have h3 : VarReads Tryz.prog W "unicode/utf8.first" firstData := first_eq ▸ Lib.laidMet.reads h (.tail _ (.tail _ (.tail _ (.head _))))
 obtain ⟨r1,r2⟩:=u8_roles (σ:=kSt) h3 h4
 intro b r hb
 obtain ⟨l,hl,rfl⟩:=stOf_mem hb
 simp only [kPs,List.mem_cons,List.not_mem_nil,or_false,Prod.mk.injEq] at hl
 rcases hl with ⟨rfl,rfl⟩|⟨rfl,rfl⟩|⟨rfl,rfl⟩|⟨rfl,rfl⟩
 ·exact r1 kSt_u8.1
 ·exact r2 kSt_u8.2
 ·exact levels_role (fun _ _=>stOf_fix) h5
 ·exact ck_role (fun _ _=>stOf_fix) hc
def laidL : List (String × DataW Unit) := [("math/bits.deBruijn32tab", Rows.laid_math_bits_deBruijn32tab), ("math/bits.deBruijn64tab", Rows.laid_math_bits_deBruijn64tab), ("internal/strconv.uint64pow10", Rows.laid_internal_strconv_uint64pow10), ("tabular/check.table", Rows.laid_tabular_check_table), ("unicode/utf8.acceptRanges", Rows.laid_unicode_utf8_acceptRanges), ("tabular/parse.levels", Rows.laid_tabular_parse_levels), ("unicode/utf8.first", Rows.laid_unicode_utf8_first)]
def lSt (m:Int):ASt:=fun b=>if b=1 then some (.fix ckAV) else xSt m b
theorem lSt_u8 (m:Int):U8 (lSt m):=⟨by simp [lSt,xSt,wSt,vSt,vPs,stOf],by simp [lSt,xSt,wSt,vSt,vPs,stOf]⟩
theorem lSt_tab (m:Int):Tab (lSt m):=by simp [Tab,lSt,xSt,wSt,vSt,vPs,stOf]
theorem lSt_max (m:Int):MaxL (lSt m):=⟨m,by simp [lSt,xSt,wSt]⟩
theorem lSt_lv (m:Int):LV (lSt m):=by simp [LV,lSt,xSt]
theorem lSt_ck (m:Int):CkT (lSt m):=by simp [CkT,lSt]
theorem lSt_fix {m:Int} {b:Nat} {r:Role} (h:lSt m b=some r):∃ l,r = .fix l:=by
 unfold lSt at h
 split at h
 ·injection h with h;exact ⟨_,h.symm⟩
 ·exact xSt_fix h
theorem l_sim {W:World} (hsh:W.ShapedOpen Tryz.prog) (h:laidMetH Tryz.prog laidL W):∃ m,Sim (lSt m) W:=by
 rw [MakeChecks.laidMetH_plain _ _ _ (by kernel_rfl)] at h
 have hp : VarReads Tryz.prog W "internal/strconv.uint64pow10" (Lib.tabData .u64 Lib.pow10Tab) := Lib.laidMet.reads h (.tail _ (.tail _ (.head _)))
 have hc : VarReads Tryz.prog W "tabular/check.table" (Lib.tabData .u32 ckZ) := ck_eq ▸ Lib.laidMet.reads h (.tail _ (.tail _ (.tail _ (.head _))))
 have h4 : VarReads Tryz.prog W "unicode/utf8.acceptRanges" acceptData := acc_eq ▸ Lib.laidMet.reads h (.tail _ (.tail _ (.tail _ (.tail _ (.head _)))))
 have h5 : VarReads Tryz.prog W "tabular/parse.levels" (.slice (levelsL.map fun l => .slice (l.map fun s => .lit (.string s)) []) []) := Lib.laidMet.reads h (.tail _ (.tail _ (.tail _ (.tail _ (.tail _ (.head _))))))
 have h3 : VarReads Tryz.prog W "unicode/utf8.first" firstData := first_eq ▸ Lib.laidMet.reads h (.tail _ (.tail _ (.tail _ (.tail _ (.tail _ (.tail _ (.head _)))))))
 obtain ⟨m,hm⟩:=Go.Proofs.cell_of_shapedOpen_int (g:=2) (zero := #[.int .i64 0]) (t:=3) hsh (of_decide_eq_true (by kernel_rfl)) (by kernel_rfl) rfl (by kernel_rfl) (by kernel_rfl) Tryz.underlying3
 have hm:W.cell? ⟨2,0,none⟩=some (.int .i64 m):=hm
 obtain ⟨cs,hh,hsz,_⟩:=hsh.1 2 #[.int .i64 0] 3 (of_decide_eq_true (by kernel_rfl)) (by kernel_rfl)
 obtain ⟨r1,r2⟩:=u8_roles (σ:=lSt m) h3 h4
 refine ⟨m,fun b r hb=>?_⟩
 have hb0:=hb
 unfold lSt at hb
 split at hb
 ·rename_i hbb
  subst hbb
  injection hb with hb
  subst hb
  exact ck_role (fun _ _=>lSt_fix) hc
 unfold xSt at hb
 split at hb
 ·rename_i hbb
  subst hbb
  injection hb with hb
  subst hb
  exact levels_role (fun _ _=>lSt_fix) h5
 unfold wSt at hb
 split at hb
 ·rename_i hbb
  subst hbb
  injection hb with hb
  subst hb
  have hlt:2<W.heap.size:=(Array.getElem?_eq_some_iff.1 hh).1
  refine ⟨At.mk' (ints_reps _) (fun j _=>⟨hlt,.inr (.inl ⟨_,hb0⟩)⟩) (fun j v hj=>?_),cs,_,_,hh,hsz⟩
  match j,hj with
  | 0,hj=>injection hj with hj;subst hj;exact hm
 ·obtain ⟨l,hl,rfl⟩:=stOf_mem hb
  simp only [vPs,List.mem_cons,List.not_mem_nil,or_false,Prod.mk.injEq] at hl
  rcases hl with ⟨rfl,rfl⟩|⟨rfl,rfl⟩|⟨rfl,rfl⟩
  ·exact r1 (lSt_u8 m).1
  ·exact r2 (lSt_u8 m).2
  ·exact pow_role (fun _ _=>lSt_fix) hp
theorem calls_l {m:Int} {f:FuncId} {args:List AV} {vs:List Value} {w:World} (h:ACalls Tryz.prog f args (lSt m) fun r σ'=>r = .bool true/\σ'=lSt m) (hs:Sim (lSt m) w) (hr:Reps (lSt m) w args vs) :
  Calls Tryz.prog f ⟨vs⟩ w fun e w'=>e = .returned (.bool true)/\Ext w w':=
 (h w vs hs hr).mono fun e w' ⟨u,r,σ',he,⟨hrt,hst⟩,hle,_,hrep⟩=>by
  subst hrt hst
  cases hrep
  refine ⟨he,Ext.of_below ⟨hle.os,hle.tape,hle.output,hle.size,fun k hk=>?_⟩⟩
  cases hn:lSt m k with
  | none=>exact (hle.keep k hk hn).2
  | some r=>
    obtain ⟨l,rfl⟩:=lSt_fix hn
    exact (hle.fix k _ hk hn).2
end Go.Proofs.YthdpkgfdjmeaiaaGreatDoor
