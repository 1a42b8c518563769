/- Part 8 of what TextsTurns leans on: My. -/
import Derived.Shelf.Vars
import Derived.HandedShaped
import Derived.Test.YtigdnpbpajgphaaGreatDoorZTextsTurnsg
set_option linter.defProp false
set_option linter.unusedSimpArgs false
set_option linter.unusedVariables false
set_option maxRecDepth 100000
namespace Go
variable {H:Type} {enc:TypeId×Value->H}
theorem A.returnsInHanded_and_shaped {a:Assume} {C:Checked} {os:Os} {f:FuncId} {fn:Func} {s:ChangeSpec} {conds:List PathCond} {apart fresh handsOn again:Bool} {X:World->Array Value->Prop}
  (hX:∀ (w w':World) (args:Array Value),w.heap=w'.heap->X w args->X w' args)
  (own:ownKnob C.prog.godebug=none) (started:os.Started) (noInit:C.prog.inits.idxOf? f=none) (hfn:C.prog.funcs[f]? = some fn)
  (witness:∃ (w:World) (tape:Tape) (i:Input),w.os=os/\(w.forCall tape i).Shaped C.prog/\i.vars = []/\Input.okWide C.prog (w.forCall tape i) .any w.heap.size f i ∧
   ((s.pre enc C.prog fn conds apart (w.forCall tape i).memory i.args/\X (w.forCall tape i).memory i.args)/\sizedMet enc C.prog fn (OpenSpec.ofChange s) apart (w.forCall tape i).memory i.args)/\a.holds C.prog (lone (Frame.enter C.prog f i.args .normal) [] (w.forCall tape i)))
  (contract:∀ (W:World) (base:Nat) (args:Array Value) (ds gs:List (DataW H)) (before:List MemPlace),
   (∀ (j:Nat) t v,fn.params[j]? = some t->args[j]? = some v->Value.okWide C.prog W .any base t v) →
   DataW.Whole enc C.prog fn.params.toList s.vars apart W args.toList ds gs before →
   W.ShapedOpen C.prog->X W args →
   Calls C.prog f args W fun e W'=>∃ v,e = .returned v/\s.post enc C.prog fn apart fresh handsOn again W args v W') :
  ReturnsInHanded a C os f .any (fun w args=>(s.pre enc C.prog fn conds apart w args/\X w args)/\sizedMet enc C.prog fn (OpenSpec.ofChange s) apart w args) (s.post enc C.prog fn apart fresh handsOn again):=by
 refine returnsInHanded_of_calls own started noInit witness ?_
 intro w tape i _ hsh _ hok hpre hholds
 obtain ⟨_,_,_,fn',hfn',_,_,_,_,hval⟩:=hok
 have e:fn'=fn:=Option.some.inj (hfn'.symm.trans hfn)
 subst e
 obtain ⟨⟨⟨ds,gs,before,hw,hc⟩,hx⟩,hz⟩:=hpre
 have hw':=DataW.Whole.of_heap (w':=w.forCall tape i) (by rfl) hw
 refine (contract (w.forCall tape i) w.heap.size i.args ds gs before hval hw' hsh (hX _ _ _ (by rfl) hx)).mono fun e W' ⟨v,he,hp⟩=>?_
 subst he
 exact ChangeSpec.post_blind hp
end Go
namespace Go.Proofs.YtigdnpbpajgphaaGreatDoor
open Go Go.ChangeShapes Go.WideShapes Go.ChangeAt Go.RowKit Go.A Go.Lib Go.Shelf
def ySt (m:Int):ASt:=fun b=>if b=0 then some (.fix ([m].map (AV.int .i64))) else uSt b
theorem ySt_u8 (m:Int):U8 (ySt m):=⟨by simp [ySt,uSt,uPs,stOf],by simp [ySt,uSt,uPs,stOf]⟩
theorem ySt_tab (m:Int):Tab (ySt m):=by simp [Tab,ySt,uSt,uPs,stOf]
theorem ySt_max (m:Int):MaxL (ySt m):=⟨m,by simp [ySt]⟩
theorem ySt_fix {m:Int} {b:Nat} {r:Role} (h:ySt m b=some r):∃ l,r = .fix l:=by
 unfold ySt at h
 split at h
 ·injection h with h;exact ⟨_,h.symm⟩
 ·exact stOf_fix h
theorem y_sim {W:World} (hsh:W.ShapedOpen Tryz.prog) (h:laidMetH Tryz.prog laidU W):∃ m,Sim (ySt m) W:=by
 rw [MakeChecks.laidMetH_plain _ _ _ (by kernel_rfl)] at h
 have hp : VarReads Tryz.prog W "internal/strconv.uint64pow10" (Lib.tabData .u64 Lib.pow10Tab) := Lib.laidMet.reads h (.tail _ (.tail _ (.head _)))
 have h4 : VarReads Tryz.prog W "unicode/utf8.acceptRanges" acceptData := acc_eq ▸ Lib.laidMet.reads h (.tail _ (.tail _ (.tail _ (.head _))))
 have h3 : VarReads Tryz.prog W "unicode/utf8.first" firstData := first_eq ▸ Lib.laidMet.reads h (.tail _ (.tail _ (.tail _ (.tail _ (.tail _ (.head _))))))
 obtain ⟨m,hm⟩:=Go.Proofs.cell_of_shapedOpen_int (g:=0) (zero := #[.int .i64 0]) (t:=3) hsh (of_decide_eq_true (by kernel_rfl)) (by kernel_rfl) rfl (by kernel_rfl) (by kernel_rfl) Tryz.underlying3
 have hm:W.cell? ⟨0,0,none⟩=some (.int .i64 m):=hm
 obtain ⟨cs,hh,hsz,_⟩:=hsh.1 0 #[.int .i64 0] 3 (of_decide_eq_true (by kernel_rfl)) (by kernel_rfl)
 obtain ⟨r1,r2⟩:=u8_roles (σ:=ySt m) h3 h4
 refine ⟨m,fun b r hb=>?_⟩
 have hb0:=hb
 unfold ySt at hb
 split at hb
 ·rename_i hbb
  subst hbb
  injection hb with hb
  subst hb
  have hlt:0<W.heap.size:=(Array.getElem?_eq_some_iff.1 hh).1
  refine ⟨At.mk' (ints_reps _) (fun j _=>⟨hlt,.inr (.inl ⟨_,hb0⟩)⟩) (fun j v hj=>?_),cs,_,_,hh,hsz⟩
  match j,hj with
  | 0,hj=>injection hj with hj;subst hj;exact hm
 ·obtain ⟨l,hl,rfl⟩:=stOf_mem hb
  simp only [uPs,List.mem_cons,List.not_mem_nil,or_false,Prod.mk.injEq] at hl
  rcases hl with ⟨rfl,rfl⟩|⟨rfl,rfl⟩|⟨rfl,rfl⟩
  ·exact r1 (ySt_u8 m).1
  ·exact r2 (ySt_u8 m).2
  ·exact pow_role (fun _ _=>ySt_fix) hp
theorem calls_y {m:Int} {f:FuncId} {args:List AV} {vs:List Value} {w:World} (h:ACalls Tryz.prog f args (ySt m) fun r σ'=>r = .bool true/\σ'=ySt m) (hs:Sim (ySt m) w) (hr:Reps (ySt m) w args vs) :
  Calls Tryz.prog f ⟨vs⟩ w fun e w'=>e = .returned (.bool true)/\Ext w w':=
 (h w vs hs hr).mono fun e w' ⟨u,r,σ',he,⟨hrt,hst⟩,hle,_,hrep⟩=>by
  subst hrt hst
  cases hrep
  refine ⟨he,Ext.of_below ⟨hle.os,hle.tape,hle.output,hle.size,fun k hk=>?_⟩⟩
  cases hn:ySt m k with
  | none=>exact (hle.keep k hk hn).2
  | some r=>
    obtain ⟨l,rfl⟩:=ySt_fix hn
    exact (hle.fix k _ hk hn).2
end Go.Proofs.YtigdnpbpajgphaaGreatDoor
