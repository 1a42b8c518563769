/- Part 6 of what TabularPages leans on: Kn CodeKp Kp Shelf Wz CodeH Hc CodeKh Kh Kq Hd Hf CodeVd Vd CodeVe. -/
import Derived.Test.YtkbomeigndfbhaaDoorProg
import Derived.KernelRfl
import Derived.Shelf.Strings.Trim
import Derived.Shelf.Small.Utf8
import Derived.Shelf.Small.Strs
import Derived.Shelf.Small.Wraps
import Derived.Shelf.Strconv.Itoa0
import Derived.Shelf.Strconv.Itoa1
import Derived.Shelf.LaysM
import Derived.Shelf.Strconv.Itoa2
import Derived.Shelf.Strings.Search1
import Derived.Shelf.Strings.Search2
import Derived.Shelf.Strings.Cut
import Derived.Shelf.Strings.Shaped
import Derived.Shelf.Strings.Prefix
import Derived.Shelf.Strings.Runes
import Derived.Shelf.Strings.AsciiSet
import Derived.Shelf.Unicode.DecodeSlow
import Derived.Shelf.Unicode.DecodeAny
import Derived.Lib.ItoaMem
import Derived.Lib.AppendIntMem
import Derived.BigCall
import Derived.BigGuard
import Derived.Test.YtkbomeigndfbhaaDoorZTabularPagese
set_option linter.defProp false
set_option linter.unusedSimpArgs false
set_option linter.unusedVariables false
set_option maxRecDepth 100000
namespace Go.A
open Go.Proofs
def spD (m : Int) (h0 : List UInt8) (L : List (List UInt8)) (pt : Int) : Dsk := ⟨imgF 0 (h0 :: L), m, [], List.replicate (L.length + 1) false, -1, -1, 0, pt⟩
theorem spD_ok {m : Int} {h0 : List UInt8} {L : List (List UInt8)} {pt : Int} (h : ∀ s ∈ h0 :: L, s.length ≤ 504) (hm : (L.length : Int) + 1 ≤ m ∧ m ≤ 60000) (hpt : 0 ≤ pt ∧ pt ≤ 1000000000) : (spD m h0 L pt).ok := by
 have hl : (List.replicate (L.length + 1) false).length = L.length + 1 := List.length_replicate
 refine ⟨?_, ?_, ?_, (fun p hp => by cases hp), Nat.zero_le _, ⟨(by decide : (-1 : Int) ≤ -1), (by decide : (-1 : Int) ≤ 1000000000)⟩, ⟨(by decide : (-1 : Int) ≤ -1), (by decide : (-1 : Int) ≤ 1000000000)⟩, ⟨(by decide : (0 : Int) ≤ 0), (by decide : (0 : Int) ≤ 1000000000)⟩, hpt⟩
 ·show (imgF 0 (h0 :: L)).length = (List.replicate (L.length + 1) false).length * 512
  rw [imgF_len h, hl]
  rfl
 ·show 1 ≤ (List.replicate (L.length + 1) false).length
  omega
 ·show ((List.replicate (L.length + 1) false).length : Int) ≤ m ∧ m ≤ 60000
  omega
theorem new_spD (m : Int) : newP m = spD m (headP (rawP m)) [] 1 := by
 rw [newP_eq]
 have h : (headP (rawP m)).length ≤ 504 := by rw [headP_len]; decide
 generalize headP (rawP m) = hh at *
 have e : layP (List.replicate 512 0) 0 hh = imgF 0 [hh] := by
  have := lay_new (l := []) (fun s hs => by cases hs) hh
  exact this
 rw [e]
 rfl
theorem took_spD {m : Int} {h0 : List UInt8} {L : List (List UInt8)} {pt : Int} (h : ∀ s ∈ h0 :: L, s.length ≤ 504) : tookP (spD m h0 L pt) = spD m h0 (L ++ [[]]) (pt + 1) := by
 have hl : (List.replicate (L.length + 1) false).length = (h0 :: L).length := List.length_replicate
 have e1 : layP (imgF 0 (h0 :: L) ++ List.replicate 512 0) (List.replicate (L.length + 1) false).length [] = imgF 0 (h0 :: (L ++ [[]])) := by
  rw [hl, lay_new h]
  rfl
 have e2 : List.replicate (L.length + 1) false ++ [false] = List.replicate ((L ++ [([] : List UInt8)]).length + 1) false := by
  rw [List.length_append]
  exact (List.replicate_succ' (n := L.length + 1)).symm
 unfold tookP spD
 dsimp only
 rw [e1, e2]
theorem wrote_spD {m : Int} {h0 : List UInt8} {L : List (List UInt8)} {pt : Int} (h : ∀ s ∈ h0 :: L, s.length ≤ 504) (s : List UInt8) : wroteP (spD m h0 (L ++ [[]]) pt) (L.length + 1) s = spD m h0 (L ++ [s]) (pt + 1) := by
 have h2 : ∀ s ∈ h0 :: (L ++ [[]]), s.length ≤ 504 := fun x hx => by
  rcases List.mem_cons.1 hx with rfl | hx
  ·exact h _ List.mem_cons_self
  ·rcases List.mem_append.1 hx with hx | hx
   ·exact h x (List.mem_cons_of_mem _ hx)
   ·rw [List.mem_singleton.1 hx]; decide
 have e : layP (imgF 0 (h0 :: (L ++ [[]]))) (L.length + 1) s = imgF 0 (h0 :: (L ++ [s])) := by
  rw [lay_img h2 (by simp)]
  congr 1
  show h0 :: (L ++ [[]]).set L.length s = _
  rw [List.set_append_right _ _ (Nat.le_refl _), Nat.sub_self]
  rfl
 unfold wroteP spD
 dsimp only
 rw [e]
 congr 1
 simp
def headL (n nx : Nat) : List UInt8 := [84, 65, 66, 85, 76, 65, 82, 49] ++ le32 n ++ le32 nx
theorem flush_spD {m : Int} {h0 : List UInt8} {L : List (List UInt8)} {pt : Int} (h : ∀ s ∈ h0 :: L, s.length ≤ 504) : flushP (spD m h0 L pt) = (spD m (headL (L.length + 1) 4294967295) L (pt + 1), 0) := by
 have e0 : headP (spD m h0 L pt) = headL (L.length + 1) 4294967295 := by
  unfold headP headL
  have : (spD m h0 L pt).isF.length = L.length + 1 := List.length_replicate
  rw [this]
  rfl
 have e : layP (imgF 0 (h0 :: L)) 0 (headL (L.length + 1) 4294967295) = imgF 0 (headL (L.length + 1) 4294967295 :: L) := by
  rw [lay_img h (by simp)]
  rfl
 unfold flushP
 rw [e0]
 have ef : failD (spD m h0 L pt).wl = (-1, 0) := rfl
 rw [ef, if_neg (by decide)]
 have e1 : (spD m h0 L pt).b = imgF 0 (h0 :: L) := rfl
 rw [e1, e]
 rfl
theorem headL_len (n nx : Nat) : (headL n nx).length = 16 := rfl
theorem head_pad (n nx : Nat) : padB (headL n nx) = [84, 65, 66, 85, 76, 65, 82, 49] ++ (le32 n ++ (le32 nx ++ List.replicate 488 0)) := by
 unfold padB
 rw [headL_len]
 unfold headL
 simp only [List.append_assoc]
end Go.A
namespace Go.A
open Go.Proofs
/-! 19: (*tabular/disk.Disk).Give -/
def c19_25 : ACode := .seq (.ops [ oq 4 (.mv (.v (.int .i64 0)))]) (.seq (.seq (.ops [ oq 6 (.mv (.t 0)), oq 7 (.mv (.t 1)), oe 8 (.call 30 [(.t 6), (.t 7)]), oq 9 (.un .not (.t 8))]) (.cond (.t 9) (.seq (.ops [ oq 4 (.mv (.v (.int .i64 4)))]) .ret) .skip)) (.seq (.seq (.ops [ oq 10 (.mv (.t 0)), oq 11 (.mv (.t 0)), oq 12 (.nc (.t 11)), oq 13 (.fa 5 (.t 12)), oe 14 (.call 27 [(.t 10), (.t 13)]), oq 5 (.mv (.t 14))]) (.seq (.ops [ oq 15 (.mv (.t 5)), oq 16 (.bin .neq (.t 15) (.v (.int .i64 0)))]) (.cond (.t 16) (.seq (.ops [ oq 17 (.mv (.t 5)), oq 4 (.mv (.t 17))]) .ret) .skip))) (.seq (.ops [ oq 18 (.mv (.t 0)), oq 19 (.nc (.t 18)), oq 20 (.fa 7 (.t 19)), oq 21 (.ld none (.t 20)), oq 22 (.bin .add (.t 21) (.v (.int .i64 1))), oq 23 (.nc (.t 18)), oq 24 (.fa 7 (.t 23)), oz (.store 1 (.t 24) (.t 22))]) (.seq (.ops [ oq 25 (.mv (.t 0)), oq 26 (.mv (.t 1)), oq 27 (.mv (.t 0)), oq 28 (.mv (.t 0)), oq 29 (.nc (.t 28)), oq 30 (.fa 2 (.t 29)), oq 31 (.ld none (.t 30)), oq 32 (.len (.t 31)), oe 33 (.call 32 [(.t 27), (.t 32)]), oe 34 (.call 29 [(.t 25), (.t 26), (.t 33)])]) (.seq (.ops [ oq 35 (.mv (.t 0)), oq 36 (.mv (.t 0)), oq 37 (.nc (.t 36)), oq 38 (.fa 2 (.t 37)), oq 39 (.ld none (.t 38)), oq 40 (.mv (.t 1)), oq 41 (.bsl 1 [(.t 40)]), oe 42 (.app 3 1 8 [(.int .i64 0)] (.t 39) (.t 41)), oq 43 (.nc (.t 35)), oq 44 (.fa 2 (.t 43)), oz (.store 1 (.t 44) (.t 42))]) (.seq (.ops [ oq 45 (.mv (.t 0)), oq 46 (.nc (.t 45)), oq 47 (.fa 3 (.t 46)), oq 48 (.ld none (.t 47)), oq 49 (.mv (.t 1)), oq 50 (.ia 1 (.t 48) (.t 49)), oz (.store 1 (.t 50) (.v (.bool true)))]) (.seq (.ops [ oq 4 (.mv (.v (.int .i64 0)))]) .ret)))))))
@[go_sem] def c19_25_wp := wp_of c19_25.eq_1
def c19 : AFn := ⟨51, [.t 4], c19_25⟩
theorem c19_ok : compF Tryd.prog Tryd.f19 = some c19 := by kernel_rfl
theorem a19 {args : List AV} {σ : ASt} {R : AV → ASt → Prop} (hl : args.length ≤ 51) (h : c19_25.wp Tryd.prog (RetQ [.t 4] R) (init args) σ) : ACalls Tryd.prog 19 args σ R := acalls_of Tryd.func19 c19_ok hl h
end Go.A
namespace Go.A
open Go.Proofs
section
variable {σ0 σ : ASt} {d B cB F I cI : Nat} {D : Dsk} {rB rI : List AV} {fv : AV}
theorem DM.growF (h : DM σ0 d D σ B cB rB fv F I cI rI) (hf : D.free = []) {p : Nat} {K : AV → ASt → Prop} {e : TypeId}
  (hK : ∀ F' c' τ, τ d = some (.obj (D.cs B cB fv I cI)) → DM σ0 d { D with free := [p] } (τ.set d (some (.obj (D.cs B cB (.msl F' 0 1 c') I cI)))) B cB rB (.msl F' 0 1 c') F' I cI rI → K (.msl F' 0 1 c') τ) :
  appC e 1 8 [.int .i64 0] fv (.sl .full [.int .i64 p]) σ K := by
 have hfl : [AV.int .i64 (p : Int)].flatMap AV.cells = [AV.int .i64 (p : Int)] := rfl
 have h1l : [AV.int .i64 (p : Int)].length = 1 := rfl
 have hmake : ∀ (b c : Nat) (r : List AV), σ b = none → 1 ≤ c → r.length = c - 1 → K (.msl b 0 1 c) (σ.set b (some (.obj ([.int .i64 p] ++ r)))) := fun b c r hb hc hr => by
  obtain ⟨f1, f2, f3, f4, f5⟩ := h.low hb
  refine hK b c _ (by rw [ASt.set_ne (Ne.symm f1)]; exact h.hd) ?_
  refine ⟨ASt.set_same _ _ _, ?_, ?_, h.cB, h.cI, .inr ⟨c, r, rfl, ?_, hc, hr, f1, f2, f3, f5⟩, h.n1, h.n2, h.n3, h.z1, h.z2, h.z3, ?_⟩
  ·rw [ASt.set_ne (Ne.symm h.n1), ASt.set_ne (Ne.symm f2)]; exact h.hB
  ·rw [ASt.set_ne (Ne.symm h.n2), ASt.set_ne (Ne.symm f3)]; exact h.hI
  ·rw [ASt.set_ne f1, ASt.set_same]; rfl
  ·intro x h1 h2 h3 h4
   rw [ASt.set_ne h1, ASt.set_ne h4]
   by_cases hxF : x = F
   ·rw [hxF]; exact .inr h.zF
   ·exact h.out x h1 h2 h3 hxF
 have hol : ∀ c, (ownRow 1 [AV.int .i64 0] ([] : List AV) 1 c).length = c - 1 := fun c => by unfold ownRow; simp
 rcases h.hF with ⟨x1, x2, x3⟩ | ⟨cF, rF, x1, x2, x3, x4, x5, x6, x7, x8⟩
 ·rw [x2]
  refine appO_by rfl rfl rfl (by rw [h1l]; decide) (by rw [h1l]; decide) (by rw [h1l]; decide) fun b c hb hc => ?_
  have hc : 1 ≤ c := hc
  have e : ownRow 1 [AV.int .i64 0] (([] : List AV).flatMap AV.cells ++ [AV.int .i64 (p : Int)].flatMap AV.cells) (([] : List AV).length + [AV.int .i64 (p : Int)].length) c = [.int .i64 p] ++ ownRow 1 [AV.int .i64 0] [] 1 c := rfl
  rw [e]
  exact hmake b c _ hb hc (hol c)
 ·rw [hf] at x1 x2 x3 x4
  subst x1
  have hml : (freeV [] ++ rF).length = cF := by rw [List.length_append]; exact (Nat.zero_add _).trans x4
  rw [appC_msl, x2]
  refine appM_by rfl rfl (by rw [h1l]; decide) (by rw [h1l]; decide) (by omega) (fun hroom => ⟨by rw [h1l] at hroom ⊢; simp only [List.length_nil] at hroom ⊢; omega, ?_⟩) (fun hgrow b' c' hb' hc' => ?_)
  ·rw [h1l] at hroom
   simp only [List.length_nil] at hroom
   have e : splice (freeV [] ++ rF) (0 + ([] : List Nat).length * 1) ([AV.int .i64 (p : Int)].length * 1) ([AV.int .i64 (p : Int)].flatMap AV.cells) = freeV [p] ++ rF.drop 1 := rfl
   rw [e]
   refine hK F cF _ (by rw [ASt.set_ne (Ne.symm x5)]; exact h.hd) ?_
   refine ⟨ASt.set_same _ _ _, ?_, ?_, h.cB, h.cI, .inr ⟨cF, rF.drop 1, rfl, ?_, by show 1 ≤ cF; omega, ?_, x5, x6, x7, x8⟩, h.n1, h.n2, h.n3, h.z1, h.z2, h.z3, ?_⟩
   ·rw [ASt.set_ne (Ne.symm h.n1), ASt.set_ne (Ne.symm x6)]; exact h.hB
   ·rw [ASt.set_ne (Ne.symm h.n2), ASt.set_ne (Ne.symm x7)]; exact h.hI
   ·rw [ASt.set_ne x5, ASt.set_same]
   ·rw [List.length_drop]
    show rF.length - 1 = cF - 1
    have : rF.length = cF := x4
    omega
   ·intro x h1 h2 h3 h4
    rw [ASt.set_ne h1, ASt.set_ne h4]
    exact h.out x h1 h2 h3 h4
  ·rw [h1l] at hgrow hc'
   simp only [List.length_nil] at hgrow hc'
   have e : ownRow 1 [AV.int .i64 0] (((freeV [] ++ rF).drop 0).take (([] : List Nat).length * 1) ++ [AV.int .i64 (p : Int)].flatMap AV.cells) (([] : List Nat).length + [AV.int .i64 (p : Int)].length) c' = [.int .i64 p] ++ ownRow 1 [AV.int .i64 0] [] 1 c' := rfl
   rw [e]
   exact hmake b' c' _ hb' (by omega) (hol c')
def gaveP (D : Dsk) (p : Nat) : Dsk := { D with b := layP D.b p (le32 4294967295), free := [p], isF := D.isF.set p true, pt := D.pt + 1 }
def retookP (D : Dsk) (p : Nat) : Dsk := { D with b := layP D.b p [], free := [], isF := D.isF.set p false, pt := D.pt + 1 }
theorem DM.mark (h : DM σ0 d D σ B cB rB fv F I cI rI) {p : Nat} (hp : p < D.isF.length) (x : Bool) :
  DM σ0 d { D with isF := D.isF.set p x } (σ.set I (some (.obj ((D.isF.map AV.bool ++ rI).take p ++ [.bool x] ++ (D.isF.map AV.bool ++ rI).drop (p + 1))))) B cB rB fv F I cI rI := by
 have hl : (D.isF.set p x).length = D.isF.length := List.length_set
 have hm : (D.isF.map AV.bool).length = D.isF.length := List.length_map _
 have e : (D.isF.map AV.bool ++ rI).take p ++ [.bool x] ++ (D.isF.map AV.bool ++ rI).drop (p + 1) = (D.isF.set p x).map AV.bool ++ rI := by
  rw [List.take_append_of_le_length (by omega), List.drop_append_of_le_length (by omega), List.map_set, List.set_eq_take_append_cons_drop, if_pos (by omega)]
  simp only [List.append_assoc, List.singleton_append, List.cons_append, List.nil_append]
 rw [e]
 have hF := h.hF
 refine ⟨?_, ?_, ?_, h.cB, by dsimp only; rw [hl]; exact h.cI, ?_, h.n1, h.n2, h.n3, h.z1, h.z2, h.z3, ?_⟩
 ·rw [ASt.set_ne h.n2, h.hd]
  unfold Dsk.cs
  dsimp only
  rw [hl]
 ·rw [ASt.set_ne h.n3]; exact h.hB
 ·rw [ASt.set_same]
 ·rcases hF with ⟨h1, h2, h3⟩ | ⟨cF, rF, h1, h2, h3, h4, h5, h6, h7, h8⟩
  ·exact .inl ⟨h1, h2, h3⟩
  ·exact .inr ⟨cF, rF, h1, by rw [ASt.set_ne h7]; exact h2, h3, h4, h5, h6, h7, h8⟩
 ·intro x h1 h2 h3 h4
  rw [ASt.set_ne h3]; exact h.out x h1 h2 h3 h4
set_option maxHeartbeats 1000000 in
theorem dkgive_ok (h : DM σ0 d D σ B cB rB fv F I cI rI) (hck : CkT σ0) (ho : D.ok) (hfree : D.free = []) (hwl : D.wl = -1) (hpt : D.pt < 1000000000) {p : Nat} (h1 : 1 ≤ p) (hp : p < D.isF.length) (hx : D.isF[p]? = some false) :
  ACalls Tryd.prog 19 [.ptr d 0, .int .i64 p] σ fun v σ' => v = .int .i64 0 ∧ DiskAt σ0 d (gaveP D p) σ' := by
 have hpt0 := ho.pt
 have hm := ho.most
 have hh := dkhas_ok h.lm ho.len (by omega) rfl h1 hp hx
 have hf := dkfailW_ok h ho
 have hfd : failD D.wl = (-1, 0) := by rw [hwl]; rfl
 have hDw : ({ D with wl := -1 } : Dsk) = D := by rw [← hwl]
 rw [hfd] at hf
 dsimp only at hf
 rw [hDw] at hf
 have hset : σ.set d (some (.obj (D.cs B cB fv I cI))) = σ := by
  funext x
  by_cases hx : x = d
  ·rw [hx, ASt.set_same, h.hd]
  ·rw [ASt.set_ne hx]
 rw [hset] at hf
 obtain ⟨D1, hD1⟩ : ∃ D1 : Dsk, D1 = { D with pt := D.pt + 1 } := ⟨_, rfl⟩
 have h2 := h.cells (D' := D1) (by rw [hD1]) (by rw [hD1]) (by rw [hD1])
 have ho1 : D1.ok := by
  rw [hD1]
  exact ⟨ho.len, ho.one, ho.most, ho.free, ho.few, ho.rl, ho.wl, ho.rd, ⟨by show 0 ≤ D.pt + 1; omega, by show D.pt + 1 ≤ 1000000000; omega⟩⟩
 have hnx := dknext_ok h2 ho1 (i := 0) (Nat.zero_le _)
 have hn0 : nextP D1 0 = 4294967295 := rfl
 rw [hn0] at hnx
 have hlay := dklay_ok (h2.at hck) h2 ho1 (p := p) (by rw [hD1]; exact hp) (s := le32 4294967295) (by rw [le32_len]; decide)
 have h3 := h2.lay (b' := layP D1.b p (le32 4294967295)) (layP_len (by rw [le32_len]; decide) (by rw [ho1.len]; exact Nat.mul_le_mul_right _ (by rw [hD1]; exact hp)))
 obtain ⟨D2, hD2⟩ : ∃ D2 : Dsk, D2 = { D1 with b := layP D1.b p (le32 4294967295) } := ⟨_, rfl⟩
 rw [← hD2] at h3
 have hlb : D2.b.length = D.b.length := by
  rw [hD2, hD1]
  exact layP_len (by rw [le32_len]; decide) (by rw [ho.len]; exact Nat.mul_le_mul_right _ hp)
 have hd := h.hd
 have hDc : D1.cs B cB fv I cI = [.msl B 0 D.b.length cB, .int .i64 D.most, fv, .msl I 0 D.isF.length cI, .int .i64 D.rl, .int .i64 D.wl, .int .i64 D.rd, .int .i64 (D.pt + 1)] := by rw [hD1]; rfl
 have hDc2 : ∀ fv, D2.cs B cB fv I cI = [.msl B 0 D.b.length cB, .int .i64 D.most, fv, .msl I 0 D.isF.length cI, .int .i64 D.rl, .int .i64 D.wl, .int .i64 D.rd, .int .i64 (D.pt + 1)] := fun fv => by
  unfold Dsk.cs
  rw [hlb, hD2, hD1]
 obtain ⟨τ1, hτ1⟩ : ∃ τ, τ = σ.set d (some (.obj (D1.cs B cB fv I cI))) := ⟨_, rfl⟩
 rw [← hτ1] at hlay h3 hnx
 have hds : σ.set d (some (.obj [.msl B 0 D.b.length cB, .int .i64 D.most, fv, .msl I 0 D.isF.length cI, .int .i64 D.rl, .int .i64 D.wl, .int .i64 D.rd, .int .i64 (D.pt + 1)])) = τ1 := by rw [hτ1, hDc]
 have hd1 : τ1 d = some (.obj [.msl B 0 D.b.length cB, .int .i64 D.most, fv, .msl I 0 D.isF.length cI, .int .i64 D.rl, .int .i64 D.wl, .int .i64 D.rd, .int .i64 (D.pt + 1)]) := by rw [← hds]; exact ASt.set_same _ _ _
 have hlen : lenC fv = some (.int .i64 0) := by
  rcases h.hF with ⟨_, x, _⟩ | ⟨cF, rF, x1, _⟩
  ·rw [x]; rfl
  ·rw [x1, hfree]; rfl
 have hlow : ∀ {τ : ASt}, True := fun {_} => trivial
 unfold Dsk.cs at hd
 obtain ⟨τ2, hτ2⟩ : ∃ τ, τ = τ1.set B (some (.obj (bytesAV (layP D1.b p (le32 4294967295)) ++ rB))) := ⟨_, rfl⟩
 rw [← hτ2] at h3 hlay
 have hd2 := h3.hd
 rw [hDc2] at hd2
 have hg := fun (K : AV → ASt → Prop) (e : TypeId) => h3.growF (p := p) (K := K) (e := e) (by rw [hD2, hD1]; exact hfree)
 refine a19 (by simp) ?_
 simp (disch := first | assumption | omega | (simp only [List.length_append, List.length_cons, List.length_nil]; omega)) only [go_sem, reduceCtorEq, Nat.reduceEqDiff, Nat.reduceAdd, Nat.reduceSub, Nat.reduceMul, Nat.reduceLeDiff, Int.reduceLT, Int.reduceLE, Int.reduceEq, ↓reduceIte, Int.reduceNeg, Int.reduceAdd, Int.reduceSub, Int.reduceMul, true_imp_iff, forall_const, Nat.mul_one, Int.reduceToNat, Nat.reducePow, Int.reducePow, Bool.true_and, Bool.false_and, Bool.and_false]
 refine hh.mono ?_
 rintro v σ1 ⟨rfl, rfl⟩
 simp (disch := first | assumption | omega | (simp only [List.length_append, List.length_cons, List.length_nil]; omega)) only [go_sem, reduceCtorEq, Nat.reduceEqDiff, Nat.reduceAdd, Nat.reduceSub, Nat.reduceMul, Nat.reduceLeDiff, Int.reduceLT, Int.reduceLE, Int.reduceEq, ↓reduceIte, Int.reduceNeg, Int.reduceAdd, Int.reduceSub, Int.reduceMul, true_imp_iff, forall_const, Nat.mul_one, Int.reduceToNat, Nat.reducePow, Int.reducePow, Bool.true_and, Bool.false_and, Bool.and_false]
 refine hf.mono ?_
 rintro v σ1 ⟨rfl, rfl⟩
 simp (disch := first | assumption | omega | (simp only [List.length_append, List.length_cons, List.length_nil]; omega)) only [go_sem, reduceCtorEq, Nat.reduceEqDiff, Nat.reduceAdd, Nat.reduceSub, Nat.reduceMul, Nat.reduceLeDiff, Int.reduceLT, Int.reduceLE, Int.reduceEq, ↓reduceIte, Int.reduceNeg, Int.reduceAdd, Int.reduceSub, Int.reduceMul, true_imp_iff, forall_const, Nat.mul_one, Int.reduceToNat, Nat.reducePow, Int.reducePow, Bool.true_and, Bool.false_and, Bool.and_false, hd, hds, hd1, hlen]
 refine hnx.mono ?_
 rintro v σ1 ⟨rfl, rfl⟩
 simp (disch := first | assumption | omega | (simp only [List.length_append, List.length_cons, List.length_nil]; omega)) only [go_sem, reduceCtorEq, Nat.reduceEqDiff, Nat.reduceAdd, Nat.reduceSub, Nat.reduceMul, Nat.reduceLeDiff, Int.reduceLT, Int.reduceLE, Int.reduceEq, ↓reduceIte, Int.reduceNeg, Int.reduceAdd, Int.reduceSub, Int.reduceMul, true_imp_iff, forall_const, Nat.mul_one, Int.reduceToNat, Nat.reducePow, Int.reducePow, Bool.true_and, Bool.false_and, Bool.and_false]
 refine hlay.mono ?_
 rintro v σ1 ⟨rfl, rfl⟩
 simp (disch := first | assumption | omega | (simp only [List.length_append, List.length_cons, List.length_nil]; omega)) only [go_sem, reduceCtorEq, Nat.reduceEqDiff, Nat.reduceAdd, Nat.reduceSub, Nat.reduceMul, Nat.reduceLeDiff, Int.reduceLT, Int.reduceLE, Int.reduceEq, ↓reduceIte, Int.reduceNeg, Int.reduceAdd, Int.reduceSub, Int.reduceMul, true_imp_iff, forall_const, Nat.mul_one, Int.reduceToNat, Nat.reducePow, Int.reducePow, Bool.true_and, Bool.false_and, Bool.and_false, hd2]
 refine hg _ _ fun F' c' τ3 hτd h4 => ?_
 rw [hDc2] at hτd h4
 obtain ⟨τ4, hτ4⟩ : ∃ τ, τ = τ3.set d (some (.obj [.msl B 0 D.b.length cB, .int .i64 D.most, .msl F' 0 1 c', .msl I 0 D.isF.length cI, .int .i64 D.rl, .int .i64 D.wl, .int .i64 D.rd, .int .i64 (D.pt + 1)])) := ⟨_, rfl⟩
 rw [← hτ4] at h4
 have hd4 : τ4 d = some (.obj [.msl B 0 D.b.length cB, .int .i64 D.most, .msl F' 0 1 c', .msl I 0 D.isF.length cI, .int .i64 D.rl, .int .i64 D.wl, .int .i64 D.rd, .int .i64 (D.pt + 1)]) := by rw [hτ4]; exact ASt.set_same _ _ _
 have hI4 := h4.hI
 have hi4 : ({ D2 with free := [p] } : Dsk).isF = D.isF := by rw [hD2, hD1]
 have h5 := h4.mark (p := p) (by rw [hi4]; exact hp) true
 rw [hi4] at hI4 h5
 have hml : p + 1 ≤ (D.isF.map AV.bool ++ rI).length := by rw [List.length_append, List.length_map]; omega
 have hfin : ({ ({ D2 with free := [p] } : Dsk) with isF := D.isF.set p true } : Dsk) = gaveP D p := by rw [hD2, hD1]; rfl
 rw [hfin] at h5
 generalize D.isF.map AV.bool ++ rI = MI at *
 have i2 : (p : Int) < (D.isF.length : Int) := by omega
 simp (disch := first | assumption | omega | (simp only [List.length_append, List.length_cons, List.length_nil]; omega)) only [go_sem, reduceCtorEq, Nat.reduceEqDiff, Nat.reduceAdd, Nat.reduceSub, Nat.reduceMul, Nat.reduceLeDiff, Int.reduceLT, Int.reduceLE, Int.reduceEq, ↓reduceIte, Int.reduceNeg, Int.reduceAdd, Int.reduceSub, Int.reduceMul, true_imp_iff, forall_const, Nat.mul_one, Int.reduceToNat, Nat.reducePow, Int.reducePow, Bool.true_and, Bool.false_and, Bool.and_false, hτd]
 rw [← hτ4]
 simp (disch := first | assumption | omega | (simp only [List.length_append, List.length_cons, List.length_nil]; omega)) only [go_sem, reduceCtorEq, Nat.reduceEqDiff, Nat.reduceAdd, Nat.reduceSub, Nat.reduceMul, Nat.reduceLeDiff, Int.reduceLT, Int.reduceLE, Int.reduceEq, ↓reduceIte, Int.reduceNeg, Int.reduceAdd, Int.reduceSub, Int.reduceMul, true_imp_iff, forall_const, Nat.mul_one, Int.reduceToNat, Nat.reducePow, Int.reducePow, Bool.true_and, Bool.false_and, Bool.and_false, hd4, hI4, hml, Nat.zero_add, Nat.mul_one, Int.toNat_natCast]
 exact retC_by (.refl _) (.refl _) ⟨rfl, _, _, _, _, _, _, _, _, h5⟩
theorem DM.dropF (h : DM σ0 d D σ B cB rB fv F I cI rI) {p : Nat} (hf : D.free = [p]) : ∃ cF rF, fv = .msl F 0 1 cF ∧ 1 ≤ cF ∧ σ F = some (.obj ([.int .i64 p] ++ rF)) ∧ DM σ0 d { D with free := [] } (σ.set d (some (.obj (D.cs B cB (.msl F 0 0 cF) I cI)))) B cB rB (.msl F 0 0 cF) F I cI rI := by
 rcases h.hF with ⟨x1, _⟩ | ⟨cF, rF, x1, x2, x3, x4, x5, x6, x7, x8⟩
 ·rw [hf] at x1; cases x1
 ·rw [hf] at x1 x2 x3 x4
  have x3 : 1 ≤ cF := x3
  have x4 : rF.length = cF - 1 := x4
  refine ⟨cF, rF, x1, x3, x2, ⟨ASt.set_same _ _ _, ?_, ?_, h.cB, h.cI, .inr ⟨cF, [.int .i64 p] ++ rF, rfl, ?_, Nat.zero_le _, ?_, x5, x6, x7, x8⟩, h.n1, h.n2, h.n3, h.z1, h.z2, h.z3, ?_⟩⟩
  ·rw [ASt.set_ne (Ne.symm h.n1)]; exact h.hB
  ·rw [ASt.set_ne (Ne.symm h.n2)]; exact h.hI
  ·rw [ASt.set_ne x5, x2]; rfl
  ·show ([AV.int .i64 (p : Int)] ++ rF).length = cF - 0
   rw [List.length_append, x4]
   show 1 + (cF - 1) = cF - 0
   omega
  ·intro x h1 h2 h3 h4
   rw [ASt.set_ne h1]
   exact h.out x h1 h2 h3 h4
set_option maxHeartbeats 1000000 in
theorem dktake_free (h : DM σ0 d D σ B cB rB fv F I cI rI) (hck : CkT σ0) (ho : D.ok) {p : Nat} (hfree : D.free = [p]) (hwl : D.wl = -1) (hpt : D.pt < 1000000000) :
  ACalls Tryd.prog 7 [.ptr d 0] σ fun v σ' => v = .tuple [.int .i64 p, .int .i64 0] ∧ DiskAt σ0 d (retookP D p) σ' := by
 have hm := ho.most
 have hpt0 := ho.pt
 have hp : p < D.isF.length := ho.free p (by rw [hfree]; exact List.mem_singleton_self _)
 have hro := dkroom_ok h ho
 have hf := dkfailW_ok h ho
 have hfd : failD D.wl = (-1, 0) := by rw [hwl]; rfl
 have hDw : ({ D with wl := -1 } : Dsk) = D := by rw [← hwl]
 rw [hfd] at hf
 dsimp only at hf
 rw [hDw] at hf
 have hset : σ.set d (some (.obj (D.cs B cB fv I cI))) = σ := by
  funext x
  by_cases hx : x = d
  ·rw [hx, ASt.set_same, h.hd]
  ·rw [ASt.set_ne hx]
 rw [hset] at hf
 obtain ⟨D1, hD1⟩ : ∃ D1 : Dsk, D1 = { D with pt := D.pt + 1 } := ⟨_, rfl⟩
 have h1 := h.cells (D' := D1) (by rw [hD1]) (by rw [hD1]) (by rw [hD1])
 have ho1 : D1.ok := by
  rw [hD1]
  exact ⟨ho.len, ho.one, ho.most, ho.free, ho.few, ho.rl, ho.wl, ho.rd, ⟨by show 0 ≤ D.pt + 1; omega, by show D.pt + 1 ≤ 1000000000; omega⟩⟩
 have hi1 : D1.isF = D.isF := by rw [hD1]
 have hb1 : D1.b = D.b := by rw [hD1]
 have hcnt := dkcount_ok h1 ho1
 rw [hi1] at hcnt
 have hd := h.hd
 have hDc : ∀ fv, D1.cs B cB fv I cI = [.msl B 0 D.b.length cB, .int .i64 D.most, fv, .msl I 0 D.isF.length cI, .int .i64 D.rl, .int .i64 D.wl, .int .i64 D.rd, .int .i64 (D.pt + 1)] := fun fv => by rw [hD1]; rfl
 rw [hfree, List.length_singleton] at hro
 have e0 : ¬ (D.most - (D.isF.length : Int) + ((1 : Nat) : Int)) = 0 := by omega
 obtain ⟨cF, rF, hfv, hcF, hFm, h2⟩ := h1.dropF (p := p) (by rw [hD1]; exact hfree)
 subst hfv
 rw [ASt.set_set] at h2
 obtain ⟨D2, hD2⟩ : ∃ D2 : Dsk, D2 = { D1 with free := [] } := ⟨_, rfl⟩
 rw [← hD2] at h2
 have hi2 : D2.isF = D.isF := by rw [hD2, hD1]
 have h3 := h2.mark (p := p) (by rw [hi2]; exact hp) false
 obtain ⟨D3, hD3⟩ : ∃ D3 : Dsk, D3 = { D2 with isF := D2.isF.set p false } := ⟨_, rfl⟩
 rw [← hD3] at h3
 have hl3 : D3.isF.length = D.isF.length := by rw [hD3]; show (D2.isF.set p false).length = _; rw [List.length_set, hi2]
 have hb3 : D3.b = D.b := by rw [hD3, hD2, hD1]
 have ho3 : D3.ok := by
  refine ⟨?_, ?_, ?_, ?_, ?_, ?_, ?_, ?_, ?_⟩
  ·rw [hb3, hl3]; exact ho.len
  ·rw [hl3]; exact ho.one
  ·rw [hl3, hD3, hD2, hD1]; exact ho.most
  ·rw [hD3, hD2]
   intro q hq
   have hq : q ∈ ([] : List Nat) := hq
   cases hq
  ·rw [hD3, hD2]; exact Nat.zero_le _
  ·rw [hD3, hD2, hD1]; exact ho.rl
  ·rw [hD3, hD2, hD1]; exact ho.wl
  ·rw [hD3, hD2, hD1]; exact ho.rd
  ·rw [hD3, hD2, hD1]; exact ⟨by show 0 ≤ D.pt + 1; omega, by show D.pt + 1 ≤ 1000000000; omega⟩
 have hlay := dklay_ok (h3.at hck) h3 ho3 (p := p) (by rw [hl3]; exact hp) (s := []) (by decide)
 have h4 := h3.lay (b' := layP D3.b p []) (layP_len (by decide) (by rw [hb3, ho.len]; exact Nat.mul_le_mul_right _ hp))
 have hfin : ({ D3 with b := layP D3.b p [] } : Dsk) = retookP D p := by rw [hD3, hD2, hD1]; rfl
 rw [hfin] at h4
 have hI2 := h2.hI
 rw [hi2] at hI2 h3 h4 hlay
 have hd1 := h1.hd
 rw [hDc] at hd1 hFm hcnt h1
 have hd2 := h2.hd
 have hDc2 : D2.cs B cB (.msl F 0 0 cF) I cI = [.msl B 0 D.b.length cB, .int .i64 D.most, .msl F 0 0 cF, .msl I 0 D.isF.length cI, .int .i64 D.rl, .int .i64 D.wl, .int .i64 D.rd, .int .i64 (D.pt + 1)] := by rw [hD2, hD1]; rfl
 rw [hDc2] at hd2
 rw [hDc] at hd2 hI2 h2 h3 h4 hlay
 have hml : p + 1 ≤ (D.isF.map AV.bool ++ rI).length := by rw [List.length_append, List.length_map]; omega
 have hcF' : (0 : Int) < (cF : Int) := by omega
 have hF0 : ([AV.int .i64 (p : Int)] ++ rF)[0]? = some (.int .i64 p) := rfl
 generalize D.isF.map AV.bool ++ rI = MI at *
 generalize [AV.int .i64 (p : Int)] ++ rF = MF at *
 have hds : σ.set d (some (.obj [.msl B 0 D.b.length cB, .int .i64 D.most, .msl F 0 1 cF, .msl I 0 D.isF.length cI, .int .i64 D.rl, .int .i64 D.wl, .int .i64 D.rd, .int .i64 (D.pt + 1)])) = σ.set d (some (.obj [.msl B 0 D.b.length cB, .int .i64 D.most, .msl F 0 1 cF, .msl I 0 D.isF.length cI, .int .i64 D.rl, .int .i64 D.wl, .int .i64 D.rd, .int .i64 (D.pt + 1)])) := rfl
 obtain ⟨τ1, hτ1⟩ : ∃ τ, τ = σ.set d (some (.obj [.msl B 0 D.b.length cB, .int .i64 D.most, .msl F 0 1 cF, .msl I 0 D.isF.length cI, .int .i64 D.rl, .int .i64 D.wl, .int .i64 D.rd, .int .i64 (D.pt + 1)])) := ⟨_, rfl⟩
 rw [← hτ1] at hd1 hFm hcnt
 obtain ⟨τ2, hτ2⟩ : ∃ τ, τ = σ.set d (some (.obj [.msl B 0 D.b.length cB, .int .i64 D.most, .msl F 0 0 cF, .msl I 0 D.isF.length cI, .int .i64 D.rl, .int .i64 D.wl, .int .i64 D.rd, .int .i64 (D.pt + 1)])) := ⟨_, rfl⟩
 rw [← hτ2] at hd2 hI2 h3 h4 hlay
 have hst : τ1.set d (some (.obj [.msl B 0 D.b.length cB, .int .i64 D.most, .msl F 0 0 cF, .msl I 0 D.isF.length cI, .int .i64 D.rl, .int .i64 D.wl, .int .i64 D.rd, .int .i64 (D.pt + 1)])) = τ2 := by rw [hτ1, ASt.set_set, hτ2]
 have i2 : (p : Int) < (D.isF.length : Int) := by omega
 unfold Dsk.cs at hd
 refine a7 (by simp) ?_
 simp (disch := first | assumption | omega | (simp only [List.length_append, List.length_cons, List.length_nil]; omega)) only [go_sem, reduceCtorEq, Nat.reduceEqDiff, Nat.reduceAdd, Nat.reduceSub, Nat.reduceMul, Nat.reduceLeDiff, Int.reduceLT, Int.reduceLE, Int.reduceEq, ↓reduceIte, Int.reduceNeg, Int.reduceAdd, Int.reduceSub, Int.reduceMul, true_imp_iff, forall_const, Nat.mul_one, Int.reduceToNat, Nat.reducePow, Int.reducePow, Bool.true_and, Bool.false_and, Bool.and_false]
 refine hro.mono ?_
 rintro v σ' ⟨rfl, rfl⟩
 simp (disch := first | assumption | omega | (simp only [List.length_append, List.length_cons, List.length_nil]; omega)) only [go_sem, reduceCtorEq, Nat.reduceEqDiff, Nat.reduceAdd, Nat.reduceSub, Nat.reduceMul, Nat.reduceLeDiff, Int.reduceLT, Int.reduceLE, Int.reduceEq, ↓reduceIte, Int.reduceNeg, Int.reduceAdd, Int.reduceSub, Int.reduceMul, true_imp_iff, forall_const, Nat.mul_one, Int.reduceToNat, Nat.reducePow, Int.reducePow, Bool.true_and, Bool.false_and, Bool.and_false, e0, hd]
 refine hf.mono ?_
 rintro v σ'' ⟨rfl, rfl⟩
 simp (disch := first | assumption | omega | (simp only [List.length_append, List.length_cons, List.length_nil]; omega)) only [go_sem, reduceCtorEq, Nat.reduceEqDiff, Nat.reduceAdd, Nat.reduceSub, Nat.reduceMul, Nat.reduceLeDiff, Int.reduceLT, Int.reduceLE, Int.reduceEq, ↓reduceIte, Int.reduceNeg, Int.reduceAdd, Int.reduceSub, Int.reduceMul, true_imp_iff, forall_const, Nat.mul_one, Int.reduceToNat, Nat.reducePow, Int.reducePow, Bool.true_and, Bool.false_and, Bool.and_false, hd]
 rw [← hτ1]
 refine hcnt.mono ?_
 rintro v σ'' ⟨rfl, rfl⟩
 simp (disch := first | assumption | omega | (simp only [List.length_append, List.length_cons, List.length_nil]; omega)) only [go_sem, reduceCtorEq, Nat.reduceEqDiff, Nat.reduceAdd, Nat.reduceSub, Nat.reduceMul, Nat.reduceLeDiff, Int.reduceLT, Int.reduceLE, Int.reduceEq, ↓reduceIte, Int.reduceNeg, Int.reduceAdd, Int.reduceSub, Int.reduceMul, true_imp_iff, forall_const, Nat.mul_one, Int.reduceToNat, Nat.reducePow, Int.reducePow, Bool.true_and, Bool.false_and, Bool.and_false, hd1, hFm, hF0, hst, hd2, hI2, hml, Nat.sub_zero, Nat.zero_add, Nat.mul_one, Nat.zero_mul, Int.toNat_natCast]
 refine hlay.mono ?_
 rintro v σ6 ⟨rfl, rfl⟩
 simp (disch := first | assumption | omega | (simp only [List.length_append, List.length_cons, List.length_nil]; omega)) only [go_sem, reduceCtorEq, Nat.reduceEqDiff, Nat.reduceAdd, Nat.reduceSub, Nat.reduceMul, Nat.reduceLeDiff, Int.reduceLT, Int.reduceLE, Int.reduceEq, ↓reduceIte, Int.reduceNeg, Int.reduceAdd, Int.reduceSub, Int.reduceMul, true_imp_iff, forall_const, Nat.mul_one, Int.reduceToNat, Nat.reducePow, Int.reducePow, Bool.true_and, Bool.false_and, Bool.and_false]
 exact retC_by (.refl _) (.refl _) ⟨rfl, _, _, _, _, _, _, _, _, h4⟩
end
end Go.A
namespace Go.Proofs
open Go.Shelf
def Tryd.lays162_ren : Go.Shelf.Ren := ⟨fun | 162 => 39 | 232 => 50 | 227 => 51 | 234 => 52 | 236 => 53 | 228 => 61 | 271 => 62 | 151 => 63 | 120 => 71 | 197 => 72 | 152 => 73 | 260 => 80 | 137 => 81 | 119 => 82 | 224 => 76 | 225 => 75 | 217 => 74 | 266 => 83 | n => n, fun | 9 => 9 | 4 => 4 | 3 => 3 | 5 => 5 | 117 => 92 | 116 => 91 | 0 => 0 | 124 => 95 | 21 => 21 | 105 => 104 | 46 => 88 | 119 => 123 | 139 => 126 | 138 => 125 | n => n, fun | 3 => 5 | 4 => 6 | n => n⟩
theorem Tryd.lays162 : Go.Proofs.Lays.n162 Tryd.prog Tryd.lays162_ren := {
 mixed := by kernel_rfl
 f119 := Tryd.func82.trans (congrArg some (by kernel_rfl))
 f120 := Tryd.func71.trans (congrArg some (by kernel_rfl))
 f137 := Tryd.func81.trans (congrArg some (by kernel_rfl))
 f151 := Tryd.func63.trans (congrArg some (by kernel_rfl))
 f152 := Tryd.func73.trans (congrArg some (by kernel_rfl))
 f162 := Tryd.func39.trans (congrArg some (by kernel_rfl))
 f197 := Tryd.func72.trans (congrArg some (by kernel_rfl))
 f217 := Tryd.func74.trans (congrArg some (by kernel_rfl))
 f224 := Tryd.func76.trans (congrArg some (by kernel_rfl))
 f225 := Tryd.func75.trans (congrArg some (by kernel_rfl))
 f227 := Tryd.func51.trans (congrArg some (by kernel_rfl))
 f228 := Tryd.func61.trans (congrArg some (by kernel_rfl))
 f232 := Tryd.func50.trans (congrArg some (by kernel_rfl))
 f234 := Tryd.func52.trans (congrArg some (by kernel_rfl))
 f236 := Tryd.func53.trans (congrArg some (by kernel_rfl))
 f260 := Tryd.func80.trans (congrArg some (by kernel_rfl))
 f266 := Tryd.func83.trans (congrArg some (by kernel_rfl))
 f271 := Tryd.func62.trans (congrArg some (by kernel_rfl))
 t0 := Tryd.underlying0
 a0 := Tryd.isAgg0
 z0 := Tryd.sizeOf0
 v0 := Tryd.zeroValue0
 t3 := Tryd.underlying3
 a3 := Tryd.isAgg3
 z3 := Tryd.sizeOf3
 v3 := Tryd.zeroValue3
 t4 := Tryd.underlying4
 a4 := Tryd.isAgg4
 z4 := Tryd.sizeOf4
 v4 := Tryd.zeroValue4
 t5 := Tryd.underlying5
 a5 := Tryd.isAgg5
 z5 := Tryd.sizeOf5
 v5 := Tryd.zeroValue5
 t9 := Tryd.underlying9
 a9 := Tryd.isAgg9
 z9 := Tryd.sizeOf9
 v9 := Tryd.zeroValue9
 t21 := Tryd.underlying21
 a21 := Tryd.isAgg21
 z21 := Tryd.sizeOf21
 v21 := Tryd.zeroValue21
 t46 := Tryd.underlying88
 a46 := Tryd.isAgg88
 z46 := Tryd.sizeOf88
 v46 := Tryd.zeroValue88
 t105 := Tryd.underlying104
 a105 := Tryd.isAgg104
 z105 := Tryd.sizeOf104
 v105 := Tryd.zeroValue104
 t116 := Tryd.underlying91
 a116 := Tryd.isAgg91
 z116 := Tryd.sizeOf91
 t117 := Tryd.underlying92
 a117 := Tryd.isAgg92
 z117 := Tryd.sizeOf92
 v117 := Tryd.zeroValue92
 t119 := Tryd.underlying123
 a119 := Tryd.isAgg123
 z119 := Tryd.sizeOf123
 t124 := Tryd.underlying95
 a124 := Tryd.isAgg95
 z124 := Tryd.sizeOf95
 v124 := Tryd.zeroValue95
 t138 := Tryd.underlying125
 a138 := Tryd.isAgg125
 z138 := Tryd.sizeOf125
 v138 := Tryd.zeroValue125
 t139 := Tryd.underlying126
 a139 := Tryd.isAgg126
 z139 := Tryd.sizeOf126
 v139 := Tryd.zeroValue126
 g3 := by kernel_rfl
 g4 := by kernel_rfl }
open Go.RowKit in
theorem Tryd.strings_TrimRight_one (s : ByteArray) (c : UInt8) (hc : c.toNat < 128) (w : World) (hs : s.size ≤ 9223372036854775807) :
  Calls Tryd.prog 39 #[.string s, .string ⟨#[c]⟩] w fun e w' => e = .returned (.string ⟨(Lib.trimRightB s.data.toList c).toArray⟩) ∧ w' = w := Any.strings_TrimRight_one Tryd.lays162 s c hc w hs
def Tryd.lays103_ren : Go.Shelf.Ren := ⟨fun | 103 => 34 | 210 => 48 | 206 => 56 | n => n, fun | 9 => 9 | 4 => 4 | 24 => 56 | 3 => 3 | n => n, fun | n => n⟩
theorem Tryd.lays103 : Go.Proofs.Lays.n103 Tryd.prog Tryd.lays103_ren := {
 mixed := by kernel_rfl
 f103 := Tryd.func34.trans (congrArg some (by kernel_rfl))
 f206 := Tryd.func56.trans (congrArg some (by kernel_rfl))
 f210 := Tryd.func48.trans (congrArg some (by kernel_rfl))
 t3 := Tryd.underlying3
 a3 := Tryd.isAgg3
 z3 := Tryd.sizeOf3
 v3 := Tryd.zeroValue3
 t4 := Tryd.underlying4
 a4 := Tryd.isAgg4
 z4 := Tryd.sizeOf4
 v4 := Tryd.zeroValue4
 t9 := Tryd.underlying9
 a9 := Tryd.isAgg9
 z9 := Tryd.sizeOf9
 v9 := Tryd.zeroValue9
 t24 := Tryd.underlying56
 a24 := Tryd.isAgg56
 z24 := Tryd.sizeOf56
 v24 := Tryd.zeroValue56 }
open Go.RowKit in
theorem Tryd.strings_CutPrefix (s p : ByteArray) (w : World) :
  Calls Tryd.prog 34 #[.string s, .string p] w fun e w' => e = .returned (.tuple #[.string ⟨(Lib.trimPrefix s.data.toList p.data.toList).toArray⟩, .bool (Lib.hasPrefix s.data.toList p.data.toList)]) ∧ w' = w := Any.strings_CutPrefix Tryd.lays103 s p w
def Tryd.lays283_ren : Go.Shelf.Ren := ⟨fun | 283 => 57 | n => n, fun | 3 => 3 | 9 => 9 | 4 => 4 | n => n, fun | n => n⟩
theorem Tryd.lays283 : Go.Proofs.Lays.n283 Tryd.prog Tryd.lays283_ren := {
 mixed := by kernel_rfl
 f283 := Tryd.func57.trans (congrArg some (by kernel_rfl))
 t3 := Tryd.underlying3
 a3 := Tryd.isAgg3
 z3 := Tryd.sizeOf3
 v3 := Tryd.zeroValue3
 t4 := Tryd.underlying4
 a4 := Tryd.isAgg4
 z4 := Tryd.sizeOf4
 v4 := Tryd.zeroValue4
 t9 := Tryd.underlying9
 a9 := Tryd.isAgg9
 z9 := Tryd.sizeOf9
 v9 := Tryd.zeroValue9 }
open Go.Lib in
theorem Tryd.internal_strconv_small (i : Nat) (h : i < 100) (w : World) :
  Calls Tryd.prog 57 #[.int .i64 i] w fun e w' => e = .returned (.string ⟨(Lib.decDigits i).toArray⟩) ∧ w' = w := Any.internal_strconv_small Tryd.lays283 i h w
def Tryd.laysM284_ren : Go.Shelf.Ren := ⟨fun | 284 => 58 | 129 => 67 | 317 => 66 | 318 => 68 | n => n, fun | 53 => 72 | 3 => 3 | 212 => 111 | 0 => 0 | 4 => 4 | 46 => 88 | 5 => 5 | 9 => 9 | n => n, fun | 17 => 0 | n => n⟩
theorem Tryd.laysM284 : Go.Proofs.LaysM.n284 Tryd.prog Tryd.laysM284_ren := {
 mixed := by kernel_rfl
 f129 := Tryd.func67.trans (congrArg some (by kernel_rfl))
 f284 := Tryd.func58.trans (congrArg some (by kernel_rfl))
 f317 := Tryd.func66.trans (congrArg some (by kernel_rfl))
 f318 := Tryd.func68.trans (congrArg some (by kernel_rfl))
 t0 := Tryd.underlying0
 a0 := Tryd.isAgg0
 z0 := Tryd.sizeOf0
 v0 := Tryd.zeroValue0
 t3 := Tryd.underlying3
 a3 := Tryd.isAgg3
 z3 := Tryd.sizeOf3
 v3 := Tryd.zeroValue3
 t4 := Tryd.underlying4
 a4 := Tryd.isAgg4
 z4 := Tryd.sizeOf4
 v4 := Tryd.zeroValue4
 t5 := Tryd.underlying5
 a5 := Tryd.isAgg5
 z5 := Tryd.sizeOf5
 v5 := Tryd.zeroValue5
 t9 := Tryd.underlying9
 a9 := Tryd.isAgg9
 z9 := Tryd.sizeOf9
 v9 := Tryd.zeroValue9
 t46 := Tryd.underlying88
 a46 := Tryd.isAgg88
 z46 := Tryd.sizeOf88
 v46 := Tryd.zeroValue88
 t53 := Tryd.underlying72
 a53 := Tryd.isAgg72
 z53 := Tryd.sizeOf72
 v53 := Tryd.zeroValue72
 t212 := Tryd.underlying111
 a212 := Tryd.isAgg111
 z212 := Tryd.sizeOf111
 v212 := Tryd.zeroValue111
 g17 := by kernel_rfl
 i0 := by kernel_rfl
 i3 := by kernel_rfl
 i4 := by kernel_rfl
 i5 := by kernel_rfl
 i9 := by kernel_rfl
 i46 := by kernel_rfl
 i53 := by kernel_rfl
 i212 := by kernel_rfl
 m17 := by kernel_rfl }
open Go.Lib in
theorem Tryd.internal_strconv_numDigits (u : Nat) (h1 : 1 ≤ u) (h2 : u < 18446744073709551616) (w : World) (htab : Lib.TabIs Tryd.prog w "internal/strconv.uint64pow10" .u64 Lib.pow10Tab) :
  Calls Tryd.prog 58 #[.int .u64 u] w fun e w' => e = .returned (.int .i64 (Lib.nDigits u)) ∧ w' = w := Any.internal_strconv_numDigits Tryd.laysM284 u h1 h2 w htab
def Tryd.lays285_ren : Go.Shelf.Ren := ⟨fun | 285 => 59 | n => n, fun | 37 => 33 | 53 => 72 | 3 => 3 | 4 => 4 | 51 => 23 | 9 => 9 | 5 => 5 | 0 => 0 | n => n, fun | n => n⟩
theorem Tryd.lays285 : Go.Proofs.Lays.n285 Tryd.prog Tryd.lays285_ren := {
 mixed := by kernel_rfl
 f285 := Tryd.func59.trans (congrArg some (by kernel_rfl))
 t0 := Tryd.underlying0
 a0 := Tryd.isAgg0
 z0 := Tryd.sizeOf0
 v0 := Tryd.zeroValue0
 t3 := Tryd.underlying3
 a3 := Tryd.isAgg3
 z3 := Tryd.sizeOf3
 v3 := Tryd.zeroValue3
 t4 := Tryd.underlying4
 a4 := Tryd.isAgg4
 z4 := Tryd.sizeOf4
 v4 := Tryd.zeroValue4
 t5 := Tryd.underlying5
 a5 := Tryd.isAgg5
 z5 := Tryd.sizeOf5
 v5 := Tryd.zeroValue5
 t9 := Tryd.underlying9
 a9 := Tryd.isAgg9
 z9 := Tryd.sizeOf9
 v9 := Tryd.zeroValue9
 t37 := Tryd.underlying33
 a37 := Tryd.isAgg33
 z37 := Tryd.sizeOf33
 v37 := Tryd.zeroValue33
 t51 := Tryd.underlying23
 a51 := Tryd.isAgg23
 z51 := Tryd.sizeOf23
 v51 := Tryd.zeroValue23
 t53 := Tryd.underlying72
 a53 := Tryd.isAgg72
 z53 := Tryd.sizeOf72
 v53 := Tryd.zeroValue72 }
open Go.RowKit Go.Sort Go.Lib in
theorem Tryd.internal_strconv_formatBase10 (blk off cap : Nat) (u : Nat) (d : Array UInt8) (w : World) (hH : Holds (fun (b : UInt8) => Value.int .u8 (b.toNat : Int)) w blk off d) (hu : u < 10 ^ d.size) (hu64 : u < 18446744073709551616) (hsz : d.size < 4611686018427387904) :
  Calls Tryd.prog 59 #[.slice (some ⟨blk, off, none⟩) d.size cap, .int .u64 u] w fun e w' =>
   e = .returned (.tuple #[]) ∧ ∃ (n v' : Nat) (dk : Array UInt8), w' = (putRow (fun (b : UInt8) => Value.int .u8 (b.toNat : Int)) w blk off dk).drewN n ∧ FmtInv d.size u 0 v' dk := Any.internal_strconv_formatBase10 Tryd.lays285 blk off cap u d w hH hu hu64 hsz
def Tryd.lays219_ren : Go.Shelf.Ren := ⟨fun | 219 => 64 | 217 => 74 | 225 => 75 | 224 => 76 | 267 => 77 | 266 => 83 | 314 => 84 | n => n, fun | 9 => 9 | 3 => 3 | 4 => 4 | 5 => 5 | 46 => 88 | 146 => 119 | 51 => 23 | n => n, fun | 1 => 1 | n => n⟩
theorem Tryd.lays219 : Go.Proofs.Lays.n219 Tryd.prog Tryd.lays219_ren := {
 mixed := by kernel_rfl
 f217 := Tryd.func74.trans (congrArg some (by kernel_rfl))
 f219 := Tryd.func64.trans (congrArg some (by kernel_rfl))
 f224 := Tryd.func76.trans (congrArg some (by kernel_rfl))
 f225 := Tryd.func75.trans (congrArg some (by kernel_rfl))
 f266 := Tryd.func83.trans (congrArg some (by kernel_rfl))
 f267 := Tryd.func77.trans (congrArg some (by kernel_rfl))
 f314 := Tryd.func84.trans (congrArg some (by kernel_rfl))
 t3 := Tryd.underlying3
 a3 := Tryd.isAgg3
 z3 := Tryd.sizeOf3
 v3 := Tryd.zeroValue3
 t4 := Tryd.underlying4
 a4 := Tryd.isAgg4
 z4 := Tryd.sizeOf4
 v4 := Tryd.zeroValue4
 t5 := Tryd.underlying5
 a5 := Tryd.isAgg5
 z5 := Tryd.sizeOf5
 v5 := Tryd.zeroValue5
 t9 := Tryd.underlying9
 a9 := Tryd.isAgg9
 z9 := Tryd.sizeOf9
 v9 := Tryd.zeroValue9
 t46 := Tryd.underlying88
 a46 := Tryd.isAgg88
 z46 := Tryd.sizeOf88
 v46 := Tryd.zeroValue88
 t51 := Tryd.underlying23
 a51 := Tryd.isAgg23
 z51 := Tryd.sizeOf23
 v51 := Tryd.zeroValue23
 t146 := Tryd.underlying119
 a146 := Tryd.isAgg119
 z146 := Tryd.sizeOf119
 v146 := Tryd.zeroValue119
 g1 := by kernel_rfl }
open Go.RowKit Go.Lib in
theorem Tryd.stringslite_Index_one (s : ByteArray) (c : UInt8) (w : World) :
  Calls Tryd.prog 64 #[.string s, .string ⟨#[c]⟩] w fun e w' => e = .returned (.int .i64 (Lib.indexByte s.data.toList c)) ∧ w' = w := Any.stringslite_Index_one Tryd.lays219 s c w
end Go.Proofs
namespace Go.A
open Go.Proofs
section
variable {P : Program} {σ : ASt} {w : World}
theorem reps_ints {k : IntKind} : ∀ {zs : List Int} {vs : List Value}, Reps σ w (zs.map (AV.int k)) vs → vs = zs.map (Value.int k)
 | [], vs, h => by cases h; rfl
 | z :: zs, vs, h => by
   cases h with
   | cons h1 h2 =>
     cases h1
     rw [reps_ints h2]
     rfl
theorem tabIs_of (hs : Sim σ w) {name : String} {b : Nat} {k : IntKind} {zs : List Int} (hg : P.globalNamed name = some b) (hb : σ b = some (.fix (zs.map (AV.int k)))) : Lib.TabIs P w name k zs := by
 obtain ⟨h1, c, T, fr, h2, h3⟩ := hs b _ hb
 obtain ⟨vs, h4, h5⟩ := h1.vals
 have h6 := reps_ints h4
 subst h6
 unfold Lib.TabIs World.var?
 rw [hg, Option.bind_some]
 simp only [h2]
 congr 1
 apply Array.ext
 ·simp [h3]
 ·intro j hj hj'
  have h7 := h5 j (Value.int k (zs[j]'(by simpa using hj'))) (by simp)
  simp only [World.cell?, h2, Nat.zero_add] at h7
  simp at h7 ⊢
  obtain ⟨_, h7⟩ := Array.getElem?_eq_some_iff.1 h7
  exact h7
theorem ACalls.of_ext {f : FuncId} {args : List AV} {r : AV} {u : Value} (h : ∀ w vs, Sim σ w → Reps σ w args vs → Calls P f ⟨vs⟩ w fun e w' => e = .returned u ∧ Ext w w') (hr : ∀ w, Rep σ w r u) : ACalls P f args σ fun v σ' => v = r ∧ σ' = σ :=
 fun w vs hs ha => (h w vs hs ha).mono fun e w' ⟨he, hx⟩ => ⟨u, r, σ, he, ⟨rfl, rfl⟩, ext_le hx, hs.ext hx, hr w'⟩
theorem ext_grow (w : World) (k : Nat) (os : Array Obj) : Ext w (Go.Sort.grow (w.drewN k) os) := ⟨⟨os, w.drawn + k⟩, rfl⟩
end
theorem Ext.of_eq {w w' : World} (h : w' = w) : Ext w w' := h ▸ Ext.refl w
def Tab (σ : ASt) : Prop := σ 0 = some (.fix (Lib.pow10Tab.map (AV.int .u64)))
end Go.A
namespace Go.A
open Go.Proofs
/-! 15: tabular/deci.Good -/
def c15_3 : ACode := .seq (.ops [ oq 2 (.mv (.v (.bool false)))]) (.seq (.ops [ oq 3 (.mv (.t 0)), oq 4 (.bin .geq (.t 3) (.v (.int .i64 (-999999999999999999)))), oq 5 (.mv (.t 4)), ⟨some 6, some (5, true), .q (.mv (.t 0)), []⟩, ⟨some 7, some (5, true), .q (.bin .leq (.t 6) (.v (.int .i64 999999999999999999))), []⟩, oq 8 (.pick (.t 5) (.t 7) (.v (.bool false))), oq 2 (.mv (.t 8))]) .ret)
@[go_sem] def c15_3_wp := wp_of c15_3.eq_1
def c15 : AFn := ⟨9, [.t 2], c15_3⟩
theorem c15_ok : compF Tryd.prog Tryd.f15 = some c15 := by kernel_rfl
theorem a15 {args : List AV} {σ : ASt} {R : AV → ASt → Prop} (hl : args.length ≤ 9) (h : c15_3.wp Tryd.prog (RetQ [.t 2] R) (init args) σ) : ACalls Tryd.prog 15 args σ R := acalls_of Tryd.func15 c15_ok hl h
/-! 17: (tabular/deci.Dec).Text -/
def c17_20 : ACode := .seq (.ops [ oq 2 (.mv (.v (.str [])))]) (.seq (.ops [ oq 6 (.mv (.t 0)), oe 7 (.call 37 [(.t 6)]), oq 3 (.mv (.t 7))]) (.seq (.ops [ oq 8 (.mv (.t 3)), oq 9 (.bin .quo (.t 8) (.v (.int .u64 10000))), oe 10 (.call 38 [(.t 9), (.v (.int .i64 10))]), oq 4 (.mv (.t 10))]) (.seq (.seq (.ops [ oq 11 (.mv (.t 3)), oq 12 (.bin .rem (.t 11) (.v (.int .u64 10000))), oq 5 (.mv (.t 12))]) (.seq (.ops [ oq 13 (.mv (.t 5)), oq 14 (.bin .gtr (.t 13) (.v (.int .u64 0)))]) (.cond (.t 14) (.ops [ oq 15 (.mv (.t 4)), oq 16 (.mv (.t 5)), oq 17 (.bin .add (.v (.int .u64 10000)) (.t 16)), oe 18 (.call 38 [(.t 17), (.v (.int .i64 10))]), oq 19 (.slfrom (true, 0) (.t 18) (.v (.int .i64 1))), oe 20 (.call 39 [(.t 19), (.v (.str [48]))]), oq 21 (.bin .add (.v (.str [46])) (.t 20)), oq 22 (.bin .add (.t 15) (.t 21)), oq 4 (.mv (.t 22))]) .skip))) (.seq (.seq (.ops [ oq 23 (.mv (.t 0)), oq 24 (.bin .lss (.t 23) (.v (.int .i64 0)))]) (.cond (.t 24) (.seq (.ops [ oq 25 (.mv (.t 4)), oq 26 (.bin .add (.v (.str [45])) (.t 25)), oq 2 (.mv (.t 26))]) .ret) .skip)) (.seq (.ops [ oq 27 (.mv (.t 4)), oq 2 (.mv (.t 27))]) .ret)))))
@[go_sem] def c17_20_wp := wp_of c17_20.eq_1
def c17 : AFn := ⟨28, [.t 2], c17_20⟩
theorem c17_ok : compF Tryd.prog Tryd.f17 = some c17 := by kernel_rfl
theorem a17 {args : List AV} {σ : ASt} {R : AV → ASt → Prop} (hl : args.length ≤ 28) (h : c17_20.wp Tryd.prog (RetQ [.t 2] R) (init args) σ) : ACalls Tryd.prog 17 args σ R := acalls_of Tryd.func17 c17_ok hl h
/-! 21: tabular/deci.Parse -/
def c21_25 : ACode := .seq (.ops [ oq 47 (.bin .lss (.t 46) (.t 45))]) (.seq (.cond (.t 47) .skip (.exit 0)) (.seq (.block 1 (.seq (.ops [ oq 48 (.ia 1 (.t 44) (.t 46)), oq 49 (.ld none (.t 48)), oq 11 (.mv (.t 49))]) (.seq (.seq (.ops [ oq 50 (.mv (.t 11)), oq 51 (.bin .lss (.t 50) (.v (.int .u8 48))), oq 52 (.mv (.t 51)), ⟨some 53, some (52, false), .q (.mv (.t 11)), []⟩, ⟨some 54, some (52, false), .q (.bin .gtr (.t 53) (.v (.int .u8 57))), []⟩, oq 55 (.pick (.t 52) (.v (.bool true)) (.t 54)), oq 56 (.mv (.t 55)), ⟨some 57, some (56, false), .q (.mv (.t 9)), []⟩, ⟨some 58, some (56, false), .q (.bin .gtr (.t 57) (.v (.int .u64 99999999999999999))), []⟩, oq 59 (.pick (.t 56) (.v (.bool true)) (.t 58))]) (.cond (.t 59) (.seq (.ops [ oq 2 (.mv (.v (.int .i64 0))), oq 3 (.mv (.v (.bool false)))]) .ret) .skip)) (.ops [ oq 60 (.mv (.t 9)), oq 61 (.bin .mul (.v (.int .u64 10)) (.t 60)), oq 62 (.mv (.t 11)), oq 63 (.bin .sub (.t 62) (.v (.int .u8 48))), oq 64 (.conv .u64 (.t 63)), oq 65 (.bin .add (.t 61) (.t 64)), oq 9 (.mv (.t 65))])))) (.ops [ oq 66 (.bin .add (.t 46) (.v (.int .i64 1))), oq 46 (.mv (.t 66))])))
def c21_32 : ACode := .seq (.ops [ oq 9 (.mv (.v (.int .u64 0)))]) (.seq (.seq (.ops [ oq 37 (.mv (.t 6)), oq 38 (.mv (.t 7)), oq 39 (.bin .add (.t 37) (.t 38)), oq 40 (.mv (.t 7)), oq 41 (.lenS (.t 40)), oq 42 (.slfrom (true, 0) (.v (.str [48, 48, 48, 48])) (.t 41)), oq 43 (.bin .add (.t 39) (.t 42)), oe 44 (.s2b (.t 43)), oq 45 (.len (.t 44)), oq 46 (.mv (.v (.int .i64 0)))]) (.block 0 (.loop c21_25))) (.seq (.ops [ oq 67 (.mv (.t 5)), oq 68 (.mv (.t 9)), oe 69 (.call 41 [(.t 67), (.v (.int .u64 0)), (.t 68)]), oq 70 (.ext 0 (.t 69)), oq 71 (.ext 1 (.t 69)), oq 2 (.mv (.t 70)), oq 3 (.mv (.t 71))]) .ret))
def c21_36 : ACode := .seq (.ops [ oq 2 (.mv (.v (.int .i64 0))), oq 3 (.mv (.v (.bool false)))]) (.seq (.ops [ oq 13 (.mv (.t 0)), oe 14 (.call 34 [(.t 13), (.v (.str [45]))]), oq 12 (.mv (.t 14)), oq 15 (.ext 0 (.t 12)), oq 16 (.ext 1 (.t 12)), oq 4 (.mv (.t 15)), oq 5 (.mv (.t 16))]) (.seq (.ops [ oq 18 (.mv (.t 4)), oe 19 (.call 40 [(.t 18), (.v (.str [46]))]), oq 17 (.mv (.t 19)), oq 20 (.ext 0 (.t 17)), oq 21 (.ext 1 (.t 17)), oq 22 (.ext 2 (.t 17)), oq 6 (.mv (.t 20)), oq 7 (.mv (.t 21)), oq 8 (.mv (.t 22))]) (.seq (.seq (.ops [ oq 23 (.mv (.t 6)), oq 24 (.bin .eql (.t 23) (.v (.str []))), oq 25 (.mv (.t 24)), ⟨some 26, some (25, false), .q (.mv (.t 8)), []⟩, ⟨some 27, some (25, false), .q (.mv (.t 26)), []⟩, ⟨some 28, some (27, true), .q (.mv (.t 7)), []⟩, ⟨some 29, some (27, true), .q (.bin .eql (.t 28) (.v (.str []))), []⟩, ⟨some 30, some (27, true), .q (.mv (.t 29)), []⟩, ⟨some 31, some (30, false), .q (.mv (.t 7)), []⟩, ⟨some 32, some (30, false), .q (.lenS (.t 31)), []⟩, ⟨some 33, some (30, false), .q (.bin .gtr (.t 32) (.v (.int .i64 4))), []⟩, ⟨some 34, some (27, true), .q (.pick (.t 30) (.v (.bool true)) (.t 33)), []⟩, ⟨some 35, some (25, false), .q (.pick (.t 27) (.t 34) (.v (.bool false))), []⟩, oq 36 (.pick (.t 25) (.v (.bool true)) (.t 35))]) (.cond (.t 36) (.seq (.ops [ oq 2 (.mv (.v (.int .i64 0))), oq 3 (.mv (.v (.bool false)))]) .ret) .skip)) c21_32)))
@[go_sem] def c21_25_wp := wp_of c21_25.eq_1
@[go_sem] def c21_32_wp := wp_of c21_32.eq_1
@[go_sem] def c21_36_wp := wp_of c21_36.eq_1
def c21 : AFn := ⟨72, [.t 2, .t 3], c21_36⟩
theorem c21_ok : compF Tryd.prog Tryd.f21 = some c21 := by kernel_rfl
theorem a21 {args : List AV} {σ : ASt} {R : AV → ASt → Prop} (hl : args.length ≤ 72) (h : c21_36.wp Tryd.prog (RetQ [.t 2, .t 3] R) (init args) σ) : ACalls Tryd.prog 21 args σ R := acalls_of Tryd.func21 c21_ok hl h
/-! 37: tabular/deci.size -/
def c37_9 : ACode := .seq (.ops [ oq 2 (.mv (.v (.int .u64 0)))]) (.seq (.seq (.ops [ oq 3 (.mv (.t 0)), oq 4 (.bin .lss (.t 3) (.v (.int .i64 0)))]) (.cond (.t 4) (.seq (.ops [ oq 5 (.mv (.t 0)), oq 6 (.un .neg (.t 5)), oq 7 (.conv .u64 (.t 6)), oq 2 (.mv (.t 7))]) .ret) .skip)) (.seq (.ops [ oq 8 (.mv (.t 0)), oq 9 (.conv .u64 (.t 8)), oq 2 (.mv (.t 9))]) .ret))
@[go_sem] def c37_9_wp := wp_of c37_9.eq_1
def c37 : AFn := ⟨10, [.t 2], c37_9⟩
theorem c37_ok : compF Tryd.prog Tryd.f37 = some c37 := by kernel_rfl
theorem a37 {args : List AV} {σ : ASt} {R : AV → ASt → Prop} (hl : args.length ≤ 10) (h : c37_9.wp Tryd.prog (RetQ [.t 2] R) (init args) σ) : ACalls Tryd.prog 37 args σ R := acalls_of Tryd.func37 c37_ok hl h
/-! 38: strconv.FormatUint -/
def c38_3 : ACode := .seq (.ops [ oq 4 (.mv (.v (.str [])))]) (.seq (.ops [ oq 5 (.mv (.t 0)), oq 6 (.mv (.t 1)), oe 7 (.call 49 [(.t 5), (.t 6)]), oq 4 (.mv (.t 7))]) .ret)
@[go_sem] def c38_3_wp := wp_of c38_3.eq_1
def c38 : AFn := ⟨8, [.t 4], c38_3⟩
theorem c38_ok : compF Tryd.prog Tryd.f38 = some c38 := by kernel_rfl
theorem a38 {args : List AV} {σ : ASt} {R : AV → ASt → Prop} (hl : args.length ≤ 8) (h : c38_3.wp Tryd.prog (RetQ [.t 4] R) (init args) σ) : ACalls Tryd.prog 38 args σ R := acalls_of Tryd.func38 c38_ok hl h
/-! 40: strings.Cut -/
def c40_3 : ACode := .seq (.ops [ oq 4 (.mv (.v (.str []))), oq 5 (.mv (.v (.str []))), oq 6 (.mv (.v (.bool false)))]) (.seq (.ops [ oq 7 (.mv (.t 0)), oq 8 (.mv (.t 1)), oe 9 (.call 54 [(.t 7), (.t 8)]), oq 10 (.ext 0 (.t 9)), oq 11 (.ext 1 (.t 9)), oq 12 (.ext 2 (.t 9)), oq 4 (.mv (.t 10)), oq 5 (.mv (.t 11)), oq 6 (.mv (.t 12))]) .ret)
@[go_sem] def c40_3_wp := wp_of c40_3.eq_1
def c40 : AFn := ⟨13, [.t 4, .t 5, .t 6], c40_3⟩
theorem c40_ok : compF Tryd.prog Tryd.f40 = some c40 := by kernel_rfl
theorem a40 {args : List AV} {σ : ASt} {R : AV → ASt → Prop} (hl : args.length ≤ 13) (h : c40_3.wp Tryd.prog (RetQ [.t 4, .t 5, .t 6] R) (init args) σ) : ACalls Tryd.prog 40 args σ R := acalls_of Tryd.func40 c40_ok hl h
/-! 41: tabular/deci.made -/
def c41_15 : ACode := .seq (.ops [ oq 6 (.mv (.v (.int .i64 0))), oq 7 (.mv (.v (.bool false)))]) (.seq (.seq (.ops [ oq 8 (.mv (.t 1)), oq 9 (.bin .gtr (.t 8) (.v (.int .u64 0))), oq 10 (.mv (.t 9)), ⟨some 11, some (10, false), .q (.mv (.t 2)), []⟩, ⟨some 12, some (10, false), .q (.bin .gtr (.t 11) (.v (.int .u64 999999999999999999))), []⟩, oq 13 (.pick (.t 10) (.v (.bool true)) (.t 12))]) (.cond (.t 13) (.seq (.ops [ oq 6 (.mv (.v (.int .i64 0))), oq 7 (.mv (.v (.bool false)))]) .ret) .skip)) (.seq (.seq (.ops [ oq 14 (.mv (.t 0))]) (.cond (.t 14) (.seq (.ops [ oq 15 (.mv (.t 2)), oq 16 (.conv .i64 (.t 15)), oq 17 (.un .neg (.t 16)), oq 6 (.mv (.t 17)), oq 7 (.mv (.v (.bool true)))]) .ret) .skip)) (.seq (.ops [ oq 18 (.mv (.t 2)), oq 19 (.conv .i64 (.t 18)), oq 6 (.mv (.t 19)), oq 7 (.mv (.v (.bool true)))]) .ret)))
@[go_sem] def c41_15_wp := wp_of c41_15.eq_1
def c41 : AFn := ⟨20, [.t 6, .t 7], c41_15⟩
theorem c41_ok : compF Tryd.prog Tryd.f41 = some c41 := by kernel_rfl
theorem a41 {args : List AV} {σ : ASt} {R : AV → ASt → Prop} (hl : args.length ≤ 20) (h : c41_15.wp Tryd.prog (RetQ [.t 6, .t 7] R) (init args) σ) : ACalls Tryd.prog 41 args σ R := acalls_of Tryd.func41 c41_ok hl h
/-! 54: internal/stringslite.Cut -/
def c54_11 : ACode := .seq (.ops [ oq 4 (.mv (.v (.str []))), oq 5 (.mv (.v (.str []))), oq 6 (.mv (.v (.bool false)))]) (.seq (.seq (.ops [ oq 8 (.mv (.t 0)), oq 9 (.mv (.t 1)), oe 10 (.call 64 [(.t 8), (.t 9)]), oq 7 (.mv (.t 10))]) (.seq (.ops [ oq 11 (.mv (.t 7)), oq 12 (.bin .geq (.t 11) (.v (.int .i64 0)))]) (.cond (.t 12) (.seq (.ops [ oq 13 (.mv (.t 0)), oq 14 (.mv (.t 7)), oq 15 (.slto (true, 0) (.t 13) (.t 14)), oq 16 (.mv (.t 0)), oq 17 (.mv (.t 7)), oq 18 (.mv (.t 1)), oq 19 (.lenS (.t 18)), oq 20 (.bin .add (.t 17) (.t 19)), oq 21 (.slfrom (true, 0) (.t 16) (.t 20)), oq 4 (.mv (.t 15)), oq 5 (.mv (.t 21)), oq 6 (.mv (.v (.bool true)))]) .ret) .skip))) (.seq (.ops [ oq 22 (.mv (.t 0)), oq 4 (.mv (.t 22)), oq 5 (.mv (.v (.str []))), oq 6 (.mv (.v (.bool false)))]) .ret))
@[go_sem] def c54_11_wp := wp_of c54_11.eq_1
def c54 : AFn := ⟨23, [.t 4, .t 5, .t 6], c54_11⟩
theorem c54_ok : compF Tryd.prog Tryd.f54 = some c54 := by kernel_rfl
theorem a54 {args : List AV} {σ : ASt} {R : AV → ASt → Prop} (hl : args.length ≤ 23) (h : c54_11.wp Tryd.prog (RetQ [.t 4, .t 5, .t 6] R) (init args) σ) : ACalls Tryd.prog 54 args σ R := acalls_of Tryd.func54 c54_ok hl h
end Go.A
namespace Go.A
open Go.Proofs Go.Shelf Go.RowKit Go.Sort
set_option maxHeartbeats 4000000 in
theorem fmtU_small (u : Nat) (hu : u < 100) (w : World) : Calls Tryd.prog 49 #[.int .u64 u, .int .i64 10] w fun e w' => e = .returned (.string ⟨(Lib.decDigits u).toArray⟩) ∧ Ext w w' := by
 have iu : (u : Int) < 100 := by omega
 go_enter Tryd.func49, Tryd.ntmps49
 go_wp2_with (go_at_call 57; refine (Tryd.internal_strconv_small u hu _).mono ?_; rintro e w' ⟨rfl, rfl⟩)
 go_ret
 exact ⟨rfl, Ext.refl _⟩
set_option maxHeartbeats 12800000 in
theorem fmtU_big (u : Nat) (hu : 100 ≤ u) (hu64 : u < 18446744073709551616) (w : World) (htab : Lib.TabIs Tryd.prog w "internal/strconv.uint64pow10" .u64 Lib.pow10Tab) :
  Calls Tryd.prog 49 #[.int .u64 u, .int .i64 10] w fun e w' => e = .returned (.string ⟨(Lib.decDigits u).toArray⟩) ∧ Ext w w' := by
 have hu1 : 1 ≤ u := by omega
 have hnd20 : Lib.nDigits u ≤ 20 := by have := Lib.numDigits_eq u hu1 hu64; split at this <;> omega
 have hal : Tryd.prog.arrayLen 98 = 24 := by kernel_rfl
 have hsl : ∀ W, (Instr.sliceAt 98 (.pointer (some ⟨w.heap.size, 0, none⟩)) none (some (.int .i64 (Lib.nDigits u : Int))) none).run Tryd.prog W = .ok (.slice (some ⟨w.heap.size, 0, none⟩) (Lib.nDigits u) 24) W := fun W => by
  rw [run_sliceAt_array_h W 98 ⟨w.heap.size, 0, none⟩ (by kernel_rfl) .i64 (Lib.nDigits u : Int) (by omega) (by rw [hal]; omega)]
  rw [hal]
  rfl
 have hH0 := Lib.holds_zero0 w 98 (Lib.nDigits u) (by omega)
 have hfmt := Tryd.internal_strconv_formatBase10 w.heap.size 0 24 u (Array.replicate (Lib.nDigits u) 0) (w.alloc (.cells Lib.zeros24 98)) hH0 (by rw [Array.size_replicate]; exact Lib.lt_pow_nDigits u) hu64 (by rw [Array.size_replicate]; omega)
 rw [Array.size_replicate] at hfmt
 have HH0 := Lib.hid hH0
 have iu : (100 : Int) ≤ (u : Int) := by omega
 clear hH0 hal
 go_enter Tryd.func49, Tryd.ntmps49
 go_wp2_with (first
  | (go_at_call 58; refine (Tryd.internal_strconv_numDigits u hu1 hu64 _ (Lib.tabIs_alloc htab _)).mono ?_; rintro e w' ⟨rfl, rfl⟩))
 go_at_call 59
 refine hfmt.mono ?_
 rintro e w' ⟨rfl, k, v', dk, rfl, hF⟩
 have hcv : (convert 33 9 (.slice (some ⟨w.heap.size, 0, none⟩) (Lib.nDigits u) 24)).run Tryd.prog ((putRow (fun (b : UInt8) => Value.int .u8 (b.toNat : Int)) (w.alloc (.cells Lib.zeros24 98)) w.heap.size 0 dk).drewN k) = .ok (.string ⟨(Lib.decDigits u).toArray⟩) ((putRow (fun (b : UInt8) => Value.int .u8 (b.toNat : Int)) (w.alloc (.cells Lib.zeros24 98)) w.heap.size 0 dk).drewN k) := by
  have h := run_convert_bytes_back (P := Tryd.prog) ((putRow (fun (b : UInt8) => Value.int .u8 (b.toNat : Int)) (w.alloc (.cells Lib.zeros24 98)) w.heap.size 0 dk).drewN k) 33 9 5 ⟨w.heap.size, 0, none⟩ 24 (Lib.decDigits u) Tryd.underlying33 Tryd.underlying5 Tryd.underlying9 (fun j hj => by
   rw [Lib.row_is_numeral hF j hj, Lib.add_plain, World.cell?_drewN]
   exact cell?_putRow (fun (b : UInt8) => Value.int .u8 (b.toNat : Int)) _ w.heap.size 0 _ dk HH0.out (by rw [hF.size, Array.size_replicate]) j (by rw [hF.size]; rw [Lib.decDigits_length] at hj; exact hj))
  rw [Lib.decDigits_length] at h
  exact h
 go_wp2
 go_ret
 obtain ⟨os, eo⟩ := Lib.fin_at w (.cells Lib.zeros24 98) dk k 0
 refine ⟨rfl, ?_⟩
 rw [eo]
 exact ext_grow w k os
theorem ifmt_ok {σ : ASt} (h : Tab σ) {u : Nat} (hu : u < 18446744073709551616) : ACalls Tryd.prog 49 [.int .u64 u, .int .i64 10] σ fun v σ' => v = .str (Lib.decDigits u) ∧ σ' = σ := by
 refine ACalls.of_ext (u := .string ⟨(Lib.decDigits u).toArray⟩) (fun w vs hs ha => ?_) fun w => .str _
 cases ha with
 | cons h1 h2 =>
 cases h2 with
 | cons h2 h3 =>
 cases h1; cases h2; cases h3
 by_cases hs2 : u < 100
 ·exact fmtU_small u hs2 w
 ·exact fmtU_big u (by omega) hu w (tabIs_of hs (by kernel_rfl) h)
theorem fmt_ok {σ : ASt} (h : Tab σ) {u : Nat} (hu : u < 18446744073709551616) : ACalls Tryd.prog 38 [.int .u64 u, .int .i64 10] σ fun v σ' => v = .str (Lib.decDigits u) ∧ σ' = σ := by
 refine a38 (by simp) ?_
 simp (disch := first | assumption | omega) only [go_sem, reduceCtorEq, Nat.reduceEqDiff, ↓reduceIte]
 refine (ifmt_ok h hu).mono ?_
 rintro v σ' ⟨rfl, rfl⟩
 simp (disch := first | assumption | omega) only [go_sem, ↓reduceIte]
 exact retC_by (Drop.refl _) (.refl _) ⟨rfl, rfl⟩
theorem cutPrefix_ok (s p : List UInt8) : Pure Tryd.prog 34 [.str s, .str p] (.tuple [.str (Lib.trimPrefix s p), .bool (Lib.hasPrefix s p)]) := by
 intro σ
 refine ACalls.of_ext (u := .tuple #[.string ⟨(Lib.trimPrefix s p).toArray⟩, .bool (Lib.hasPrefix s p)]) (fun w vs hs ha => ?_) fun w => .tuple (.cons (.str _) (.cons (.bool _) .nil))
 cases ha with
 | cons h1 h2 =>
 cases h2 with
 | cons h2 h3 =>
 cases h1; cases h2; cases h3
 exact (Tryd.strings_CutPrefix ⟨⟨s⟩⟩ ⟨⟨p⟩⟩ w).mono fun e w' ⟨he, hw⟩ => ⟨he, Ext.of_eq hw⟩
theorem trimRight_ok (s : List UInt8) (c : UInt8) (hc : c.toNat < 128) (hsl : s.length ≤ 9223372036854775807) : Pure Tryd.prog 39 [.str s, .str [c]] (.str (Lib.trimRightB s c)) := by
 intro σ
 refine ACalls.of_ext (u := .string ⟨(Lib.trimRightB s c).toArray⟩) (fun w vs hs ha => ?_) fun w => .str _
 cases ha with
 | cons h1 h2 =>
 cases h2 with
 | cons h2 h3 =>
 cases h1; cases h2; cases h3
 exact (Tryd.strings_TrimRight_one ⟨⟨s⟩⟩ c hc w (by simpa [ByteArray.size] using hsl)).mono fun e w' ⟨he, hw⟩ => ⟨he, Ext.of_eq hw⟩
theorem sindex_ok (s : List UInt8) (c : UInt8) : Pure Tryd.prog 64 [.str s, .str [c]] (.int .i64 (Lib.indexByte s c)) := by
 intro σ
 refine ACalls.of_ext (u := .int .i64 (Lib.indexByte s c)) (fun w vs hs ha => ?_) fun w => .int _ _
 cases ha with
 | cons h1 h2 =>
 cases h2 with
 | cons h2 h3 =>
 cases h1; cases h2; cases h3
 exact (Tryd.stringslite_Index_one ⟨⟨s⟩⟩ c w).mono fun e w' ⟨he, hw⟩ => ⟨he, Ext.of_eq hw⟩
theorem cutc_ok (l : List UInt8) (c : UInt8) (hl : l.length ≤ 1000000000) : Pure Tryd.prog 40 [.str l, .str [c]] (.tuple [.str (Lib.cut l [c]).1, .str (Lib.cut l [c]).2.1, .bool (Lib.cut l [c]).2.2]) := by
 have h1 : Pure Tryd.prog 54 [.str l, .str [c]] (.tuple [.str (Lib.cut l [c]).1, .str (Lib.cut l [c]).2.1, .bool (Lib.cut l [c]).2.2]) := by
  intro σ
  have hi := sindex_ok l c
  have hr := Lib.index_room l [c]
  unfold Lib.cut
  rw [Lib.index_one] at hr ⊢
  have hg := Lib.indexByte_ge l c
  refine a54 (by simp) ?_
  by_cases h0 : 0 ≤ Lib.indexByte l c
  ·obtain ⟨i, e⟩ : ∃ i : Nat, Lib.indexByte l c = i := ⟨(Lib.indexByte l c).toNat, by omega⟩
   rw [e] at hi hr ⊢
   have hr := hr (by omega)
   simp only [List.length_cons, List.length_nil] at hr
   rw [if_pos (by omega)]
   have e1 : (0 : Int) ≤ i := by omega
   have e2 : ((i : Int) + 1).toNat = i + 1 := by omega
   have e3 : (i : Int) ≤ l.length := by omega
   have e4 : (i : Int) + 1 ≤ l.length := by omega
   simp (disch := first | assumption | omega) only [go_sem, reduceCtorEq, Nat.reduceEqDiff, ↓reduceIte]
   refine hi.use ?_
   simp (disch := first | assumption | omega) only [go_sem, reduceCtorEq, Nat.reduceEqDiff, ↓reduceIte, e1, e2, List.take_length]
   exact retC_by (by repeat' (first | exact Drop.refl _ | with_reducible refine Drop.off ?_ (by assumption))) (.refl _) ⟨rfl, rfl⟩
  ·have e : Lib.indexByte l c = -1 := by omega
   rw [e] at hi ⊢
   rw [if_neg (by omega)]
   simp (disch := first | assumption | omega) only [go_sem, reduceCtorEq, Nat.reduceEqDiff, ↓reduceIte]
   refine hi.use ?_
   simp (disch := first | assumption | omega) only [go_sem, reduceCtorEq, Nat.reduceEqDiff, Int.reduceLE, ↓reduceIte, Int.reduceNeg]
   exact retC_by (by repeat' (first | exact Drop.refl _ | with_reducible refine Drop.off ?_ (by assumption))) (.refl _) ⟨rfl, rfl⟩
 intro σ
 refine a40 (by simp) ?_
 simp (disch := first | assumption | omega) only [go_sem, reduceCtorEq, Nat.reduceEqDiff, ↓reduceIte]
 refine h1.use ?_
 simp (disch := first | assumption | omega) only [go_sem, Nat.reduceEqDiff, ↓reduceIte]
 exact retC_by (by repeat' (first | exact Drop.refl _ | with_reducible refine Drop.off ?_ (by assumption))) (.refl _) ⟨rfl, rfl⟩
end Go.A
namespace Go.A
open Go.Proofs
/-! 12: tabular/disk.Open -/
def c12_50 : ACode := .seq (.seq (.ops [ oq 74 (.mv (.t 12)), oe 75 (.call 31 [(.v (.int .u32 4294967295))]), oq 76 (.bin .neq (.t 74) (.t 75))]) (.cond (.t 76) .skip (.exit 0))) (.block 1 (.seq (.ops [ oq 77 (.mv (.t 12)), oe 78 (.s2b (.t 77)), oe 79 (.call 35 [(.t 78)]), oq 80 (.conv .i64 (.t 79)), oq 13 (.mv (.t 80))]) (.seq (.seq (.ops [ oq 81 (.mv (.t 13)), oq 82 (.bin .lss (.t 81) (.v (.int .i64 1))), oq 83 (.mv (.t 82)), ⟨some 84, some (83, false), .q (.mv (.t 13)), []⟩, ⟨some 85, some (83, false), .q (.mv (.t 6)), []⟩, ⟨some 86, some (83, false), .q (.bin .geq (.t 84) (.t 85)), []⟩, oq 87 (.pick (.t 83) (.v (.bool true)) (.t 86)), oq 88 (.mv (.t 87)), ⟨some 89, some (88, false), .q (.mv (.t 7)), []⟩, ⟨some 90, some (88, false), .q (.nc (.t 89)), []⟩, ⟨some 91, some (88, false), .q (.fa 3 (.t 90)), []⟩, ⟨some 92, some (88, false), .q (.ld none (.t 91)), []⟩, ⟨some 93, some (88, false), .q (.mv (.t 13)), []⟩, ⟨some 94, some (88, false), .q (.ia 1 (.t 92) (.t 93)), []⟩, ⟨some 95, some (88, false), .q (.ld none (.t 94)), []⟩, oq 96 (.pick (.t 88) (.v (.bool true)) (.t 95))]) (.cond (.t 96) (.seq (.ops [ oq 4 (.mv (.v .nilp)), oq 5 (.mv (.v (.int .i64 3)))]) .ret) .skip)) (.seq (.ops [ oq 98 (.mv (.t 7)), oq 99 (.mv (.t 13)), oe 100 (.call 33 [(.t 98), (.t 99)]), oq 97 (.mv (.t 100)), oq 101 (.ext 0 (.t 97)), oq 102 (.ext 1 (.t 97)), oq 14 (.mv (.t 101)), oq 15 (.mv (.t 102))]) (.seq (.seq (.ops [ oq 103 (.mv (.t 15)), oq 104 (.un .not (.t 103))]) (.cond (.t 104) (.seq (.ops [ oq 4 (.mv (.v .nilp)), oq 5 (.mv (.v (.int .i64 8)))]) .ret) .skip)) (.seq (.ops [ oq 105 (.mv (.t 7)), oq 106 (.nc (.t 105)), oq 107 (.fa 3 (.t 106)), oq 108 (.ld none (.t 107)), oq 109 (.mv (.t 13)), oq 110 (.ia 1 (.t 108) (.t 109)), oz (.store 1 (.t 110) (.v (.bool true)))]) (.seq (.ops [ oq 111 (.mv (.t 11)), oq 112 (.mv (.t 13)), oq 113 (.bsl 1 [(.t 112)]), oe 114 (.app 3 1 8 [(.int .i64 0)] (.t 111) (.t 113)), oq 11 (.mv (.t 114))]) (.ops [ oq 115 (.mv (.t 14)), oq 116 (.slto (true, 0) (.t 115) (.v (.int .i64 4))), oq 12 (.mv (.t 116))]))))))))
def c12_62 : ACode := .seq (.seq (.ops [ oq 120 (.mv (.t 16)), oq 121 (.bin .geq (.t 120) (.v (.int .i64 0)))]) (.cond (.t 121) .skip (.exit 2))) (.seq (.block 3 (.ops [ oq 124 (.mv (.t 7)), oq 125 (.mv (.t 7)), oq 126 (.nc (.t 125)), oq 127 (.fa 2 (.t 126)), oq 128 (.ld none (.t 127)), oq 129 (.mv (.t 11)), oq 130 (.mv (.t 16)), oq 131 (.ia 1 (.t 129) (.t 130)), oq 132 (.ld none (.t 131)), oq 133 (.bsl 1 [(.t 132)]), oe 134 (.app 3 1 8 [(.int .i64 0)] (.t 128) (.t 133)), oq 135 (.nc (.t 124)), oq 136 (.fa 2 (.t 135)), oz (.store 1 (.t 136) (.t 134))])) (.ops [ oq 122 (.mv (.t 16)), oq 123 (.bin .sub (.t 122) (.v (.int .i64 1))), oq 16 (.mv (.t 123))]))
def c12_79 : ACode := .seq (.seq (.ops [ oq 20 (.mv (.t 6)), oq 21 (.bin .lss (.t 20) (.v (.int .i64 1))), oq 22 (.mv (.t 21)), ⟨some 23, some (22, false), .q (.mv (.t 0)), []⟩, ⟨some 24, some (22, false), .q (.lenS (.t 23)), []⟩, ⟨some 25, some (22, false), .q (.bin .rem (.t 24) (.v (.int .i64 512))), []⟩, ⟨some 26, some (22, false), .q (.bin .neq (.t 25) (.v (.int .i64 0))), []⟩, oq 27 (.pick (.t 22) (.v (.bool true)) (.t 26)), oq 28 (.mv (.t 27)), ⟨some 29, some (28, false), .q (.mv (.t 6)), []⟩, ⟨some 30, some (28, false), .q (.mv (.t 1)), []⟩, ⟨some 31, some (28, false), .q (.mnx true (.t 30) (.v (.int .i64 2))), []⟩, ⟨some 32, some (28, false), .q (.mnx false (.t 31) (.v (.int .i64 60000))), []⟩, ⟨some 33, some (28, false), .q (.bin .gtr (.t 29) (.t 32)), []⟩, oq 34 (.pick (.t 28) (.v (.bool true)) (.t 33))]) (.cond (.t 34) (.seq (.ops [ oq 4 (.mv (.v .nilp)), oq 5 (.mv (.v (.int .i64 3)))]) .ret) .skip)) (.seq (.ops [ oq 35 (.mv (.t 1)), oe 36 (.call 6 [(.t 35)]), oq 7 (.mv (.t 36))]) (.seq (.ops [ oq 37 (.mv (.t 7)), oq 38 (.mv (.t 0)), oe 39 (.s2b (.t 38)), oq 40 (.nc (.t 37)), oq 41 (.fa 0 (.t 40)), oz (.store 1 (.t 41) (.t 39))]) (.seq (.ops [ oq 42 (.mv (.t 7)), oq 43 (.mv (.t 6)), oe 44 (.mks 4 1 (.bool false) (.t 43) (.t 43)), oq 45 (.nc (.t 42)), oq 46 (.fa 3 (.t 45)), oz (.store 1 (.t 46) (.t 44))]) (.seq (.ops [ oq 47 (.mv (.t 7)), oq 48 (.nc (.t 47)), oq 49 (.fa 7 (.t 48)), oz (.store 1 (.t 49) (.v (.int .i64 0)))]) (.seq (.ops [ oq 51 (.mv (.t 7)), oe 52 (.call 33 [(.t 51), (.v (.int .i64 0))]), oq 50 (.mv (.t 52)), oq 53 (.ext 0 (.t 50)), oq 54 (.ext 1 (.t 50)), oq 8 (.mv (.t 53)), oq 9 (.mv (.t 54))]) (.seq (.seq (.ops [ oq 55 (.mv (.t 9)), oq 56 (.un .not (.t 55))]) (.cond (.t 56) (.seq (.ops [ oq 4 (.mv (.v .nilp)), oq 5 (.mv (.v (.int .i64 8)))]) .ret) .skip)) (.seq (.ops [ oq 58 (.mv (.t 8)), oe 59 (.call 34 [(.t 58), (.v (.str [84, 65, 66, 85, 76, 65, 82, 49]))]), oq 57 (.mv (.t 59)), oq 60 (.ext 0 (.t 57)), oq 61 (.ext 1 (.t 57)), oq 10 (.mv (.t 60)), oq 9 (.mv (.t 61))]) (.seq (.seq (.ops [ oq 62 (.mv (.t 9)), oq 63 (.un .not (.t 62)), oq 64 (.mv (.t 63)), ⟨some 65, some (64, false), .q (.mv (.t 10)), []⟩, ⟨some 66, some (64, false), .q (.slto (true, 0) (.t 65) (.v (.int .i64 4))), []⟩, ⟨some 67, some (64, false), .q (.mv (.t 6)), []⟩, ⟨some 68, some (64, false), .q (.conv .u32 (.t 67)), []⟩, ⟨some 69, some (64, false), .e (.call 31 [(.t 68)]), []⟩, ⟨some 70, some (64, false), .q (.bin .neq (.t 66) (.t 69)), []⟩, oq 71 (.pick (.t 64) (.v (.bool true)) (.t 70))]) (.cond (.t 71) (.seq (.ops [ oq 4 (.mv (.v .nilp)), oq 5 (.mv (.v (.int .i64 3)))]) .ret) .skip)) (.seq (.ops [ oq 11 (.mv (.v (.sl .full [])))]) (.seq (.seq (.ops [ oq 72 (.mv (.t 10)), oq 73 (.sls (true, 0) (.t 72) (.v (.int .i64 4)) (.v (.int .i64 8))), oq 12 (.mv (.t 73))]) (.block 0 (.loop c12_50))) (.seq (.seq (.ops [ oq 117 (.mv (.t 11)), oq 118 (.len (.t 117)), oq 119 (.bin .sub (.t 118) (.v (.int .i64 1))), oq 16 (.mv (.t 119))]) (.block 2 (.loop c12_62))) (.seq (.ops [ oq 137 (.mv (.t 7)), oq 4 (.mv (.t 137)), oq 5 (.mv (.v (.int .i64 0)))]) .ret))))))))))))
def c12_81 : ACode := .seq (.ops [ oq 4 (.mv (.v .nilp)), oq 5 (.mv (.v (.int .i64 0)))]) (.seq (.ops [ oq 17 (.mv (.t 0)), oq 18 (.lenS (.t 17)), oq 19 (.bin .quo (.t 18) (.v (.int .i64 512))), oq 6 (.mv (.t 19))]) c12_79)
@[go_sem] def c12_50_wp := wp_of c12_50.eq_1
@[go_sem] def c12_62_wp := wp_of c12_62.eq_1
@[go_sem] def c12_79_wp := wp_of c12_79.eq_1
@[go_sem] def c12_81_wp := wp_of c12_81.eq_1
def c12 : AFn := ⟨138, [.t 4, .t 5], c12_81⟩
theorem c12_ok : compF Tryd.prog Tryd.f12 = some c12 := by kernel_rfl
theorem a12 {args : List AV} {σ : ASt} {R : AV → ASt → Prop} (hl : args.length ≤ 138) (h : c12_81.wp Tryd.prog (RetQ [.t 4, .t 5] R) (init args) σ) : ACalls Tryd.prog 12 args σ R := acalls_of Tryd.func12 c12_ok hl h
end Go.A
namespace Go.A
open Go.Proofs Go.Lib
structure RM (σ0 : ASt) (d : Nat) (D : Dsk) (σ : ASt) (B cB : Nat) (rB : List AV) (fv : AV) (I cI : Nat) (rI : List AV) : Prop where
 lm : LM σ d D B cB rB fv I cI rI
 z1 : σ0 d = none
 out : ∀ x, x ≠ d → σ0 x = σ x ∨ σ0 x = none
theorem RM.drop {σ0 σ : ASt} {d B cB I cI : Nat} {D : Dsk} {rB rI : List AV} {fv : AV} (h : RM σ0 d D σ B cB rB fv I cI rI) : Drop σ σ0 := fun x => by
 by_cases h1 : x = d
 ·rw [h1]; exact .inr h.z1
 ·exact h.out x h1
theorem RM.at {σ0 σ : ASt} {d B cB I cI : Nat} {D : Dsk} {rB rI : List AV} {fv : AV} (h : RM σ0 d D σ B cB rB fv I cI rI) {x : Nat} {r : Role} (hx : σ0 x = some r) : σ x = some r := by
 have h1 : x ≠ d := fun he => by rw [he, h.z1] at hx; cases hx
 rcases h.out x h1 with h2 | h2
 ·rw [← h2]; exact hx
 ·rw [h2] at hx; cases hx
theorem RM.cells {σ0 σ : ASt} {d B cB I cI : Nat} {D D' : Dsk} {rB rI : List AV} {fv : AV} (h : RM σ0 d D σ B cB rB fv I cI rI) (hb : D'.b = D.b) (hi : D'.isF = D.isF) : RM σ0 d D' (σ.set d (some (.obj (D'.cs B cB fv I cI)))) B cB rB fv I cI rI :=
 ⟨h.lm.cells hb hi, h.z1, fun x hx => by rw [ASt.set_ne hx]; exact h.out x hx⟩
def openD (s : List UInt8) (n : Nat) (m : Int) : Dsk := ⟨s, m, [], List.replicate n false, -1, -1, 0, 0⟩
def magicB : List UInt8 := [84, 65, 66, 85, 76, 65, 82, 49]
def OpenQ (σ : ASt) (D : Dsk) : Option (List UInt8) → AV → ASt → Prop
 | none, v, σ' => v = .tuple [.nilp, .int .i64 8] ∧ σ' = σ
 | some _, v, σ' => ∃ d B cB rB fv I cI rI, v = .tuple [.ptr d 0, .int .i64 0] ∧ RM σ d D σ' B cB rB fv I cI rI
theorem le_ne {a b : Nat} (ha : a < 4294967296) (hb : b < 4294967296) (h : a ≠ b) : le32 a ≠ le32 b := fun he => h (by rw [← of_le32 ha, he, of_le32 hb])
set_option maxHeartbeats 1000000 in
theorem dkopen_ok {σ : ASt} (hT : CkT σ) {s : List UInt8} {n : Nat} {pages m : Int} (hn : 1 ≤ n) (hl : s.length = n * 512) (hm : min (max pages 2) 60000 = m) (hnm : (n : Int) ≤ m)
  (hh : ∀ h, lookP s 0 = some h → ∃ r, h = magicB ++ (le32 n ++ (le32 4294967295 ++ r))) :
  ACalls Tryd.prog 12 [.str s, .int .i64 pages] σ (OpenQ σ (openD s n m) (lookP s 0)) := by
 have hmr : 2 ≤ m ∧ m ≤ 60000 := by omega
 have hN := dknew_ok hT pages
 rw [hm] at hN
 have hn6 : (n : Int) ≤ 60000 := by omega
 have e1 : (s.length : Int).tdiv 512 = (n : Int) := by
  rw [hl, Int.natCast_mul]
  exact Int.mul_tdiv_cancel _ (by decide)
 have e2 : (s.length : Int).tmod 512 = 0 := by
  rw [hl, Int.natCast_mul]
  exact Int.mul_tmod_left _ _
 have en1 : ¬ (n : Int) < 1 := by omega
 have en2 : ¬ (m : Int) < (n : Int) := by omega
 obtain ⟨q, hq⟩ : ∃ q, lookP s 0 = q := ⟨_, rfl⟩
 refine a12 (by simp) ?_
 simp (disch := first | assumption | omega) only [go_sem, reduceCtorEq, Nat.reduceEqDiff, ↓reduceIte, e1, e2, en1, en2, hm]
 refine hN.mono ?_
 rintro v σ1 ⟨d, rfl, B0, cB0, rB0, fv, F0, I0, cI0, rI0, h0⟩
 have hd0 := h0.hd
 have hz1 := h0.z1
 have hcs : (newP m).cs B0 cB0 fv I0 cI0 = [.msl B0 0 (newP m).b.length cB0, .int .i64 m, fv, .msl I0 0 1 cI0, .int .i64 (-1), .int .i64 (-1), .int .i64 0, .int .i64 1] := rfl
 rw [hcs] at hd0
 generalize AV.msl B0 0 (newP m).b.length cB0 = va at *
 simp (disch := first | assumption | omega) only [go_sem, reduceCtorEq, ↓reduceIte]
 refine s2b_own fun b c hb hc => ?_
 obtain ⟨f1, f2, f3, f4, f5⟩ := h0.low hb
 have f1' : d ≠ b := Ne.symm f1
 simp (disch := first | assumption | omega) only [go_sem, Nat.reduceEqDiff, Nat.reduceAdd, Nat.reduceLeDiff, ↓reduceIte, Int.reduceNeg, Bool.true_and, hd0]
 refine mks_own (by omega) (by omega) (by omega) (by omega) fun I hI => ?_
 repeat (with_reducible replace hI := set_none hI; obtain ⟨_, _, hI⟩ := hI)
 obtain ⟨g1, g2, g3, g4, g5⟩ := h0.low hI
 have g1' : d ≠ I := Ne.symm g1
 have hIb : I ≠ b := by assumption
 have hbI : b ≠ I := by assumption
 simp (disch := first | assumption | omega) only [go_sem, Nat.reduceEqDiff, Nat.reduceAdd, Nat.reduceLeDiff, ↓reduceIte, Int.reduceNeg, Bool.true_and, Int.toNat_natCast]
 obtain ⟨τ, hτ⟩ : ∃ τ, τ = ((((σ1.set b (some (.obj (bytesAV s)))).set d (some (.obj [.msl b 0 s.length c, .int .i64 m, fv, .msl I0 0 1 cI0, .int .i64 (-1), .int .i64 (-1), .int .i64 0, .int .i64 1]))).set I (some (.obj (List.replicate n (.bool false))))).set d (some (.obj [.msl b 0 s.length c, .int .i64 m, fv, .msl I 0 n n, .int .i64 (-1), .int .i64 (-1), .int .i64 0, .int .i64 0]))) := ⟨_, rfl⟩
 rw [← hτ]
 have hLM : LM τ d (openD s n m) b c [] fv I n [] := by
  refine ⟨?_, ?_, ?_, hc, ?_, f1', g1'⟩
  ·rw [hτ, ASt.set_same]
   unfold Dsk.cs openD
   rw [List.length_replicate]
  ·rw [hτ, ASt.set_ne f1, ASt.set_ne hbI, ASt.set_ne f1, ASt.set_same, List.append_nil]
   rfl
  ·rw [hτ, ASt.set_ne g1, ASt.set_same, List.append_nil]
   unfold openD
   rw [List.map_replicate]
  ·unfold openD
   rw [List.length_replicate]
   exact Nat.le_refl _
 have hRM : RM σ d (openD s n m) τ b c [] fv I n [] := by
  refine ⟨hLM, hz1, fun x hx => ?_⟩
  by_cases hx1 : x = b
  ·rw [hx1]; exact .inr f5
  by_cases hx2 : x = I
  ·rw [hx2]; exact .inr g5
  rw [hτ, ASt.set_ne hx, ASt.set_ne hx2, ASt.set_ne hx, ASt.set_ne hx1]
  exact h0.drop x
 have hTτ : CkT τ := hRM.at hT
 have hk := dklook_ok hTτ hLM (p := 0) (by show (0 + 1) * 512 ≤ s.length; omega) (by decide)
 have hob : (openD s n m).b = s := rfl
 rw [hob, hq] at hk
 clear hLM hτ hd0 hcs h0
 rw [hq]
 refine hk.mono ?_
 rintro v σ2 ⟨rfl, rfl⟩
 cases q with
 | none =>
   unfold lookAV
   simp (disch := first | assumption | omega) only [go_sem, Nat.reduceEqDiff, ↓reduceIte]
   exact retC_by hRM.drop (.refl _) ⟨rfl, rfl⟩
 | some h =>
   obtain ⟨r, rfl⟩ := hh h hq
   have hw := dkword_ok (v := n) (by omega)
   have hw2 := dkword_ok (v := 4294967295) (by decide)
   have hcp := cutPrefix_ok (magicB ++ (le32 n ++ (le32 4294967295 ++ r))) magicB
   have hhp : Lib.hasPrefix (magicB ++ (le32 n ++ (le32 4294967295 ++ r))) magicB = true := by
    unfold Lib.hasPrefix
    exact List.isPrefixOf_iff_prefix.2 (List.prefix_append _ _)
   have htp : Lib.trimPrefix (magicB ++ (le32 n ++ (le32 4294967295 ++ r))) magicB = le32 n ++ (le32 4294967295 ++ r) := by
    unfold Lib.trimPrefix
    rw [if_pos hhp]
    exact List.drop_left
   rw [hhp, htp] at hcp
   have hmg : magicB = [84, 65, 66, 85, 76, 65, 82, 49] := rfl
   have h4 : (le32 n ++ (le32 4294967295 ++ r)).take 4 = le32 n := le_take _ _
   have h8 : ((le32 n ++ (le32 4294967295 ++ r)).take 8).drop 4 = le32 4294967295 := rfl
   have hll : 8 ≤ (le32 n ++ (le32 4294967295 ++ r)).length := by simp only [List.length_append, le32_len]; omega
   clear hhp htp
   generalize magicB ++ (le32 n ++ (le32 4294967295 ++ r)) = hd at *
   rw [hmg] at hcp
   generalize le32 n ++ (le32 4294967295 ++ r) = rest at *
   have b4 : (4 : Int) ≤ (rest.length : Int) := by omega
   have b8 : (8 : Int) ≤ (rest.length : Int) := by omega
   generalize le32 n = wn at *
   generalize le32 4294967295 = w0 at *
   unfold lookAV
   simp (disch := first | assumption | omega) only [go_sem, Nat.reduceEqDiff, ↓reduceIte]
   refine hcp.use ?_
   simp (disch := first | assumption | omega) only [go_sem, Nat.reduceEqDiff, ↓reduceIte, Int.reduceToNat, h4, List.drop_zero]
   refine hw.use ?_
   simp (disch := first | assumption | omega) only [go_sem, Nat.reduceEqDiff, ↓reduceIte, Int.reduceToNat, eq_self, h8]
   refine wp_loop_on (fun (_ : Unit) a1 s2 => (a1 7 = .ptr d 0 ∧ a1 11 = .sl .full [] ∧ a1 12 = .str w0) ∧ s2 = σ2) (fun _ => 0) () ⟨?_, rfl⟩ ?_
   ·simp (disch := first | assumption | omega) only [go_sem, Nat.reduceEqDiff, ↓reduceIte]
   rintro _ a1 s2 ⟨hf, rfl⟩
   simp (disch := first | assumption | omega) only [go_sem, hf]
   refine hw2.use ?_
   simp (disch := first | assumption | omega) only [go_sem, Nat.reduceEqDiff, ↓reduceIte, Int.reduceNeg, Int.reduceSub, hf, eq_self]
   refine wp_loop_on (fun (_ : Unit) a1 s3 => (a1 7 = .ptr d 0 ∧ a1 16 = .int .i64 (-1)) ∧ s3 = s2) (fun _ => 0) () ⟨?_, rfl⟩ ?_
   ·simp (disch := first | assumption | omega) only [go_sem, Nat.reduceEqDiff, ↓reduceIte, Int.reduceNeg, hf]
   rintro _ a2 s3 ⟨hf, rfl⟩
   simp (disch := first | assumption | omega) only [go_sem, Nat.reduceEqDiff, Int.reduceLE, ↓reduceIte, Int.reduceNeg, hf]
   exact retC_by (.refl _) (.refl _) ⟨_, _, _, _, _, _, _, _, rfl, hRM⟩
end Go.A
namespace Go.A
open Go.Proofs Go.Lib
section
variable {σ0 σ : ASt} {d B cB F I cI : Nat} {D : Dsk} {rB rI : List AV} {fv : AV}
theorem DM.setx (h : DM σ0 d D σ B cB rB fv F I cI rI) {x : Nat} (r : Option Role) (h1 : x ≠ d) (h2 : x ≠ B) (h3 : x ≠ I) (h4 : x ≠ F) : DM (σ0.set x r) d D (σ.set x r) B cB rB fv F I cI rI := by
 refine ⟨?_, ?_, ?_, h.cB, h.cI, ?_, h.n1, h.n2, h.n3, ?_, ?_, ?_, ?_⟩
 ·rw [ASt.set_ne (Ne.symm h1)]; exact h.hd
 ·rw [ASt.set_ne (Ne.symm h2)]; exact h.hB
 ·rw [ASt.set_ne (Ne.symm h3)]; exact h.hI
 ·rcases h.hF with ⟨x1, x2, x3⟩ | ⟨cF, rF, x1, x2, x3, x4, x5, x6, x7, x8⟩
  ·exact .inl ⟨x1, x2, x3⟩
  ·exact .inr ⟨cF, rF, x1, by rw [ASt.set_ne (Ne.symm h4)]; exact x2, x3, x4, x5, x6, x7, by rw [ASt.set_ne (Ne.symm h4)]; exact x8⟩
 ·rw [ASt.set_ne (Ne.symm h1)]; exact h.z1
 ·rw [ASt.set_ne (Ne.symm h2)]; exact h.z2
 ·rw [ASt.set_ne (Ne.symm h3)]; exact h.z3
 ·intro y y1 y2 y3 y4
  by_cases hy : y = x
  ·rw [hy, ASt.set_same, ASt.set_same]; exact .inl rfl
  ·rw [ASt.set_ne hy, ASt.set_ne hy]; exact h.out y y1 y2 y3 y4
end
theorem DiskAt.add {σ0 σ : ASt} {d : Nat} {D : Dsk} (h : DiskAt σ0 d D σ) {x : Nat} (r : Option Role) (hx : σ x = none) : DiskAt (σ0.set x r) d D (σ.set x r) := by
 obtain ⟨B, cB, rB, fv, F, I, cI, rI, h⟩ := h
 obtain ⟨h1, h2, h3, h4, _⟩ := h.low hx
 exact ⟨B, cB, rB, fv, F, I, cI, rI, h.setx r h1 h2 h3 h4⟩
theorem DiskAt.put {σ0 σ : ASt} {d : Nat} {D : Dsk} (h : DiskAt σ0 d D σ) {x : Nat} {q : Role} (r : Option Role) (hx : σ0 x = some q) : DiskAt (σ0.set x r) d D (σ.set x r) := by
 obtain ⟨B, cB, rB, fv, F, I, cI, rI, h⟩ := h
 have hne : ∀ y, σ0 y = none → x ≠ y := fun y hy he => by rw [he, hy] at hx; cases hx
 exact ⟨B, cB, rB, fv, F, I, cI, rI, h.setx r (hne _ h.z1) (hne _ h.z2) (hne _ h.z3) (hne _ h.zF)⟩
theorem DiskAt.gone {σ0 σ : ASt} {d : Nat} {D : Dsk} (h : DiskAt σ0 d D σ) {x : Nat} (hx : σ x = none) : σ0 x = none := by
 obtain ⟨B, cB, rB, fv, F, I, cI, rI, h⟩ := h
 exact (h.low hx).2.2.2.2
def TokAt (σ0 base : ASt) (k : SK) (n : Nat) : Prop := (k = .full ∧ n = 0) ∨ ∃ b T, k = .tok b 1 T ∧ σ0 b = none ∧ base b = some (.tok (n * 1))
theorem set_back {σ : ASt} {b : Nat} {r : Role} (h : σ b = some r) : (σ.set b none).set b (some r) = σ := by
 funext x
 by_cases hx : x = b
 ·rw [hx, ASt.set_same, h]
 ·rw [ASt.set_ne hx, ASt.set_ne hx]
theorem DiskAt.app {σ0 base s : ASt} {d : Nat} {D : Dsk} {k : SK} {n : Nat} (hD : DiskAt base d D s) (hdr : Drop base σ0) (ht : TokAt σ0 base k n) {xs : List AV} (hn : xs.length = n) {y : AV} (hy : wellSz 1 [y] = true) (hy2 : leaves ([y].flatMap AV.cells) = true)
  {e : TypeId} {bytes : Nat} {z : List AV} {K : AV → ASt → Prop} (h4 : (n + 1) * bytes ≤ 140737488355328) (h5 : n ≤ 1000)
  (hK : ∀ k' base' s', DiskAt base' d D s' → Drop base' σ0 → TokAt σ0 base' k' (n + 1) → (∀ x r, base x = some r → (∀ b T, k = .tok b 1 T → x ≠ b) → base' x = some r) → (∀ b T, k' = .tok b 1 T → (∃ T', k = .tok b 1 T') ∨ base b = none) → K (.sl k' (xs ++ [y])) s') :
  appC e 1 bytes z (.sl k xs) (.sl .full [y]) s K := by
 subst hn
 rcases ht with ⟨rfl, hl⟩ | ⟨b, T, rfl, hb0, hb⟩
 ·obtain rfl : xs = [] := List.eq_nil_of_length_eq_zero hl
  refine appC_by (Grown.start s 1) hy hy2 (by simpa using h4) (by simp only [List.length_nil, List.length_singleton]; decide) fun k' s' hg => ?_
  rcases hg with ⟨_, hg, _⟩ | ⟨b, T, rfl, hb, rfl⟩
  ·simp at hg
  ·have hbn := hD.gone hb
   refine hK _ (base.set b (some (.tok ((([] : List AV) ++ [y]).length * 1)))) _ (hD.add _ hb) ?_ (.inr ⟨b, T, rfl, ?_, ASt.set_same _ _ _⟩) (fun x r hx _ => ?_) (fun b' T' h => .inr ?_)
   ·exact (Drop.set hbn).trans hdr
   ·rcases hdr b with h | h
    ·rw [h, hbn]
    ·exact h
   ·rw [ASt.set_ne]
    ·exact hx
    ·rintro rfl; rw [hbn] at hx; cases hx
   ·injection h with h1 _ _
    rw [← h1]; exact hbn
 ·have hsb := hD.at hb
  have hg0 : Grown (s.set b none) s (.tok b 1 T) xs.length 1 := .inr ⟨b, T, rfl, ASt.set_same _ _ _, (set_back hsb).symm⟩
  have hD0 := hD.put none hb
  refine appC_by hg0 hy hy2 (by simpa using h4) (by simp only [List.length_singleton]; omega) fun k' s' hg => ?_
  rcases hg with ⟨_, hg, _⟩ | ⟨b', T', rfl, hb', rfl⟩
  ·simp at hg
  ·have hbn := hD0.gone hb'
   have hdr0 : Drop (base.set b none) σ0 := fun x => by
    by_cases hx : x = b
    ·rw [hx]; exact .inr hb0
    ·rw [ASt.set_ne hx]; exact hdr x
   refine hK _ ((base.set b none).set b' (some (.tok ((xs ++ [y]).length * 1)))) _ (hD0.add _ hb') ?_ (.inr ⟨b', T', rfl, ?_, by rw [ASt.set_same, List.length_append]; rfl⟩) (fun x r hx hx2 => ?_) (fun b2 T2 h => ?_)
   ·exact (Drop.set hbn).trans hdr0
   ·rcases hdr0 b' with h | h
    ·rw [h, hbn]
    ·exact h
   ·have hxb : x ≠ b := hx2 b T rfl
    have h2 : x ≠ b' := by
     rintro rfl
     rw [ASt.set_ne hxb, hx] at hbn
     cases hbn
    rw [ASt.set_ne h2, ASt.set_ne hxb]
    exact hx
   ·injection h with h1 _ _
    subst h1
    by_cases hbb : b' = b
    ·exact .inl ⟨T, by rw [hbb]⟩
    ·rw [ASt.set_ne hbb] at hbn
     exact .inr hbn
section
variable {σ0 σ : ASt} {d B cB I cI : Nat} {D : Dsk} {rB rI : List AV} {fv : AV}
theorem RM.setx (h : RM σ0 d D σ B cB rB fv I cI rI) {x : Nat} (r : Option Role) (h0 : σ0 x = none) (h1 : x ≠ d) (h2 : x ≠ B) (h3 : x ≠ I) : RM σ0 d D (σ.set x r) B cB rB fv I cI rI := by
 refine ⟨⟨?_, ?_, ?_, h.lm.cB, h.lm.cI, h.lm.n1, h.lm.n2⟩, h.z1, fun y hy => ?_⟩
 ·rw [ASt.set_ne (Ne.symm h1)]; exact h.lm.hd
 ·rw [ASt.set_ne (Ne.symm h2)]; exact h.lm.hB
 ·rw [ASt.set_ne (Ne.symm h3)]; exact h.lm.hI
 ·by_cases hyx : y = x
  ·rw [hyx]; exact .inr h0
  ·rw [ASt.set_ne hyx]; exact h.out y hy
theorem RM.low (h : RM σ0 d D σ B cB rB fv I cI rI) {x : Nat} (hx : σ x = none) : x ≠ d ∧ x ≠ B ∧ x ≠ I ∧ σ0 x = none := by
 have h1 : x ≠ d := by rintro rfl; rw [h.lm.hd] at hx; cases hx
 have h2 : x ≠ B := by rintro rfl; rw [h.lm.hB] at hx; cases hx
 have h3 : x ≠ I := by rintro rfl; rw [h.lm.hI] at hx; cases hx
 refine ⟨h1, h2, h3, ?_⟩
 rcases h.out x h1 with h5 | h5
 ·rw [h5, hx]
 ·exact h5
theorem RM.add (h : RM σ0 d D σ B cB rB fv I cI rI) {x : Nat} (r : Option Role) (hx : σ x = none) : RM σ0 d D (σ.set x r) B cB rB fv I cI rI := by
 obtain ⟨h1, h2, h3, h4⟩ := h.low hx
 exact h.setx r h4 h1 h2 h3
theorem RM.mark (h : RM σ0 d D σ B cB rB fv I cI rI) (hBI : B ≠ I) (hI0 : σ0 I = none) {p : Nat} (hp : p < D.isF.length) (x : Bool) :
  RM σ0 d { D with isF := D.isF.set p x } (σ.set I (some (.obj ((D.isF.map AV.bool ++ rI).take p ++ [.bool x] ++ (D.isF.map AV.bool ++ rI).drop (p + 1))))) B cB rB fv I cI rI := by
 have hl : (D.isF.set p x).length = D.isF.length := List.length_set
 have hm : (D.isF.map AV.bool).length = D.isF.length := List.length_map _
 have e : (D.isF.map AV.bool ++ rI).take p ++ [.bool x] ++ (D.isF.map AV.bool ++ rI).drop (p + 1) = (D.isF.set p x).map AV.bool ++ rI := by
  rw [List.take_append_of_le_length (by omega), List.drop_append_of_le_length (by omega), List.map_set, List.set_eq_take_append_cons_drop, if_pos (by omega)]
  simp only [List.append_assoc, List.singleton_append, List.cons_append, List.nil_append]
 rw [e]
 refine ⟨⟨?_, ?_, ?_, h.lm.cB, by dsimp only; rw [hl]; exact h.lm.cI, h.lm.n1, h.lm.n2⟩, h.z1, fun y hy => ?_⟩
 ·rw [ASt.set_ne h.lm.n2, h.lm.hd]
  unfold Dsk.cs
  dsimp only
  rw [hl]
 ·rw [ASt.set_ne hBI]; exact h.lm.hB
 ·rw [ASt.set_same]
 ·by_cases hyx : y = I
  ·rw [hyx]; exact .inr hI0
  ·rw [ASt.set_ne hyx]; exact h.out y hy
end
theorem RM.cellsF {σ0 σ : ASt} {d B cB I cI : Nat} {D D' : Dsk} {rB rI : List AV} {fv : AV} (h : RM σ0 d D σ B cB rB fv I cI rI) (fv' : AV) (hb : D'.b = D.b) (hi : D'.isF = D.isF) : RM σ0 d D' (σ.set d (some (.obj (D'.cs B cB fv' I cI)))) B cB rB fv' I cI rI := by
 refine ⟨⟨ASt.set_same _ _ _, ?_, ?_, by rw [hb]; exact h.lm.cB, by rw [hi]; exact h.lm.cI, h.lm.n1, h.lm.n2⟩, h.z1, fun x hx => by rw [ASt.set_ne hx]; exact h.out x hx⟩
 ·rw [ASt.set_ne (Ne.symm h.lm.n1), hb]; exact h.lm.hB
 ·rw [ASt.set_ne (Ne.symm h.lm.n2), hi]; exact h.lm.hI
def openD1 (s : List UInt8) (n : Nat) (m : Int) (k : Nat) : Dsk := ⟨s, m, [], (List.replicate n false).set k true, -1, -1, 0, 0⟩
set_option maxHeartbeats 1000000 in
theorem dkopen1_ok {σ : ASt} (hT : CkT σ) {s : List UInt8} {n k : Nat} {pages m : Int} (hn : 1 ≤ n) (hl : s.length = n * 512) (hm : min (max pages 2) 60000 = m) (hnm : (n : Int) ≤ m) (hk1 : 1 ≤ k) (hkn : k < n)
  {r r2 : List UInt8} (hh : lookP s 0 = some (magicB ++ (le32 n ++ (le32 k ++ r)))) (hh2 : lookP s k = some (le32 4294967295 ++ r2)) :
  ACalls Tryd.prog 12 [.str s, .int .i64 pages] σ fun v σ' => ∃ d B cB rB fv I cI rI, v = .tuple [.ptr d 0, .int .i64 0] ∧ RM σ d (openD1 s n m k) σ' B cB rB fv I cI rI := by
 have hmr : 2 ≤ m ∧ m ≤ 60000 := by omega
 have hN := dknew_full hT pages
 rw [hm] at hN
 have hn6 : (n : Int) ≤ 60000 := by omega
 have e1 : (s.length : Int).tdiv 512 = (n : Int) := by
  rw [hl, Int.natCast_mul]
  exact Int.mul_tdiv_cancel _ (by decide)
 have e2 : (s.length : Int).tmod 512 = 0 := by
  rw [hl, Int.natCast_mul]
  exact Int.mul_tmod_left _ _
 have en1 : ¬ (n : Int) < 1 := by omega
 have en2 : ¬ (m : Int) < (n : Int) := by omega
 refine a12 (by simp) ?_
 simp (disch := first | assumption | omega | (simp only [List.length_append, List.length_cons, List.length_nil]; omega)) only [go_sem, reduceCtorEq, Nat.reduceEqDiff, Nat.reduceAdd, Nat.reduceSub, Nat.reduceMul, Nat.reduceLeDiff, Int.reduceLT, Int.reduceLE, Int.reduceEq, ↓reduceIte, Int.reduceNeg, Int.reduceAdd, Int.reduceSub, Int.reduceMul, true_imp_iff, forall_const, Nat.mul_one, Int.reduceToNat, Nat.reducePow, Int.reducePow, Bool.true_and, Bool.false_and, Bool.and_false, e1, e2, en1, en2, hm]
 refine hN.mono ?_
 rintro v σ1 ⟨d, B0, cB0, rB0, I0, cI0, rI0, rfl, h0⟩
 obtain ⟨fv, hfv⟩ : ∃ fv, fv = AV.sl .full [] := ⟨_, rfl⟩
 rw [← hfv] at h0
 have hd0 := h0.hd
 have hz1 := h0.z1
 have hcs : (newP m).cs B0 cB0 fv I0 cI0 = [.msl B0 0 (newP m).b.length cB0, .int .i64 m, fv, .msl I0 0 1 cI0, .int .i64 (-1), .int .i64 (-1), .int .i64 0, .int .i64 1] := rfl
 rw [hcs] at hd0
 generalize AV.msl B0 0 (newP m).b.length cB0 = va at *
 simp (disch := first | assumption | omega | (simp only [List.length_append, List.length_cons, List.length_nil]; omega)) only [go_sem, reduceCtorEq, Nat.reduceEqDiff, Nat.reduceAdd, Nat.reduceSub, Nat.reduceMul, Nat.reduceLeDiff, Int.reduceLT, Int.reduceLE, Int.reduceEq, ↓reduceIte, Int.reduceNeg, Int.reduceAdd, Int.reduceSub, Int.reduceMul, true_imp_iff, forall_const, Nat.mul_one, Int.reduceToNat, Nat.reducePow, Int.reducePow, Bool.true_and, Bool.false_and, Bool.and_false]
 refine s2b_own fun b c hb hc => ?_
 obtain ⟨f1, f2, f3, f4, f5⟩ := h0.low hb
 have f1' : d ≠ b := Ne.symm f1
 simp (disch := first | assumption | omega | (simp only [List.length_append, List.length_cons, List.length_nil]; omega)) only [go_sem, reduceCtorEq, Nat.reduceEqDiff, Nat.reduceAdd, Nat.reduceSub, Nat.reduceMul, Nat.reduceLeDiff, Int.reduceLT, Int.reduceLE, Int.reduceEq, ↓reduceIte, Int.reduceNeg, Int.reduceAdd, Int.reduceSub, Int.reduceMul, true_imp_iff, forall_const, Nat.mul_one, Int.reduceToNat, Nat.reducePow, Int.reducePow, Bool.true_and, Bool.false_and, Bool.and_false, hd0]
 refine mks_own (by omega) (by omega) (by omega) (by omega) fun I hI => ?_
 repeat (with_reducible replace hI := set_none hI; obtain ⟨_, _, hI⟩ := hI)
 obtain ⟨g1, g2, g3, g4, g5⟩ := h0.low hI
 have g1' : d ≠ I := Ne.symm g1
 have hIb : I ≠ b := by assumption
 have hbI : b ≠ I := by assumption
 simp (disch := first | assumption | omega | (simp only [List.length_append, List.length_cons, List.length_nil]; omega)) only [go_sem, reduceCtorEq, Nat.reduceEqDiff, Nat.reduceAdd, Nat.reduceSub, Nat.reduceMul, Nat.reduceLeDiff, Int.reduceLT, Int.reduceLE, Int.reduceEq, ↓reduceIte, Int.reduceNeg, Int.reduceAdd, Int.reduceSub, Int.reduceMul, true_imp_iff, forall_const, Nat.mul_one, Int.reduceToNat, Nat.reducePow, Int.reducePow, Bool.true_and, Bool.false_and, Bool.and_false, hd0, Int.toNat_natCast]
 obtain ⟨τ, hτ⟩ : ∃ τ, τ = ((((σ1.set b (some (.obj (bytesAV s)))).set d (some (.obj [.msl b 0 s.length c, .int .i64 m, fv, .msl I0 0 1 cI0, .int .i64 (-1), .int .i64 (-1), .int .i64 0, .int .i64 1]))).set I (some (.obj (List.replicate n (.bool false))))).set d (some (.obj [.msl b 0 s.length c, .int .i64 m, fv, .msl I 0 n n, .int .i64 (-1), .int .i64 (-1), .int .i64 0, .int .i64 0]))) := ⟨_, rfl⟩
 rw [← hτ]
 have hLM : LM τ d (openD s n m) b c [] fv I n [] := by
  refine ⟨?_, ?_, ?_, hc, ?_, f1', g1'⟩
  ·rw [hτ, ASt.set_same]
   unfold Dsk.cs openD
   rw [List.length_replicate]
  ·rw [hτ, ASt.set_ne f1, ASt.set_ne hbI, ASt.set_ne f1, ASt.set_same, List.append_nil]
   rfl
  ·rw [hτ, ASt.set_ne g1, ASt.set_same, List.append_nil]
   unfold openD
   rw [List.map_replicate]
  ·unfold openD
   rw [List.length_replicate]
   exact Nat.le_refl _
 have hRM : RM σ d (openD s n m) τ b c [] fv I n [] := by
  refine ⟨hLM, hz1, fun x hx => ?_⟩
  by_cases hx1 : x = b
  ·rw [hx1]; exact .inr f5
  by_cases hx2 : x = I
  ·rw [hx2]; exact .inr g5
  rw [hτ, ASt.set_ne hx, ASt.set_ne hx2, ASt.set_ne hx, ASt.set_ne hx1]
  exact h0.drop x
 have hTτ : CkT τ := hRM.at hT
 have hob : (openD s n m).b = s := rfl
 have hk := dklook_ok hTτ hLM (p := 0) (by show (0 + 1) * 512 ≤ s.length; omega) (by decide)
 rw [hob, hh] at hk
 clear hLM hτ hd0 hcs h0
 refine hk.mono ?_
 rintro v σ2 ⟨rfl, rfl⟩
 have hw := dkword_ok (v := n) (by omega)
 have hw2 := dkword_ok (v := 4294967295) (by decide)
 have hcp := cutPrefix_ok (magicB ++ (le32 n ++ (le32 k ++ r))) magicB
 have hhp : Lib.hasPrefix (magicB ++ (le32 n ++ (le32 k ++ r))) magicB = true := by
  unfold Lib.hasPrefix
  exact List.isPrefixOf_iff_prefix.2 (List.prefix_append _ _)
 have htp : Lib.trimPrefix (magicB ++ (le32 n ++ (le32 k ++ r))) magicB = le32 n ++ (le32 k ++ r) := by
  unfold Lib.trimPrefix
  rw [if_pos hhp]
  exact List.drop_left
 rw [hhp, htp] at hcp
 have hmg : magicB = [84, 65, 66, 85, 76, 65, 82, 49] := rfl
 have h4 : (le32 n ++ (le32 k ++ r)).take 4 = le32 n := le_take _ _
 have h8 : ((le32 n ++ (le32 k ++ r)).take 8).drop 4 = le32 k := rfl
 have hll : 8 ≤ (le32 n ++ (le32 k ++ r)).length := by simp only [List.length_append, le32_len]; omega
 clear hhp htp hh hk
 generalize magicB ++ (le32 n ++ (le32 k ++ r)) = hd at *
 rw [hmg] at hcp
 generalize le32 n ++ (le32 k ++ r) = rest at *
 have b4 : (4 : Int) ≤ (rest.length : Int) := by omega
 have b8 : (8 : Int) ≤ (rest.length : Int) := by omega
 generalize le32 n = wn at *
 have hkw : le32 k ≠ le32 4294967295 := le_ne (by omega) (by decide) (by omega)
 have hkl : (le32 k).length = 4 := rfl
 have hkof : of32 (le32 k) = k := of_le32 (by omega)
 have hr4 : (le32 4294967295 ++ r2).take 4 = le32 4294967295 := le_take _ _
 have hrl : 4 ≤ (le32 4294967295 ++ r2).length := by simp only [List.length_append, le32_len]; omega
 generalize hpl : le32 4294967295 ++ r2 = pl at *
 clear hpl
 generalize le32 4294967295 = w0 at *
 generalize hwk : le32 k = wk at *
 unfold lookAV
 simp (disch := first | assumption | omega | (simp only [List.length_append, List.length_cons, List.length_nil]; omega)) only [go_sem, reduceCtorEq, Nat.reduceEqDiff, Nat.reduceAdd, Nat.reduceSub, Nat.reduceMul, Nat.reduceLeDiff, Int.reduceLT, Int.reduceLE, Int.reduceEq, ↓reduceIte, Int.reduceNeg, Int.reduceAdd, Int.reduceSub, Int.reduceMul, true_imp_iff, forall_const, Nat.mul_one, Int.reduceToNat, Nat.reducePow, Int.reducePow, Bool.true_and, Bool.false_and, Bool.and_false]
 refine hcp.use ?_
 simp (disch := first | assumption | omega | (simp only [List.length_append, List.length_cons, List.length_nil]; omega)) only [go_sem, reduceCtorEq, Nat.reduceEqDiff, Nat.reduceAdd, Nat.reduceSub, Nat.reduceMul, Nat.reduceLeDiff, Int.reduceLT, Int.reduceLE, Int.reduceEq, ↓reduceIte, Int.reduceNeg, Int.reduceAdd, Int.reduceSub, Int.reduceMul, true_imp_iff, forall_const, Nat.mul_one, Int.reduceToNat, Nat.reducePow, Int.reducePow, Bool.true_and, Bool.false_and, Bool.and_false, h4, List.drop_zero]
 refine hw.use ?_
 simp (disch := first | assumption | omega | (simp only [List.length_append, List.length_cons, List.length_nil]; omega)) only [go_sem, reduceCtorEq, Nat.reduceEqDiff, Nat.reduceAdd, Nat.reduceSub, Nat.reduceMul, Nat.reduceLeDiff, Int.reduceLT, Int.reduceLE, Int.reduceEq, ↓reduceIte, Int.reduceNeg, Int.reduceAdd, Int.reduceSub, Int.reduceMul, true_imp_iff, forall_const, Nat.mul_one, Int.reduceToNat, Nat.reducePow, Int.reducePow, Bool.true_and, Bool.false_and, Bool.and_false, eq_self, h8]
 obtain ⟨J, hJ⟩ : ∃ J : Bool → AFr → ASt → Prop, J = fun j a1 s2 => (j = false ∧ (a1 6 = .int .i64 n ∧ a1 7 = .ptr d 0 ∧ a1 11 = .sl .full [] ∧ a1 12 = .str wk) ∧ s2 = σ2) ∨ (j = true ∧ (∃ q, a1 7 = .ptr d 0 ∧ a1 11 = .sl q [.int .i64 k] ∧ a1 12 = .str w0) ∧ RM σ d (openD1 s n m k) s2 b c [] fv I n []) := ⟨_, rfl⟩
 refine wp_loop_on J (fun j => if j = true then 0 else 1) false ?_ ?_
 ·rw [hJ]
  refine .inl ⟨rfl, ?_, rfl⟩
  simp (disch := first | assumption | omega | (simp only [List.length_append, List.length_cons, List.length_nil]; omega)) only [go_sem, reduceCtorEq, Nat.reduceEqDiff, Nat.reduceAdd, Nat.reduceSub, Nat.reduceMul, Nat.reduceLeDiff, Int.reduceLT, Int.reduceLE, Int.reduceEq, ↓reduceIte, Int.reduceNeg, Int.reduceAdd, Int.reduceSub, Int.reduceMul, true_imp_iff, forall_const, Nat.mul_one, Int.reduceToNat, Nat.reducePow, Int.reducePow, Bool.true_and, Bool.false_and, Bool.and_false]
 intro j a1 s2 hjj
 rw [hJ] at hjj
 rcases hjj with ⟨rfl, hf, rfl⟩ | ⟨rfl, ⟨q, hf⟩, hR⟩
 ·have kn1 : ¬ (k : Int) < 1 := by omega
  have kn2 : ¬ (n : Int) ≤ (k : Int) := by omega
  have kn3 : (k : Int) < (n : Int) := by omega
  have hkw' : ¬ wk = w0 := hkw
  have hwl : wk.length = 4 := hkl
  simp (disch := first | assumption | omega | (simp only [List.length_append, List.length_cons, List.length_nil]; omega)) only [go_sem, reduceCtorEq, Nat.reduceEqDiff, Nat.reduceAdd, Nat.reduceSub, Nat.reduceMul, Nat.reduceLeDiff, Int.reduceLT, Int.reduceLE, Int.reduceEq, ↓reduceIte, Int.reduceNeg, Int.reduceAdd, Int.reduceSub, Int.reduceMul, true_imp_iff, forall_const, Nat.mul_one, Int.reduceToNat, Nat.reducePow, Int.reducePow, Bool.true_and, Bool.false_and, Bool.and_false, hf]
  refine hw2.use ?_
  simp (disch := first | assumption | omega | (simp only [List.length_append, List.length_cons, List.length_nil]; omega)) only [go_sem, reduceCtorEq, Nat.reduceEqDiff, Nat.reduceAdd, Nat.reduceSub, Nat.reduceMul, Nat.reduceLeDiff, Int.reduceLT, Int.reduceLE, Int.reduceEq, ↓reduceIte, Int.reduceNeg, Int.reduceAdd, Int.reduceSub, Int.reduceMul, true_imp_iff, forall_const, Nat.mul_one, Int.reduceToNat, Nat.reducePow, Int.reducePow, Bool.true_and, Bool.false_and, Bool.and_false, hf, hkw']
  refine s2b_own fun X cX hX hcX => ?_
  have hR3 := hRM.add (some (.obj (bytesAV wk))) hX
  have hu := u32m_ok (s := wk) (B := X) (o := 0) (n := wk.length) (c := cX) hwl (ASt.set_same s2 X (some (.obj (bytesAV wk)))) (by rw [List.drop_zero]; exact List.take_of_length_le (by rw [kbytes_len]; omega)) (by omega)
  rw [hkof] at hu
  generalize s2.set X (some (.obj (bytesAV wk))) = s3 at *
  have hT3 : CkT s3 := hR3.at hT
  have hlk := dklook_ok hT3 hR3.lm (p := k) (by show (k + 1) * 512 ≤ s.length; rw [hl]; exact Nat.mul_le_mul_right _ hkn) (by omega)
  rw [hob, hh2] at hlk
  have hd2 := hR3.lm.hd
  have hI2 := hR3.lm.hI
  have hcs2 : (openD s n m).cs b c fv I n = [.msl b 0 s.length c, .int .i64 m, fv, .msl I 0 n n, .int .i64 (-1), .int .i64 (-1), .int .i64 0, .int .i64 0] := by unfold Dsk.cs openD; rw [List.length_replicate]
  rw [hcs2] at hd2
  have hmk : ((openD s n m).isF.map AV.bool ++ [])[k]? = some (.bool false) := by
   unfold openD
   rw [List.append_nil, List.map_replicate, List.getElem?_replicate, if_pos hkn]
  have hml : k + 1 ≤ ((openD s n m).isF.map AV.bool ++ []).length := by
   unfold openD
   rw [List.append_nil, List.length_map, List.length_replicate]
   omega
  have hmark := hR3.mark hbI g5 (p := k) (by show k < (List.replicate n false).length; rw [List.length_replicate]; exact hkn) true
  generalize (openD s n m).isF.map AV.bool ++ [] = MI at *
  simp (disch := first | assumption | omega | (simp only [List.length_append, List.length_cons, List.length_nil]; omega)) only [go_sem, reduceCtorEq, Nat.reduceEqDiff, Nat.reduceAdd, Nat.reduceSub, Nat.reduceMul, Nat.reduceLeDiff, Int.reduceLT, Int.reduceLE, Int.reduceEq, ↓reduceIte, Int.reduceNeg, Int.reduceAdd, Int.reduceSub, Int.reduceMul, true_imp_iff, forall_const, Nat.mul_one, Int.reduceToNat, Nat.reducePow, Int.reducePow, Bool.true_and, Bool.false_and, Bool.and_false, hf]
  refine hu.mono ?_
  rintro v s4 ⟨rfl, rfl⟩
  simp (disch := first | assumption | omega | (simp only [List.length_append, List.length_cons, List.length_nil]; omega)) only [go_sem, reduceCtorEq, Nat.reduceEqDiff, Nat.reduceAdd, Nat.reduceSub, Nat.reduceMul, Nat.reduceLeDiff, Int.reduceLT, Int.reduceLE, Int.reduceEq, ↓reduceIte, Int.reduceNeg, Int.reduceAdd, Int.reduceSub, Int.reduceMul, true_imp_iff, forall_const, Nat.mul_one, Int.reduceToNat, Nat.reducePow, Int.reducePow, Bool.true_and, Bool.false_and, Bool.and_false, hf, kn1, kn2, hd2, hI2, hmk, Nat.zero_add, Nat.mul_one, Int.toNat_natCast]
  refine hlk.mono ?_
  rintro v s5 ⟨rfl, rfl⟩
  unfold lookAV
  simp (disch := first | assumption | omega | (simp only [List.length_append, List.length_cons, List.length_nil]; omega)) only [go_sem, reduceCtorEq, Nat.reduceEqDiff, Nat.reduceAdd, Nat.reduceSub, Nat.reduceMul, Nat.reduceLeDiff, Int.reduceLT, Int.reduceLE, Int.reduceEq, ↓reduceIte, Int.reduceNeg, Int.reduceAdd, Int.reduceSub, Int.reduceMul, true_imp_iff, forall_const, Nat.mul_one, Int.reduceToNat, Nat.reducePow, Int.reducePow, Bool.true_and, Bool.false_and, Bool.and_false, hf, hd2, hI2, hml, Nat.zero_add, Nat.mul_one, Int.toNat_natCast]
  refine appC_by (Grown.start _ 1) rfl rfl (by simp only [List.length_nil, List.length_singleton]; decide) (by simp only [List.length_nil, List.length_singleton]; decide) fun q s6 hg => ?_
  have hR6 : RM σ d (openD1 s n m k) s6 b c [] fv I n [] := by
   rcases hg with ⟨_, hg, _⟩ | ⟨X2, T2, _, hX2, rfl⟩
   ·simp at hg
   ·exact RM.add (D := openD1 s n m k) hmark _ hX2
  simp (disch := first | assumption | omega | (simp only [List.length_append, List.length_cons, List.length_nil]; omega)) only [go_sem, reduceCtorEq, Nat.reduceEqDiff, Nat.reduceAdd, Nat.reduceSub, Nat.reduceMul, Nat.reduceLeDiff, Int.reduceLT, Int.reduceLE, Int.reduceEq, ↓reduceIte, Int.reduceNeg, Int.reduceAdd, Int.reduceSub, Int.reduceMul, true_imp_iff, forall_const, Nat.mul_one, Int.reduceToNat, Nat.reducePow, Int.reducePow, Bool.true_and, Bool.false_and, Bool.and_false, hr4, List.drop_zero]
  refine ⟨true, by decide, ?_⟩
  rw [hJ]
  refine .inr ⟨rfl, ⟨q, ?_⟩, hR6⟩
  simp (disch := first | assumption | omega | (simp only [List.length_append, List.length_cons, List.length_nil]; omega)) only [go_sem, reduceCtorEq, Nat.reduceEqDiff, Nat.reduceAdd, Nat.reduceSub, Nat.reduceMul, Nat.reduceLeDiff, Int.reduceLT, Int.reduceLE, Int.reduceEq, ↓reduceIte, Int.reduceNeg, Int.reduceAdd, Int.reduceSub, Int.reduceMul, true_imp_iff, forall_const, Nat.mul_one, Int.reduceToNat, Nat.reducePow, Int.reducePow, Bool.true_and, Bool.false_and, Bool.and_false, hf]
 ·simp (disch := first | assumption | omega | (simp only [List.length_append, List.length_cons, List.length_nil]; omega)) only [go_sem, reduceCtorEq, Nat.reduceEqDiff, Nat.reduceAdd, Nat.reduceSub, Nat.reduceMul, Nat.reduceLeDiff, Int.reduceLT, Int.reduceLE, Int.reduceEq, ↓reduceIte, Int.reduceNeg, Int.reduceAdd, Int.reduceSub, Int.reduceMul, true_imp_iff, forall_const, Nat.mul_one, Int.reduceToNat, Nat.reducePow, Int.reducePow, Bool.true_and, Bool.false_and, Bool.and_false, hf]
  refine hw2.use ?_
  simp (disch := first | assumption | omega | (simp only [List.length_append, List.length_cons, List.length_nil]; omega)) only [go_sem, reduceCtorEq, Nat.reduceEqDiff, Nat.reduceAdd, Nat.reduceSub, Nat.reduceMul, Nat.reduceLeDiff, Int.reduceLT, Int.reduceLE, Int.reduceEq, ↓reduceIte, Int.reduceNeg, Int.reduceAdd, Int.reduceSub, Int.reduceMul, true_imp_iff, forall_const, Nat.mul_one, Int.reduceToNat, Nat.reducePow, Int.reducePow, Bool.true_and, Bool.false_and, Bool.and_false, hf, eq_self]
  obtain ⟨J2, hJ2⟩ : ∃ J : Bool → AFr → ASt → Prop, J = fun j a1 s2 => (j = false ∧ (a1 7 = .ptr d 0 ∧ a1 11 = .sl q [.int .i64 k] ∧ a1 16 = .int .i64 0) ∧ RM σ d (openD1 s n m k) s2 b c [] fv I n []) ∨ (j = true ∧ (a1 7 = .ptr d 0 ∧ a1 16 = .int .i64 (-1)) ∧ ∃ fv', RM σ d (openD1 s n m k) s2 b c [] fv' I n []) := ⟨_, rfl⟩
  refine wp_loop_on J2 (fun j => if j = true then 0 else 1) false ?_ ?_
  ·rw [hJ2]
   refine .inl ⟨rfl, ?_, hR⟩
   simp (disch := first | assumption | omega | (simp only [List.length_append, List.length_cons, List.length_nil]; omega)) only [go_sem, reduceCtorEq, Nat.reduceEqDiff, Nat.reduceAdd, Nat.reduceSub, Nat.reduceMul, Nat.reduceLeDiff, Int.reduceLT, Int.reduceLE, Int.reduceEq, ↓reduceIte, Int.reduceNeg, Int.reduceAdd, Int.reduceSub, Int.reduceMul, true_imp_iff, forall_const, Nat.mul_one, Int.reduceToNat, Nat.reducePow, Int.reducePow, Bool.true_and, Bool.false_and, Bool.and_false, hf]
  intro j a2 s3 hjj
  rw [hJ2] at hjj
  rcases hjj with ⟨rfl, hf, hR⟩ | ⟨rfl, hf, fv', hR⟩
  ·have hd2 := hR.lm.hd
   have hcs2 : ∀ fv, (openD1 s n m k).cs b c fv I n = [.msl b 0 s.length c, .int .i64 m, fv, .msl I 0 n n, .int .i64 (-1), .int .i64 (-1), .int .i64 0, .int .i64 0] := fun fv => by unfold Dsk.cs openD1; rw [List.length_set, List.length_replicate]
   rw [hcs2, hfv] at hd2
   simp (disch := first | assumption | omega | (simp only [List.length_append, List.length_cons, List.length_nil]; omega)) only [go_sem, reduceCtorEq, Nat.reduceEqDiff, Nat.reduceAdd, Nat.reduceSub, Nat.reduceMul, Nat.reduceLeDiff, Int.reduceLT, Int.reduceLE, Int.reduceEq, ↓reduceIte, Int.reduceNeg, Int.reduceAdd, Int.reduceSub, Int.reduceMul, true_imp_iff, forall_const, Nat.mul_one, Int.reduceToNat, Nat.reducePow, Int.reducePow, Bool.true_and, Bool.false_and, Bool.and_false, hf, hd2]
   refine appO_by rfl rfl rfl (by simp only [List.length_nil, List.length_singleton]; decide) (by simp only [List.length_nil, List.length_singleton]; decide) (by simp only [List.length_singleton]; decide) fun X cX hX hcX => ?_
   have hR4 := (hR.add (some (.obj (ownRow 1 [AV.int .i64 0] (([] : List AV).flatMap AV.cells ++ [AV.int .i64 (k : Int)].flatMap AV.cells) (([] : List AV).length + [AV.int .i64 (k : Int)].length) cX))) hX).cellsF (D' := openD1 s n m k) (.msl X 0 1 cX) rfl rfl
   rw [hcs2] at hR4
   obtain ⟨x1, _⟩ := hR.low hX
   have x1' : d ≠ X := Ne.symm x1
   simp (disch := first | assumption | omega | (simp only [List.length_append, List.length_cons, List.length_nil]; omega)) only [go_sem, reduceCtorEq, Nat.reduceEqDiff, Nat.reduceAdd, Nat.reduceSub, Nat.reduceMul, Nat.reduceLeDiff, Int.reduceLT, Int.reduceLE, Int.reduceEq, ↓reduceIte, Int.reduceNeg, Int.reduceAdd, Int.reduceSub, Int.reduceMul, true_imp_iff, forall_const, Nat.mul_one, Int.reduceToNat, Nat.reducePow, Int.reducePow, Bool.true_and, Bool.false_and, Bool.and_false, hf, hd2]
   refine ⟨true, by decide, ?_⟩
   rw [hJ2]
   refine .inr ⟨rfl, ?_, _, hR4⟩
   simp (disch := first | assumption | omega | (simp only [List.length_append, List.length_cons, List.length_nil]; omega)) only [go_sem, reduceCtorEq, Nat.reduceEqDiff, Nat.reduceAdd, Nat.reduceSub, Nat.reduceMul, Nat.reduceLeDiff, Int.reduceLT, Int.reduceLE, Int.reduceEq, ↓reduceIte, Int.reduceNeg, Int.reduceAdd, Int.reduceSub, Int.reduceMul, true_imp_iff, forall_const, Nat.mul_one, Int.reduceToNat, Nat.reducePow, Int.reducePow, Bool.true_and, Bool.false_and, Bool.and_false, hf]
  ·simp (disch := first | assumption | omega | (simp only [List.length_append, List.length_cons, List.length_nil]; omega)) only [go_sem, reduceCtorEq, Nat.reduceEqDiff, Nat.reduceAdd, Nat.reduceSub, Nat.reduceMul, Nat.reduceLeDiff, Int.reduceLT, Int.reduceLE, Int.reduceEq, ↓reduceIte, Int.reduceNeg, Int.reduceAdd, Int.reduceSub, Int.reduceMul, true_imp_iff, forall_const, Nat.mul_one, Int.reduceToNat, Nat.reducePow, Int.reducePow, Bool.true_and, Bool.false_and, Bool.and_false, hf]
   exact retC_by (.refl _) (.refl _) ⟨_, _, _, _, _, _, _, _, rfl, hR⟩
end Go.A
namespace Go.A
open Go.Proofs
def resAV (o : Option Int) : AV := .tuple [.int .i64 (o.getD 0), .bool o.isSome]
theorem size_ok (a : Int) (h0 : -9223372036854775808 ≤ a) (h1 : a ≤ 9223372036854775807) : Pure Tryd.prog 37 [.int .i64 a] (.int .u64 (a.natAbs : Nat)) := by
 intro σ
 refine a37 (by simp) ?_
 by_cases h : a < 0
 ·have e : IntKind.u64.wrap (IntKind.i64.wrap (0 - a)) = ((a.natAbs : Nat) : Int) := by rw [IntKind.wrap_u64, IntKind.wrap_i64]; omega
  simp (disch := first | assumption | omega) only [go_sem, reduceCtorEq, ↓reduceIte, h, e]
  exact retC_by (by repeat' (first | exact Drop.refl _ | with_reducible refine Drop.off ?_ (by assumption))) (.refl _) ⟨rfl, rfl⟩
 ·have e : IntKind.u64.wrap a = ((a.natAbs : Nat) : Int) := by rw [IntKind.wrap_u64]; omega
  simp (disch := first | assumption | omega) only [go_sem, reduceCtorEq, ↓reduceIte, h, e]
  exact retC_by (by repeat' (first | exact Drop.refl _ | with_reducible refine Drop.off ?_ (by assumption))) (.refl _) ⟨rfl, rfl⟩
theorem made_ok (m : Bool) (lo : Nat) (h : lo < 18446744073709551616) : Pure Tryd.prog 41 [.bool m, .int .u64 0, .int .u64 lo] (resAV (madeP m lo)) := by
 intro σ
 refine a41 (by simp) ?_
 unfold madeP
 by_cases hm : lo ≤ 999999999999999999
 ·have g1 : ¬ (999999999999999999 : Int) < lo := by omega
  have e1 : IntKind.i64.wrap (lo : Int) = lo := by rw [IntKind.wrap_i64]; omega
  have e2 : IntKind.i64.wrap (-(lo : Int)) = -lo := by rw [IntKind.wrap_i64]; omega
  rw [if_pos hm]
  cases m
  ·simp (disch := first | assumption | omega) only [go_sem, reduceCtorEq, Nat.reduceEqDiff, Int.reduceLT, ↓reduceIte, g1, e1]
   exact retC_by (by repeat' (first | exact Drop.refl _ | with_reducible refine Drop.off ?_ (by assumption))) (.refl _) ⟨rfl, rfl⟩
  ·simp (disch := first | assumption | omega) only [go_sem, reduceCtorEq, Nat.reduceEqDiff, Int.reduceLT, ↓reduceIte, g1, e1]
   refine retC_by (by repeat' (first | exact Drop.refl _ | with_reducible refine Drop.off ?_ (by assumption))) (.refl _) ⟨?_, rfl⟩
   rw [show (0 : Int) - lo = -lo by omega]
   rfl
 ·have g1 : (999999999999999999 : Int) < lo := by omega
  rw [if_neg hm]
  simp (disch := first | assumption | omega) only [go_sem, Nat.reduceEqDiff, Int.reduceLT, ↓reduceIte, g1]
  exact retC_by (by repeat' (first | exact Drop.refl _ | with_reducible refine Drop.off ?_ (by assumption))) (.refl _) ⟨rfl, rfl⟩
theorem dgood_ok (a : Int) : Pure Tryd.prog 15 [.int .i64 a] (.bool (decide (a.natAbs ≤ 999999999999999999))) := by
 intro σ
 refine a15 (by simp) ?_
 repeat' (first | (simp (disch := first | assumption | omega) only [go_sem, reduceCtorEq, Nat.reduceEqDiff, ↓reduceIte, Int.reduceNeg]) | with_reducible refine gC_d (fun h => ?_) (fun h => ?_) | with_reducible refine gC_dn (fun h => ?_) (fun h => ?_) | with_reducible refine condC_d (fun h => ?_) (fun h => ?_) | with_reducible refine condC_n (fun h => ?_) (fun h => ?_) | with_reducible refine condC_b (fun h => ?_) (fun h => ?_) | with_reducible refine boxC_by ?_ fun b hb => ?_)
 all_goals (refine retC_by (by repeat' (first | exact Drop.refl _ | with_reducible refine Drop.off ?_ (by assumption))) (.refl _) ⟨?_, rfl⟩)
 ·have e : decide (a ≤ 999999999999999999) = decide (a.natAbs ≤ 999999999999999999) := decide_eq_decide.2 (by omega)
  rw [← e]; rfl
 ·rfl
end Go.A
namespace Go.A
open Go.Proofs
theorem dtext_ok {σ : ASt} (h : Tab σ) {a : Int} (ha : a.natAbs ≤ 999999999999999999) : ACalls Tryd.prog 17 [.int .i64 a] σ fun v σ' => v = .str (textD a) ∧ σ' = σ := by
 have hS := size_ok a (by omega) (by omega)
 obtain ⟨T, hT⟩ : ∃ T, textD a = T := ⟨_, rfl⟩
 rw [hT]
 unfold textD placesP at hT
 obtain ⟨s, hs⟩ : ∃ s, a.natAbs = s := ⟨_, rfl⟩
 rw [hs] at hS hT ha
 have hd : (s : Int).tdiv 10000 = ((s / 10000 : Nat) : Int) := by rw [Int.tdiv_eq_ediv_of_nonneg (by omega)]; rfl
 have hm : (s : Int).tmod 10000 = ((s % 10000 : Nat) : Int) := by rw [Int.tmod_eq_emod_of_nonneg (by omega)]; rfl
 have hp : s % 10000 < 10000 := Nat.mod_lt _ (by omega)
 have hw : s / 10000 ≤ 99999999999999 := by omega
 obtain ⟨p, hpp⟩ : ∃ p, s % 10000 = p := ⟨_, rfl⟩
 obtain ⟨q, hqq⟩ : ∃ q, s / 10000 = q := ⟨_, rfl⟩
 rw [hpp] at hp hm hT
 rw [hqq] at hd hw hT
 have hqw : IntKind.u64.wrap (q : Int) = q := by rw [IntKind.wrap_u64]; omega
 refine a17 (by simp) ?_
 simp (disch := first | assumption | omega) only [go_sem, reduceCtorEq, ↓reduceIte]
 refine hS.use ?_
 simp (disch := first | assumption | omega) only [go_sem, ↓reduceIte, hd, hqw]
 refine (fmt_ok h (u := q) (by omega)).mono ?_
 rintro v σ' ⟨rfl, rfl⟩
 simp (disch := first | assumption | omega) only [go_sem, Nat.reduceEqDiff, ↓reduceIte, hm]
 have hql : (Lib.decDigits q).length ≤ 15 := dd_len 14 q (by omega)
 by_cases h0 : p = 0
 ·subst h0
  rw [if_pos rfl, List.append_nil] at hT
  have g0 : ¬ (0 : Int) < ((0 : Nat) : Int) := by omega
  simp (disch := first | assumption | omega) only [go_sem, reduceCtorEq, Int.reduceLT, ↓reduceIte]
  by_cases hn : a < 0
  ·have e1 : binS .add [45] (Lib.decDigits q) = some (.str T) := by rw [binS_add (by simp; omega), ← hT, if_pos hn]
   simp (disch := first | assumption | omega) only [go_sem, Nat.reduceEqDiff, ↓reduceIte, hn, e1]
   exact retC_by (by repeat' (first | exact Drop.refl _ | with_reducible refine Drop.off ?_ (by assumption))) (.refl _) ⟨rfl, rfl⟩
  ·rw [if_neg hn, List.nil_append] at hT
   subst hT
   simp (disch := first | assumption | omega) only [go_sem, Nat.reduceEqDiff, ↓reduceIte, hn]
   exact retC_by (by repeat' (first | exact Drop.refl _ | with_reducible refine Drop.off ?_ (by assumption))) (.refl _) ⟨rfl, rfl⟩
 ·rw [if_neg h0] at hT
  have g0 : (0 : Int) < (p : Int) := by omega
  have hDl : (Lib.decDigits (10000 + p)).length ≤ 5 := dd_len 4 _ (by omega)
  have hD1 : 1 ≤ (Lib.decDigits (10000 + p)).length := List.length_pos_iff.2 (dd_len_pos _)
  have hF := fmt_ok h (u := 10000 + p) (by omega)
  rw [show (((10000 + p : Nat) : Int)) = (10000 : Int) + p by omega] at hF
  have htl : (Lib.decDigits (10000 + p)).tail.length ≤ 4 := by rw [List.length_tail]; omega
  rw [← List.drop_one] at hT htl
  generalize Lib.decDigits (10000 + p) = D at *
  have hR := trimRight_ok (D.drop 1) 48 (by decide) (by omega)
  have hRl : (Lib.trimRightB (D.drop 1) 48).length ≤ 4 := by
   have := congrArg List.length (trim_back 48 (D.drop 1))
   rw [List.length_append] at this
   omega
  generalize Lib.trimRightB (D.drop 1) 48 = X at *
  have e1 : binS .add [46] X = some (.str (46 :: X)) := binS_add (by simp; omega)
  have e2 : binS .add (Lib.decDigits q) (46 :: X) = some (.str (Lib.decDigits q ++ 46 :: X)) := binS_add (by simp; omega)
  have g5 : (1 : Int) ≤ D.length := by omega
  simp (disch := first | assumption | omega) only [go_sem, Nat.reduceEqDiff, ↓reduceIte, g0]
  refine hF.mono ?_
  rintro v σ' ⟨rfl, rfl⟩
  simp (disch := first | assumption | omega) only [go_sem, ↓reduceIte, Int.reduceToNat, List.take_length]
  refine hR.use ?_
  simp (disch := first | assumption | omega) only [go_sem, reduceCtorEq, Nat.reduceEqDiff, ↓reduceIte, e1, e2]
  by_cases hn : a < 0
  ·have e3 : binS .add [45] (Lib.decDigits q ++ 46 :: X) = some (.str T) := by rw [binS_add (by simp; omega), ← hT, if_pos hn]
   simp (disch := first | assumption | omega) only [go_sem, Nat.reduceEqDiff, ↓reduceIte, hn, e3]
   exact retC_by (by repeat' (first | exact Drop.refl _ | with_reducible refine Drop.off ?_ (by assumption))) (.refl _) ⟨rfl, rfl⟩
  ·rw [if_neg hn, List.nil_append] at hT
   subst hT
   simp (disch := first | assumption | omega) only [go_sem, Nat.reduceEqDiff, ↓reduceIte, hn]
   exact retC_by (by repeat' (first | exact Drop.refl _ | with_reducible refine Drop.off ?_ (by assumption))) (.refl _) ⟨rfl, rfl⟩
end Go.A
namespace Go.A
open Go.Proofs
theorem prefix_minus (s : List UInt8) : Lib.hasPrefix s [45] = decide (s.head? = some 45) := by
 unfold Lib.hasPrefix
 cases s with
 | nil => rfl
 | cons c l =>
   simp only [List.isPrefixOf, Bool.and_true, List.head?_cons, Option.some.injEq]
   by_cases h : c = 45
   ·subst h; rfl
   ·have h1 : (45 == c) = false := by simpa using fun e => h e.symm
    rw [h1]; simp [h]
theorem trim_minus (s : List UInt8) : Lib.trimPrefix s [45] = if s.head? = some 45 then s.drop 1 else s := by
 unfold Lib.trimPrefix
 rw [prefix_minus]
 by_cases h : s.head? = some 45
 ·simp [h]
 ·simp [h]
theorem cut_len (l : List UInt8) (c : UInt8) : (Lib.cut l [c]).1.length + (Lib.cut l [c]).2.1.length ≤ l.length := by
 unfold Lib.cut
 split
 ·have := Lib.index_room l [c] (by assumption)
  simp at this ⊢
  omega
 ·simp
set_option maxHeartbeats 1000000 in
theorem dparse_ok (s : List UInt8) (hs : s.length ≤ 100000) : Pure Tryd.prog 21 [.str s] (resAV (parseD s)) := by
 intro σ
 have hP := cutPrefix_ok s [45]
 rw [prefix_minus, trim_minus] at hP
 obtain ⟨R, hR⟩ : ∃ R, parseD s = R := ⟨_, rfl⟩
 rw [hR]
 unfold parseD at hR
 dsimp only at hR
 generalize hm : decide (s.head? = some 45) = minus at *
 have hbl : (if s.head? = some 45 then s.drop 1 else s).length ≤ 100000 := by
  split
  ·rw [List.length_drop]; omega
  ·exact hs
 generalize (if s.head? = some 45 then s.drop 1 else s) = body at *
 have hC := cutc_ok body 46 (by omega)
 have hCl := cut_len body 46
 have hnf : (Lib.cut body [46]).2.2 = false → (Lib.cut body [46]).2.1 = [] := by
  unfold Lib.cut
  split <;> simp
 generalize (Lib.cut body [46]).1 = whole at *
 generalize (Lib.cut body [46]).2.1 = part at *
 generalize (Lib.cut body [46]).2.2 = dot at *
 unfold parseQ at hR
 obtain ⟨F, hF⟩ : ∃ F, F = ACode.wp Tryd.prog c21_32 := ⟨_, rfl⟩
 have fin : ∀ (a : AFr), part.length ≤ 4 → (accP 0 (whole ++ part ++ List.replicate (4 - part.length) 48)).bind (madeP minus) = R → (a 5 = .bool minus ∧ a 6 = .str whole ∧ a 7 = .str part) → F (RetQ [.t 2, .t 3] fun v σ' => v = resAV R ∧ σ' = σ) a σ := by
  intro a hp4 hacc hf
  rw [hF]
  have hl2 : whole.length + part.length ≤ 9223372036854775807 := by omega
  have g4 : (part.length : Int) ≤ 4 := by omega
  have e0 : ([48, 48, 48, 48] : List UInt8).drop part.length = List.replicate (4 - part.length) 48 := by
   have : part.length = 0 ∨ part.length = 1 ∨ part.length = 2 ∨ part.length = 3 ∨ part.length = 4 := by omega
   rcases this with h | h | h | h | h <;> rw [h] <;> rfl
  have e1 : binS .add (whole ++ part) (List.replicate (4 - part.length) 48) = some (.str (whole ++ part ++ List.replicate (4 - part.length) 48)) := binS_add (by simp; omega)
  obtain ⟨M, hM⟩ : ∃ M, whole ++ part ++ List.replicate (4 - part.length) 48 = M := ⟨_, rfl⟩
  rw [hM] at hacc e1
  have hMl : M.length ≤ 1000000 := by rw [← hM]; simp; omega
  simp (disch := first | assumption | omega | (simp only [List.length_append, List.length_cons, List.length_nil]; omega)) only [go_sem, Nat.reduceEqDiff, Nat.reduceAdd, ↓reduceIte, Int.reduceToNat, hf, e0, e1]
  refine s2b_shr ?_
  simp (disch := first | assumption | omega | (simp only [List.length_append, List.length_cons, List.length_nil]; omega)) only [go_sem, ↓reduceIte]
  refine wp_loop_on (fun (i : Nat) a σ' => i ≤ M.length ∧ (∃ n : Nat, n ≤ 999999999999999999 ∧ accP 0 M = accP n (M.drop i) ∧ a 9 = .int .u64 n) ∧ (a 5 = .bool minus ∧ a 44 = .sl .shr (bytesAV M) ∧ a 45 = .int .i64 M.length ∧ a 46 = .int .i64 i) ∧ σ' = σ) (fun i => M.length - i) 0 ⟨Nat.zero_le _, ⟨0, by omega, rfl, ?_⟩, ?_, rfl⟩ ?_
  ·simp (disch := first | assumption | omega | (simp only [List.length_append, List.length_cons, List.length_nil]; omega)) only [go_sem, Nat.reduceEqDiff, ↓reduceIte]
  ·simp (disch := first | assumption | omega | (simp only [List.length_append, List.length_cons, List.length_nil]; omega)) only [go_sem, Nat.reduceEqDiff, ↓reduceIte, hf]
  rintro i a σ1 ⟨hi, ⟨n, hn, hac, hf9⟩, hf, rfl⟩
  rw [hac] at hacc
  by_cases hlt : i < M.length
  ·have hidx : M[i]? = some (M[i]'hlt) := List.getElem?_eq_getElem hlt
   rw [List.drop_eq_getElem_cons hlt] at hac hacc
   obtain ⟨c, hc⟩ : ∃ c, M[i]'hlt = c := ⟨_, rfl⟩
   rw [hc] at hidx hac hacc
   have hlt' : (i : Int) < M.length := by omega
   have hcb : c.toNat < 256 := c.toNat_lt
   rw [accP] at hac hacc
   by_cases h1 : c.toNat < 48
   ·have h1' : (c.toNat : Int) < 48 := by omega
    rw [if_pos (by omega)] at hacc
    subst hacc
    simp (disch := first | assumption | omega | (simp only [List.length_append, List.length_cons, List.length_nil]; omega)) only [go_sem, Nat.reduceEqDiff, ↓reduceIte, hf, hlt', hidx, h1']
    exact retC_by (by repeat' (first | exact Drop.refl _ | with_reducible refine Drop.off ?_ (by assumption))) (.refl _) ⟨rfl, rfl⟩
   have h1' : ¬ (c.toNat : Int) < 48 := by omega
   by_cases h2 : 57 < c.toNat
   ·have h2' : (57 : Int) < c.toNat := by omega
    rw [if_pos (by omega)] at hacc
    subst hacc
    simp (disch := first | assumption | omega | (simp only [List.length_append, List.length_cons, List.length_nil]; omega)) only [go_sem, Nat.reduceEqDiff, ↓reduceIte, hf, hlt', hidx, h1', h2']
    exact retC_by (by repeat' (first | exact Drop.refl _ | with_reducible refine Drop.off ?_ (by assumption))) (.refl _) ⟨rfl, rfl⟩
   have h2' : ¬ (57 : Int) < c.toNat := by omega
   by_cases h3 : 99999999999999999 < n
   ·have h3' : (99999999999999999 : Int) < n := by omega
    rw [if_pos (by omega)] at hacc
    subst hacc
    simp (disch := first | assumption | omega | (simp only [List.length_append, List.length_cons, List.length_nil]; omega)) only [go_sem, Nat.reduceEqDiff, ↓reduceIte, hf, hf9, hlt', hidx, h1', h2', h3']
    exact retC_by (by repeat' (first | exact Drop.refl _ | with_reducible refine Drop.off ?_ (by assumption))) (.refl _) ⟨rfl, rfl⟩
   have h3' : ¬ (99999999999999999 : Int) < n := by omega
   rw [if_neg (by omega)] at hac hacc
   obtain ⟨n2, hn2⟩ : ∃ n2 : Nat, 10 * n + (c.toNat - 48) = n2 := ⟨_, rfl⟩
   rw [hn2] at hac hacc
   have e2 : 10 * (n : Int) + ((c.toNat : Int) - 48) = n2 := by omega
   simp (disch := first | assumption | omega | (simp only [List.length_append, List.length_cons, List.length_nil]; omega)) only [go_sem, Nat.reduceEqDiff, ↓reduceIte, hf, hf9, hlt', hidx, h1', h2', h3', e2]
   exact ⟨i + 1, by omega, by omega, ⟨n2, by omega, hac, rfl⟩, rfl⟩
  ·have hlt' : ¬ (i : Int) < M.length := by omega
   rw [List.drop_eq_nil_of_le (by omega), accP, Option.bind_some] at hacc
   subst hacc
   have hMd := made_ok minus n (by omega)
   simp (disch := first | assumption | omega | (simp only [List.length_append, List.length_cons, List.length_nil]; omega)) only [go_sem, Nat.reduceEqDiff, ↓reduceIte, hf, hf9, hlt']
   refine hMd.use ?_
   simp only [resAV]
   simp (disch := first | assumption | omega | (simp only [List.length_append, List.length_cons, List.length_nil]; omega)) only [go_sem, Nat.reduceEqDiff, ↓reduceIte]
   exact retC_by (by repeat' (first | exact Drop.refl _ | with_reducible refine Drop.off ?_ (by assumption))) (.refl _) ⟨rfl, rfl⟩
 refine a21 (by simp) ?_
 simp (disch := first | assumption | omega | (simp only [List.length_append, List.length_cons, List.length_nil]; omega)) only [go_sem, reduceCtorEq, ↓reduceIte]
 refine hP.use ?_
 simp (disch := first | assumption | omega | (simp only [List.length_append, List.length_cons, List.length_nil]; omega)) only [go_sem, Nat.reduceEqDiff, ↓reduceIte]
 refine hC.use ?_
 by_cases hw : whole = []
 ·subst hw
  rw [if_pos (.inl rfl)] at hR
  subst hR
  simp (disch := first | assumption | omega | (simp only [List.length_append, List.length_cons, List.length_nil]; omega)) only [go_sem, Nat.reduceEqDiff, ↓reduceIte, ←hF]
  exact retC_by (by repeat' (first | exact Drop.refl _ | with_reducible refine Drop.off ?_ (by assumption))) (.refl _) ⟨rfl, rfl⟩
 cases dot with
 | false =>
   have hp := hnf rfl
   subst hp
   rw [if_neg (by rintro (h | ⟨h, _⟩) <;> contradiction)] at hR
   simp (disch := first | assumption | omega | (simp only [List.length_append, List.length_cons, List.length_nil]; omega)) only [go_sem, Nat.reduceEqDiff, ↓reduceIte, hw, ←hF]
   refine fin _ (by simp) hR ?_
   simp (disch := first | assumption | omega | (simp only [List.length_append, List.length_cons, List.length_nil]; omega)) only [go_sem, Nat.reduceEqDiff, ↓reduceIte]
 | true =>
   by_cases hp : part = []
   ·subst hp
    rw [if_pos (.inr ⟨rfl, .inl rfl⟩)] at hR
    subst hR
    simp (disch := first | assumption | omega | (simp only [List.length_append, List.length_cons, List.length_nil]; omega)) only [go_sem, Nat.reduceEqDiff, ↓reduceIte, hw, ←hF]
    exact retC_by (by repeat' (first | exact Drop.refl _ | with_reducible refine Drop.off ?_ (by assumption))) (.refl _) ⟨rfl, rfl⟩
   by_cases h4 : 4 < part.length
   ·have h4' : (4 : Int) < part.length := by omega
    rw [if_pos (.inr ⟨rfl, .inr h4⟩)] at hR
    subst hR
    simp (disch := first | assumption | omega | (simp only [List.length_append, List.length_cons, List.length_nil]; omega)) only [go_sem, Nat.reduceEqDiff, ↓reduceIte, hw, hp, h4', ←hF]
    exact retC_by (by repeat' (first | exact Drop.refl _ | with_reducible refine Drop.off ?_ (by assumption))) (.refl _) ⟨rfl, rfl⟩
   ·have h4' : ¬ (4 : Int) < part.length := by omega
    rw [if_neg (by rintro (h | ⟨_, h | h⟩) <;> contradiction)] at hR
    simp (disch := first | assumption | omega | (simp only [List.length_append, List.length_cons, List.length_nil]; omega)) only [go_sem, Nat.reduceEqDiff, ↓reduceIte, hw, hp, h4', ←hF]
    refine fin _ (by omega) hR ?_
    simp (disch := first | assumption | omega | (simp only [List.length_append, List.length_cons, List.length_nil]; omega)) only [go_sem, Nat.reduceEqDiff, ↓reduceIte]
end Go.A
namespace Go.A
open Go.Proofs
/-! 16: (*tabular/vint.Writer).Text -/
def c16_2 : ACode := .seq (.ops [ oq 4 (.mv (.t 0)), oq 5 (.mv (.t 1)), oq 6 (.lenS (.t 5)), oq 7 (.conv .u64 (.t 6)), oe 8 (.call 36 [(.t 4), (.t 7)])]) (.ops [ oq 9 (.mv (.t 0)), oq 10 (.mv (.t 0)), oq 11 (.nc (.t 10)), oq 12 (.fa 0 (.t 11)), oq 13 (.ld none (.t 12)), oq 14 (.mv (.t 1)), oe 15 (.apps 5 (.t 13) (.t 14)), oq 16 (.nc (.t 9)), oq 17 (.fa 0 (.t 16)), oz (.store 1 (.t 17) (.t 15))])
@[go_sem] def c16_2_wp := wp_of c16_2.eq_1
def c16 : AFn := ⟨18, [], c16_2⟩
theorem c16_ok : compF Tryd.prog Tryd.f16 = some c16 := by kernel_rfl
theorem a16 {args : List AV} {σ : ASt} {R : AV → ASt → Prop} (hl : args.length ≤ 18) (h : c16_2.wp Tryd.prog (RetQ [] R) (init args) σ) : ACalls Tryd.prog 16 args σ R := acalls_of Tryd.func16 c16_ok hl h
/-! 18: (*tabular/vint.Writer).Bytes -/
def c18_3 : ACode := .seq (.ops [ oq 2 (.mv (.v (.str [])))]) (.seq (.ops [ oq 3 (.mv (.t 0)), oq 4 (.nc (.t 3)), oq 5 (.fa 0 (.t 4)), oq 6 (.ld none (.t 5)), oq 7 (.b2s (.t 6)), oq 2 (.mv (.t 7))]) .ret)
@[go_sem] def c18_3_wp := wp_of c18_3.eq_1
def c18 : AFn := ⟨8, [.t 2], c18_3⟩
theorem c18_ok : compF Tryd.prog Tryd.f18 = some c18 := by kernel_rfl
theorem a18 {args : List AV} {σ : ASt} {R : AV → ASt → Prop} (hl : args.length ≤ 8) (h : c18_3.wp Tryd.prog (RetQ [.t 2] R) (init args) σ) : ACalls Tryd.prog 18 args σ R := acalls_of Tryd.func18 c18_ok hl h
/-! 36: (*tabular/vint.Writer).Uint -/
def c36_7 : ACode := .seq (.seq (.ops [ oq 4 (.mv (.t 1)), oq 5 (.bin .gtr (.t 4) (.v (.int .u64 127)))]) (.cond (.t 5) .skip (.exit 0))) (.seq (.block 1 (.ops [ oq 8 (.mv (.t 0)), oq 9 (.mv (.t 0)), oq 10 (.nc (.t 9)), oq 11 (.fa 0 (.t 10)), oq 12 (.ld none (.t 11)), oq 13 (.mv (.t 1)), oq 14 (.conv .u8 (.t 13)), oq 15 (.bin .or (.t 14) (.v (.int .u8 128))), oq 16 (.bsl 1 [(.t 15)]), oe 17 (.app 5 1 1 [(.int .u8 0)] (.t 12) (.t 16)), oq 18 (.nc (.t 8)), oq 19 (.fa 0 (.t 18)), oz (.store 1 (.t 19) (.t 17))])) (.ops [ oq 6 (.mv (.t 1)), oq 7 (.bin .shr (.t 6) (.v (.int .u64 7))), oq 1 (.mv (.t 7))]))
def c36_11 : ACode := .seq (.block 0 (.loop c36_7)) (.ops [ oq 20 (.mv (.t 0)), oq 21 (.mv (.t 0)), oq 22 (.nc (.t 21)), oq 23 (.fa 0 (.t 22)), oq 24 (.ld none (.t 23)), oq 25 (.mv (.t 1)), oq 26 (.conv .u8 (.t 25)), oq 27 (.bsl 1 [(.t 26)]), oe 28 (.app 5 1 1 [(.int .u8 0)] (.t 24) (.t 27)), oq 29 (.nc (.t 20)), oq 30 (.fa 0 (.t 29)), oz (.store 1 (.t 30) (.t 28))])
@[go_sem] def c36_7_wp := wp_of c36_7.eq_1
@[go_sem] def c36_11_wp := wp_of c36_11.eq_1
def c36 : AFn := ⟨31, [], c36_11⟩
theorem c36_ok : compF Tryd.prog Tryd.f36 = some c36 := by kernel_rfl
theorem a36 {args : List AV} {σ : ASt} {R : AV → ASt → Prop} (hl : args.length ≤ 31) (h : c36_11.wp Tryd.prog (RetQ [] R) (init args) σ) : ACalls Tryd.prog 36 args σ R := acalls_of Tryd.func36 c36_ok hl h
end Go.A
namespace Go.A
open Go.Proofs Go.Vint
def W (σ0 : ASt) (b : Nat) (l : List UInt8) (σ : ASt) : Prop := ∃ k, Grown (σ0.set b (some (.obj [.sl k (bytesAV l)]))) σ k (bytesAV l).length 1
theorem W.cell {σ0 σ : ASt} {b : Nat} {l : List UInt8} {k : SK} (h : Grown (σ0.set b (some (.obj [.sl k (bytesAV l)]))) σ k (bytesAV l).length 1) : σ b = some (.obj [.sl k (bytesAV l)]) := h.at (ASt.set_same _ _ _)
theorem vb_app (l m : List UInt8) : bytesAV l ++ bytesAV m = bytesAV (l ++ m) := by simp [bytesAV]
theorem bytesAV_one {n : Int} (h0 : 0 ≤ n) (h1 : n < 256) : [AV.int .u8 n] = bytesAV [u8Of n] := by
 have := u8_nat (n := n.toNat) (by omega)
 simp only [bytesAV, u8Of, List.map_cons, List.map_nil, this]
 rw [Int.toNat_of_nonneg h0]
theorem W.app {σ0 σ : ASt} {b : Nat} {l m : List UInt8} {k k' : SK} (h : Grown (σ0.set b (some (.obj [.sl k (bytesAV l)]))) σ k' (bytesAV l ++ bytesAV m).length 1) :
  W σ0 b (l ++ m) (σ.set b (some (.obj [.sl k' (bytesAV l ++ bytesAV m)]))) := by
 rw [vb_app] at h ⊢
 exact ⟨k', h.obj⟩
theorem or128 (u : Int) : ((BitVec.ofInt 8 (u % 256) ||| BitVec.ofInt 8 128).toNat : Int) = 128 + u % 128 := by
 have h : IntKind.wrap .u8 ((BitVec.ofInt 8 (u % 256) ||| BitVec.ofInt 8 128).toNat : Int) = 128 + u % 128 := or_128 u
 rwa [IntKind.wrap_u8, Int.emod_eq_of_lt (by omega) (by omega)] at h
theorem vappB {T : TypeId} {σ σ0 : ASt} {k k2 : SK} {xs z : List AV} {n m : Int} {K : AV → ASt → Prop} (h : Grown σ0 σ k xs.length 1) (hn : n = m) (h0 : 0 ≤ m) (h1 : m < 256) (hl : xs.length < 4611686018427)
  (hK : ∀ k' σ', Grown σ0 σ' k' (xs ++ bytesAV [u8Of m]).length 1 → K (.sl k' (xs ++ bytesAV [u8Of m])) σ') : appC T 1 1 z (.sl k xs) (.sl k2 [.int .u8 n]) σ K := by
 subst hn
 rw [bytesAV_one h0 h1]
 exact appC_by h rfl rfl (by simp [bytesAV]; omega) (by simp [bytesAV]; omega) hK
theorem wrap8 (u : Int) : IntKind.wrap .u8 u = u % 256 := IntKind.wrap_u8 u
theorem wuint_ok (σ0 : ASt) (b : Nat) (u : Int) (l : List UInt8) (σ : ASt) (hW : W σ0 b l σ) (h0 : 0 ≤ u) (h1 : u ≤ 18446744073709551615) (hl : l.length + (uintB u.toNat).length ≤ 1000000) :
  ACalls Tryd.prog 36 [.ptr b 0, .int .u64 u] σ fun v σ' => v = .tuple [] ∧ W σ0 b (l ++ uintB u.toNat) σ' := by
 obtain ⟨q, hq⟩ : ∃ q, l ++ uintB u.toNat = q := ⟨_, rfl⟩
 have hql : q.length ≤ 1000000 := by rw [← hq]; simpa using hl
 rw [hq]
 refine a36 (by simp) ?_
 simp (disch := first | assumption | omega | (simp only [List.length_append, List.length_cons, List.length_nil]; omega)) only [go_sem, reduceCtorEq, Nat.reduceEqDiff, Nat.reduceAdd, Nat.reduceSub, Nat.reduceMul, Nat.reduceLeDiff, Int.reduceLT, Int.reduceLE, Int.reduceEq, ↓reduceIte, Int.reduceNeg, Int.reduceAdd, Int.reduceSub, Int.reduceMul, true_imp_iff, forall_const, Nat.mul_one, Int.reduceToNat, Nat.reducePow, Int.reducePow, Bool.true_and, Bool.false_and, Bool.and_false]
 refine wp_loop_on (fun (i : Int × List UInt8) a σ' => (0 ≤ i.1 ∧ i.1 ≤ 18446744073709551615 ∧ i.2 ++ uintB i.1.toNat = q) ∧ (a 0 = .ptr b 0 ∧ a 1 = .int .u64 i.1) ∧ W σ0 b i.2 σ') (fun i => i.1.toNat) (u, l) ⟨⟨h0, h1, hq⟩, ?_, hW⟩ ?_
 ·simp (disch := first | assumption | omega | (simp only [List.length_append, List.length_cons, List.length_nil]; omega)) only [go_sem, reduceCtorEq, Nat.reduceEqDiff, Nat.reduceAdd, Nat.reduceSub, Nat.reduceMul, Nat.reduceLeDiff, Int.reduceLT, Int.reduceLE, Int.reduceEq, ↓reduceIte, Int.reduceNeg, Int.reduceAdd, Int.reduceSub, Int.reduceMul, true_imp_iff, forall_const, Nat.mul_one, Int.reduceToNat, Nat.reducePow, Int.reducePow, Bool.true_and, Bool.false_and, Bool.and_false]
 rintro ⟨u, l⟩ a σ ⟨⟨h0, h1, hq⟩, hf, k, hg⟩
 dsimp only at h0 h1 hq hf hg
 have hb := W.cell hg
 have hll : l.length ≤ 1000000 := by rw [← hq] at hql; simp at hql; omega
 have hll' : (bytesAV l).length ≤ 1000000 := by simpa [bytesAV] using hll
 by_cases hu : 127 < u
 ·have hw := wrap8 u
  simp (disch := first | assumption | omega | (simp only [List.length_append, List.length_cons, List.length_nil]; omega)) only [go_sem, reduceCtorEq, Nat.reduceEqDiff, Nat.reduceAdd, Nat.reduceSub, Nat.reduceMul, Nat.reduceLeDiff, Int.reduceLT, Int.reduceLE, Int.reduceEq, ↓reduceIte, Int.reduceNeg, Int.reduceAdd, Int.reduceSub, Int.reduceMul, true_imp_iff, forall_const, Nat.mul_one, Int.reduceToNat, Nat.reducePow, Int.reducePow, Bool.true_and, Bool.false_and, Bool.and_false, hf, hb, hu, hw]
  refine vappB hg (or128 u) (by omega) (by omega) (by omega) fun k' σ' hg' => ?_
  have hb' := (hg'.at (ASt.set_same _ _ _))
  simp (disch := first | assumption | omega | (simp only [List.length_append, List.length_cons, List.length_nil]; omega)) only [go_sem, reduceCtorEq, Nat.reduceEqDiff, Nat.reduceAdd, Nat.reduceSub, Nat.reduceMul, Nat.reduceLeDiff, Int.reduceLT, Int.reduceLE, Int.reduceEq, ↓reduceIte, Int.reduceNeg, Int.reduceAdd, Int.reduceSub, Int.reduceMul, true_imp_iff, forall_const, Nat.mul_one, Int.reduceToNat, Nat.reducePow, Int.reducePow, Bool.true_and, Bool.false_and, Bool.and_false, hf, hb']
  refine ⟨(u / 128, l ++ [u8Of (128 + u % 128)]), by dsimp only; omega, ⟨by dsimp only; omega, by dsimp only; omega, ?_⟩, ?_, W.app hg'⟩
  ·dsimp only
   rw [← hq, uintB_j (u := u) (by omega)]
   simp
  ·simp (disch := first | assumption | omega | (simp only [List.length_append, List.length_cons, List.length_nil]; omega)) only [go_sem, reduceCtorEq, Nat.reduceEqDiff, Nat.reduceAdd, Nat.reduceSub, Nat.reduceMul, Nat.reduceLeDiff, Int.reduceLT, Int.reduceLE, Int.reduceEq, ↓reduceIte, Int.reduceNeg, Int.reduceAdd, Int.reduceSub, Int.reduceMul, true_imp_iff, forall_const, Nat.mul_one, Int.reduceToNat, Nat.reducePow, Int.reducePow, Bool.true_and, Bool.false_and, Bool.and_false, hf]
 ·have hw := wrap8 u
  have hw2 : u % 256 = u := by omega
  rw [hw2] at hw
  have hu' := uintB_i h0 (by omega)
  rw [hu'] at hq
  subst hq
  simp (disch := first | assumption | omega | (simp only [List.length_append, List.length_cons, List.length_nil]; omega)) only [go_sem, reduceCtorEq, Nat.reduceEqDiff, Nat.reduceAdd, Nat.reduceSub, Nat.reduceMul, Nat.reduceLeDiff, Int.reduceLT, Int.reduceLE, Int.reduceEq, ↓reduceIte, Int.reduceNeg, Int.reduceAdd, Int.reduceSub, Int.reduceMul, true_imp_iff, forall_const, Nat.mul_one, Int.reduceToNat, Nat.reducePow, Int.reducePow, Bool.true_and, Bool.false_and, Bool.and_false, hf, hb, hu, hw]
  refine vappB hg rfl (by omega) (by omega) (by omega) fun k' σ' hg' => ?_
  have hb' := (hg'.at (ASt.set_same _ _ _))
  simp (disch := first | assumption | omega | (simp only [List.length_append, List.length_cons, List.length_nil]; omega)) only [go_sem, reduceCtorEq, Nat.reduceEqDiff, Nat.reduceAdd, Nat.reduceSub, Nat.reduceMul, Nat.reduceLeDiff, Int.reduceLT, Int.reduceLE, Int.reduceEq, ↓reduceIte, Int.reduceNeg, Int.reduceAdd, Int.reduceSub, Int.reduceMul, true_imp_iff, forall_const, Nat.mul_one, Int.reduceToNat, Nat.reducePow, Int.reducePow, Bool.true_and, Bool.false_and, Bool.and_false, hf, hb']
  exact retC_by (Drop.refl _) (.refl _) ⟨rfl, W.app hg'⟩
theorem wtext_ok (σ0 : ASt) (b : Nat) (s l : List UInt8) (σ : ASt) (hW : W σ0 b l σ) (hl : l.length + 10 + s.length ≤ 1000000) :
  ACalls Tryd.prog 16 [.ptr b 0, .str s] σ fun v σ' => v = .tuple [] ∧ W σ0 b (l ++ textB s) σ' := by
 refine a16 (by simp) ?_
 simp (disch := first | assumption | omega | (simp only [List.length_append, List.length_cons, List.length_nil]; omega)) only [go_sem, reduceCtorEq, Nat.reduceEqDiff, Nat.reduceAdd, Nat.reduceSub, Nat.reduceMul, Nat.reduceLeDiff, Int.reduceLT, Int.reduceLE, Int.reduceEq, ↓reduceIte, Int.reduceNeg, Int.reduceAdd, Int.reduceSub, Int.reduceMul, true_imp_iff, forall_const, Nat.mul_one, Int.reduceToNat, Nat.reducePow, Int.reducePow, Bool.true_and, Bool.false_and, Bool.and_false]
 have hu := uintB_le (u := s.length) (by omega)
 rw [Int.toNat_natCast] at hu
 refine (wuint_ok σ0 b s.length l σ hW (by omega) (by omega) (by rw [Int.toNat_natCast]; omega)).mono ?_
 rintro v σ' ⟨rfl, k, hg⟩
 rw [Int.toNat_natCast] at hg
 have hb := W.cell hg
 simp (disch := first | assumption | omega | (simp only [List.length_append, List.length_cons, List.length_nil]; omega)) only [go_sem, reduceCtorEq, Nat.reduceEqDiff, Nat.reduceAdd, Nat.reduceSub, Nat.reduceMul, Nat.reduceLeDiff, Int.reduceLT, Int.reduceLE, Int.reduceEq, ↓reduceIte, Int.reduceNeg, Int.reduceAdd, Int.reduceSub, Int.reduceMul, true_imp_iff, forall_const, Nat.mul_one, Int.reduceToNat, Nat.reducePow, Int.reducePow, Bool.true_and, Bool.false_and, Bool.and_false, hb]
 have hlen : (bytesAV (l ++ uintB s.length)).length + s.length ≤ 140737488355328 := by simp [bytesAV]; omega
 refine appsC_by hg hlen fun k' σ' hg' => ?_
 have hb' := (hg'.at (ASt.set_same _ _ _))
 simp (disch := first | assumption | omega | (simp only [List.length_append, List.length_cons, List.length_nil]; omega)) only [go_sem, reduceCtorEq, Nat.reduceEqDiff, Nat.reduceAdd, Nat.reduceSub, Nat.reduceMul, Nat.reduceLeDiff, Int.reduceLT, Int.reduceLE, Int.reduceEq, ↓reduceIte, Int.reduceNeg, Int.reduceAdd, Int.reduceSub, Int.reduceMul, true_imp_iff, forall_const, Nat.mul_one, Int.reduceToNat, Nat.reducePow, Int.reducePow, Bool.true_and, Bool.false_and, Bool.and_false, hb']
 refine retC_by (Drop.refl _) (.refl _) ⟨rfl, ?_⟩
 have : l ++ textB s = (l ++ uintB s.length) ++ s := by simp [textB]
 rw [this]
 refine W.app (k := k) ?_
 rw [List.length_append, bytesAV_length (l := s)]
 exact hg'
end Go.A
namespace Go.A
open Go.Proofs
/-! 20: tabular/vint.Read -/
def c20_3 : ACode := .seq (.ops [ oq 2 (.mv (.v .nilp))]) (.seq (.ops [ oq 3 (.mv (.t 0)), oq 4 (.build [(.str []), (.int .i64 0), (.int .i64 0)] [(0, 1, (.t 3))]), oe 5 (.box (.t 4)), oq 2 (.mv (.t 5))]) .ret)
@[go_sem] def c20_3_wp := wp_of c20_3.eq_1
def c20 : AFn := ⟨6, [.t 2], c20_3⟩
theorem c20_ok : compF Tryd.prog Tryd.f20 = some c20 := by kernel_rfl
theorem a20 {args : List AV} {σ : ASt} {R : AV → ASt → Prop} (hl : args.length ≤ 6) (h : c20_3.wp Tryd.prog (RetQ [.t 2] R) (init args) σ) : ACalls Tryd.prog 20 args σ R := acalls_of Tryd.func20 c20_ok hl h
/-! 23: (*tabular/vint.Reader).Done -/
def c23_8 : ACode := .seq (.ops [ oq 2 (.mv (.v (.int .i64 0)))]) (.seq (.seq (.ops [ oq 3 (.mv (.t 0)), oq 4 (.nc (.t 3)), oq 5 (.fa 1 (.t 4)), oq 6 (.ld none (.t 5)), oq 7 (.mv (.t 0)), oq 8 (.nc (.t 7)), oq 9 (.fa 0 (.t 8)), oq 10 (.ld none (.t 9)), oq 11 (.lenS (.t 10)), oq 12 (.bin .lss (.t 6) (.t 11))]) (.cond (.t 12) (.ops [ oq 13 (.mv (.t 0)), oe 14 (.call 43 [(.t 13), (.v (.int .i64 3))])]) .skip)) (.seq (.ops [ oq 15 (.mv (.t 0)), oq 16 (.nc (.t 15)), oq 17 (.fa 2 (.t 16)), oq 18 (.ld none (.t 17)), oq 2 (.mv (.t 18))]) .ret))
@[go_sem] def c23_8_wp := wp_of c23_8.eq_1
def c23 : AFn := ⟨19, [.t 2], c23_8⟩
theorem c23_ok : compF Tryd.prog Tryd.f23 = some c23 := by kernel_rfl
theorem a23 {args : List AV} {σ : ASt} {R : AV → ASt → Prop} (hl : args.length ≤ 19) (h : c23_8.wp Tryd.prog (RetQ [.t 2] R) (init args) σ) : ACalls Tryd.prog 23 args σ R := acalls_of Tryd.func23 c23_ok hl h
/-! 42: (*tabular/vint.Reader).Uint -/
def c42_32 : ACode := .seq (.seq (.ops [ oq 6 (.mv (.t 0)), oq 7 (.nc (.t 6)), oq 8 (.fa 2 (.t 7)), oq 9 (.ld none (.t 8)), oq 10 (.bin .eql (.t 9) (.v (.int .i64 0)))]) (.cond (.t 10) .skip (.exit 0))) (.seq (.block 1 (.seq (.seq (.ops [ oq 13 (.mv (.t 0)), oq 14 (.nc (.t 13)), oq 15 (.fa 1 (.t 14)), oq 16 (.ld none (.t 15)), oq 17 (.mv (.t 4)), oq 18 (.bin .add (.t 16) (.t 17)), oq 19 (.mv (.t 0)), oq 20 (.nc (.t 19)), oq 21 (.fa 0 (.t 20)), oq 22 (.ld none (.t 21)), oq 23 (.lenS (.t 22)), oq 24 (.bin .geq (.t 18) (.t 23))]) (.cond (.t 24) (.seq (.ops [ oq 25 (.mv (.t 0)), oe 26 (.call 43 [(.t 25), (.v (.int .i64 2))])]) (.exit 0)) .skip)) (.seq (.ops [ oq 27 (.mv (.t 0)), oq 28 (.nc (.t 27)), oq 29 (.fa 0 (.t 28)), oq 30 (.ld none (.t 29)), oq 31 (.mv (.t 0)), oq 32 (.nc (.t 31)), oq 33 (.fa 1 (.t 32)), oq 34 (.ld none (.t 33)), oq 35 (.mv (.t 4)), oq 36 (.bin .add (.t 34) (.t 35)), oq 37 (.idx (.t 30) (.t 36)), oq 5 (.mv (.t 37))]) (.seq (.seq (.ops [ oq 38 (.mv (.t 4)), oq 39 (.bin .eql (.t 38) (.v (.int .i64 9))), oq 40 (.mv (.t 39)), ⟨some 41, some (40, true), .q (.mv (.t 5)), []⟩, ⟨some 42, some (40, true), .q (.bin .gtr (.t 41) (.v (.int .u8 1))), []⟩, oq 43 (.pick (.t 40) (.t 42) (.v (.bool false))), oq 44 (.mv (.t 43)), ⟨some 45, some (44, false), .q (.mv (.t 4)), []⟩, ⟨some 46, some (44, false), .q (.bin .gtr (.t 45) (.v (.int .i64 0))), []⟩, ⟨some 47, some (44, false), .q (.mv (.t 46)), []⟩, ⟨some 48, some (47, true), .q (.mv (.t 5)), []⟩, ⟨some 49, some (47, true), .q (.bin .eql (.t 48) (.v (.int .u8 0))), []⟩, ⟨some 50, some (44, false), .q (.pick (.t 47) (.t 49) (.v (.bool false))), []⟩, oq 51 (.pick (.t 44) (.v (.bool true)) (.t 50))]) (.cond (.t 51) (.seq (.ops [ oq 52 (.mv (.t 0)), oe 53 (.call 43 [(.t 52), (.v (.int .i64 3))])]) (.exit 0)) .skip)) (.seq (.ops [ oq 54 (.mv (.t 3)), oq 55 (.mv (.t 5)), oq 56 (.bin .and (.t 55) (.v (.int .u8 127))), oq 57 (.conv .u64 (.t 56)), oq 58 (.mv (.t 4)), oq 59 (.bin .mul (.v (.int .i64 7)) (.t 58)), oq 60 (.bin .shl (.t 57) (.t 59)), oq 61 (.bin .or (.t 54) (.t 60)), oq 3 (.mv (.t 61))]) (.seq (.ops [ oq 62 (.mv (.t 5)), oq 63 (.bin .lss (.t 62) (.v (.int .u8 128)))]) (.cond (.t 63) (.seq (.ops [ oq 64 (.mv (.t 0)), oq 65 (.nc (.t 64)), oq 66 (.fa 1 (.t 65)), oq 67 (.ld none (.t 66)), oq 68 (.mv (.t 4)), oq 69 (.bin .add (.t 68) (.v (.int .i64 1))), oq 70 (.bin .add (.t 67) (.t 69)), oq 71 (.nc (.t 64)), oq 72 (.fa 1 (.t 71)), oz (.store 1 (.t 72) (.t 70))]) (.seq (.ops [ oq 73 (.mv (.t 3)), oq 2 (.mv (.t 73))]) .ret)) .skip))))))) (.ops [ oq 11 (.mv (.t 4)), oq 12 (.bin .add (.t 11) (.v (.int .i64 1))), oq 4 (.mv (.t 12))]))
def c42_40 : ACode := .seq (.ops [ oq 2 (.mv (.v (.int .u64 0)))]) (.seq (.ops [ oq 3 (.mv (.v (.int .u64 0)))]) (.seq (.seq (.ops [ oq 4 (.mv (.v (.int .i64 0)))]) (.block 0 (.loop c42_32))) (.seq (.ops [ oq 2 (.mv (.v (.int .u64 0)))]) .ret)))
@[go_sem] def c42_32_wp := wp_of c42_32.eq_1
@[go_sem] def c42_40_wp := wp_of c42_40.eq_1
def c42 : AFn := ⟨74, [.t 2], c42_40⟩
theorem c42_ok : compF Tryd.prog Tryd.f42 = some c42 := by kernel_rfl
theorem a42 {args : List AV} {σ : ASt} {R : AV → ASt → Prop} (hl : args.length ≤ 74) (h : c42_40.wp Tryd.prog (RetQ [.t 2] R) (init args) σ) : ACalls Tryd.prog 42 args σ R := acalls_of Tryd.func42 c42_ok hl h
/-! 43: (*tabular/vint.Reader).fail -/
def c43_3 : ACode := .seq (.ops [ oq 4 (.mv (.t 0)), oq 5 (.nc (.t 4)), oq 6 (.fa 2 (.t 5)), oq 7 (.ld none (.t 6)), oq 8 (.bin .eql (.t 7) (.v (.int .i64 0)))]) (.cond (.t 8) (.ops [ oq 9 (.mv (.t 0)), oq 10 (.mv (.t 1)), oq 11 (.nc (.t 9)), oq 12 (.fa 2 (.t 11)), oz (.store 1 (.t 12) (.t 10))]) .skip)
@[go_sem] def c43_3_wp := wp_of c43_3.eq_1
def c43 : AFn := ⟨13, [], c43_3⟩
theorem c43_ok : compF Tryd.prog Tryd.f43 = some c43 := by kernel_rfl
theorem a43 {args : List AV} {σ : ASt} {R : AV → ASt → Prop} (hl : args.length ≤ 13) (h : c43_3.wp Tryd.prog (RetQ [] R) (init args) σ) : ACalls Tryd.prog 43 args σ R := acalls_of Tryd.func43 c43_ok hl h
end Go.A
