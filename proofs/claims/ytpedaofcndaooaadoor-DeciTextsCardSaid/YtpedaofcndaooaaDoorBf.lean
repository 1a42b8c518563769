/- A region that draws its order: one walk, in an order of its plan, speaks for all orders. -/
import Derived.Test.YtpedaofcndaooaaDoorBe
import Derived.Test.YtpedaofcndaooaaDoorReg
namespace Go.A
set_option linter.unusedSimpArgs false
set_option linter.unusedVariables false
open Classical

/-- The temporaries that an operand looks at, compiled. -/
def Opd.look : Opd → List Nat
  | .t s => [s]
  | .v _ => []
def QOp.opds : QOp → List Opd
  | .mv x | .un _ x | .conv _ x | .s2s x | .s2b x | .b2s x | .fld _ _ x | .fa _ x | .ld _ x | .nc x | .len x | .lenS x | .ext _ x | .mki _ x | .slall _ x | .ta _ _ _ x | .box x => [x]
  | .pick c x y => [c, x, y]
  | .bin _ x y | .eq _ _ x y | .eqs _ _ x y | .ia _ x y | .iaa _ _ x y | .idx x y | .slfrom _ x y | .slto _ x y | .mnx _ x y => [x, y]
  | .sls _ x y z => [x, y, z]
  | .build _ ps => ps.map (·.2.2)
  | .bsl _ xs => xs
  | .mkf _ f c => f ++ c
def QOp.looks (q : QOp) : List Nat := q.opds.flatMap Opd.look
theorem QOp.ev_congr {q : QOp} {a a' : AFr} {σ : ASt} (h : ∀ t ∈ q.looks, a t = a' t) : q.ev a σ = q.ev a' σ := by
  have ho : ∀ x ∈ q.opds, x.ev a = x.ev a' := by
    intro x hx
    cases x with
    | v y => rfl
    | t s => exact h s (List.mem_flatMap.2 ⟨_, hx, by simp [Opd.look]⟩)
  have hm : ∀ xs : List Opd, (∀ x ∈ xs, x ∈ q.opds) → xs.map (·.ev a) = xs.map (·.ev a') := fun xs hxs => List.map_congr_left fun x hx => ho x (hxs x hx)
  cases q <;> simp only [QOp.opds, List.mem_cons, List.not_mem_nil, or_false, forall_eq_or_imp, forall_eq] at ho <;> simp only [QOp.ev]
  case build z ps =>
    congr 2
    apply List.map_congr_left
    intro p hp
    rw [ho p.2.2 (List.mem_map.2 ⟨p, hp, rfl⟩)]
  case bsl s xs => rw [hm xs fun x hx => hx]
  case mkf fn f c =>
    rw [hm f fun x hx => by simp [QOp.opds, hx], hm c fun x hx => by simp [QOp.opds, hx]]
  all_goals simp only [ho]

/-- What a plan promises. -/
structure PlanOk (l : List Oper) (π : List Nat) (eff : Nat → Bool) (looks : Nat → List Nat) (bit : Nat → Nat → Bool) (al : Nat → Bool) : Prop where
  mem : ∀ i, i ∈ π ↔ i < l.length
  nodup : π.Nodup
  listed : ∀ (listed : Array Bool) (j : Nat) (o : Oper), RegClosed .any l.toArray listed → l[j]? = some o → (∀ e ∈ o.after, Region.binds .any e = true → listed.getD e.on false = true) → ∀ i, bit j i = true → listed.getD i false = true
  down : ∀ (j : Nat) (o : Oper), l[j]? = some o → ∀ e ∈ o.after, Region.binds .any e = true → e.on < j
  before : ∀ pre i post, π = pre ++ i :: post → ∀ j, bit i j = true → j ∈ pre
  effs : ∀ pre i post, π = pre ++ i :: post → ∀ e ∈ pre, eff e = true → bit i e = true ∨ (al e = true ∧ al i = true)
  alB : ∀ i, al i = true → ∀ j, bit i j = false
  cont : ∃ U V W, π = U ++ (V ++ W) ∧ (∀ v ∈ V, al v = true) ∧ (∀ u ∈ U, al u = false) ∧ ∀ u ∈ W, al u = false
  temps : ∀ (i j t : Nat) (o : Oper), i < l.length → t ∈ looks i → l[j]? = some o → o.dst = some t → j ≠ i ∧ (bit i j = true ∨ bit j i = true)
  uniq : ∀ (i j t : Nat) (oi oj : Oper), l[i]? = some oi → l[j]? = some oj → oi.dst = some t → oj.dst = some t → i = j

section
variable {P : Program} {n : Nat} {l : List Oper} {π : List Nat} {eff : Nat → Bool} {looks : Nat → List Nat} {bit : Nat → Nat → Bool} {al : Nat → Bool} {item : Nat → AItem}

/-- Who writes a temporary. -/
def Dst (l : List Oper) (i t : Nat) : Prop := ∃ o : Oper, l[i]? = some o ∧ o.dst = some t

noncomputable def mix (l : List Oper) (bit : Nat → Nat → Bool) (a0 a : AFr) (i : Nat) : AFr := fun t => if ∃ j, bit i j = true ∧ Dst l j t then a t else a0 t
noncomputable def cur (l : List Oper) (a0 a : AFr) (pre : List Nat) (L : Array Bool) : AFr := fun t => if ∃ i ∈ pre, L.getD i false = false ∧ Dst l i t then a0 t else a t

/-- A value that is said ahead of its operation. -/
def Pend (l : List Oper) (bit : Nat → Nat → Bool) (item : Nat → AItem) (a0 a : AFr) (σ : ASt) (i : Nat) : Prop :=
  ∃ q, (item i).op = .q q ∧ match (item i).guard with
    | none => ∃ v, q.ev (mix l bit a0 a i) σ = some v ∧ ∀ d, Dst l i d → a d = v
    | some (t, want) => ∃ b, (mix l bit a0 a i t).word = some b ∧ (b = some want → ∃ v, q.ev (mix l bit a0 a i) σ = some v ∧ ∀ d, Dst l i d → a d = v) ∧ (b ≠ some want → ∀ d, Dst l i d → a d = .tuple [])

/-- What is asked of the items. -/
structure ItemsOk (P : Program) (n : Nat) (l : List Oper) (π : List Nat) (eff : Nat → Bool) (looks : Nat → List Nat) (bit : Nat → Nat → Bool) (al : Nat → Bool) (item : Nat → AItem) : Prop where
  comp : ∀ (i : Nat) (o : Oper), l[i]? = some o → compI P n l o = some { item i with watch := [] }
  effI : ∀ i, i < l.length → (eff i = false ↔ ∃ q, (item i).op = .q q)
  quiet : ∀ i, i < l.length → eff i = false → (item i).watch = []
  looksQ : ∀ i q, i < l.length → (item i).op = .q q → ∀ t ∈ q.looks, t ∈ looks i
  looksO : ∀ (i : Nat) (o : Oper) (t : Nat), l[i]? = some o → Operand.tmp t ∈ o.op.operands.toList → t ∈ looks i
  looksG : ∀ i t b, i < l.length → (item i).guard = some (t, b) → t ∈ looks i
  alI : ∀ i, i < l.length → al i = true → ∃ d z, item i = ⟨d, none, .e (.alloc z), []⟩
  watch : ∀ pre e post, π = pre ++ e :: post → eff e = true → al e = false → ∀ i ∈ pre, ∀ q, (item i).op = .q q → q.reads = true → bit e i = false →
    (∃ d, Dst l i d ∧ ({ guard := (item i).guard, q := q, dst := d } : Watch) ∈ (item e).watch) ∧ ∀ t ∈ looks i, ∀ j, Dst l j t → bit i j = true

theorem watchOk_mem {a : AFr} {σ : ASt} : ∀ {ws : List Watch}, watchOk a σ ws → ∀ x ∈ ws, match x.guard with
    | none => x.q.ev a σ = some (a x.dst)
    | some (t, want) => a t = .bool want → x.q.ev a σ = some (a x.dst)
  | [], _, x, hx => by cases hx
  | y :: ws, h, x, hx => by
    rcases List.mem_cons.1 hx with rfl | hx
    · exact h.1
    · exact watchOk_mem h.2 x hx

/-- How the walk stands with what has come up. -/
structure Inv (P : Program) (n : Nat) (l : List Oper) (π : List Nat) (eff : Nat → Bool) (bit : Nat → Nat → Bool) (item : Nat → AItem) (K : AFr → ASt → Prop) (a0 : AFr) (σ0 : ASt) (w0 : World) (L : Array Bool) (act : Act) (w : World)
    (pre post : List Nat) (a : AFr) (σ : ASt) : Prop where
  split : π = pre ++ post
  run : runI P (post.map item) K a σ
  effL : ∀ i ∈ pre, eff i = true → L.getD i false = true
  postL : ∀ i ∈ post, L.getD i false = false
  closed : RegClosed .any l.toArray L
  size : L.size = l.length
  sim : Sim σ w
  le : Le σ0 w0 σ w
  actOk : act.tmps.size = n ∧ act.defers = []
  rep : ∀ t, t < n → Rep σ w (cur l a0 a pre L t) (act.tmps.getD t undef)
  pend : ∀ i ∈ pre, L.getD i false = false → Pend l bit item a0 a σ i
  old : ∀ t, (∀ i ∈ pre, ¬ Dst l i t) → a t = a0 t

theorem put_ne {a : AFr} {t : Option Nat} {v : AV} {s : Nat} (h : ∀ d, t = some d → s ≠ d) : a.put t v s = a s := by
  cases t with
  | none => rfl
  | some d => simp [AFr.put, AFr.upd, h d rfl]
theorem put_eq {a : AFr} {v : AV} {d : Nat} : a.put (some d) v d = v := by simp [AFr.put, AFr.upd]

variable {K : AFr → ASt → Prop} {a0 : AFr} {σ0 : ASt} {w0 : World}

theorem item_dst (hI : ItemsOk P n l π eff looks bit al item) {i : Nat} (hi : i < l.length) : ∃ o, l[i]? = some o ∧ (item i).dst = o.dst ∧ compI P n l o = some { item i with watch := [] } := by
  obtain ⟨o, ho⟩ : ∃ o, l[i]? = some o := ⟨l[i], by simp [hi]⟩
  exact ⟨o, ho, (compI_spec (hI.comp i o ho)).1, hI.comp i o ho⟩
theorem item_Dst (hI : ItemsOk P n l π eff looks bit al item) {i d : Nat} (hi : i < l.length) : Dst l i d ↔ (item i).dst = some d := by
  obtain ⟨o, ho, h1, _⟩ := item_dst hI hi
  constructor
  · rintro ⟨o', h2, h3⟩; rw [ho] at h2; injection h2 with h2; subst h2; rw [h1, h3]
  · intro h; exact ⟨o, ho, by rw [← h1, h]⟩
theorem Dst.uniq (hP : PlanOk l π eff looks bit al) {i j t : Nat} (h : Dst l i t) (k : Dst l j t) : i = j := by
  obtain ⟨o, h1, h2⟩ := h; obtain ⟨o', h3, h4⟩ := k
  exact hP.uniq i j t o o' h1 h3 h2 h4
theorem Dst.lt {i t : Nat} (h : Dst l i t) : i < l.length := by
  obtain ⟨o, h1, _⟩ := h; exact (List.getElem?_eq_some_iff.1 h1).1

/-- A quiet operation is walked ahead. -/
theorem Inv.advance1 (hP : PlanOk l π eff looks bit al) (hI : ItemsOk P n l π eff looks bit al item) {L : Array Bool} {act : Act} {w : World} {pre post : List Nat} {i : Nat} {a : AFr} {σ : ASt}
    (h : Inv P n l π eff bit item K a0 σ0 w0 L act w pre (i :: post) a σ) (he : eff i = false) : ∃ a', Inv P n l π eff bit item K a0 σ0 w0 L act w (pre ++ [i]) post a' σ := by
  have hsp := h.split
  have hil : i < l.length := (hP.mem i).1 (by rw [hsp]; simp)
  have hnd : (pre ++ i :: post).Nodup := hsp ▸ hP.nodup
  have hipre : i ∉ pre := fun hm => by
    rw [List.nodup_append] at hnd
    exact hnd.2.2 i hm i (by simp) rfl
  obtain ⟨o, ho, hod, hcomp⟩ := item_dst hI hil
  obtain ⟨q, hq⟩ := (hI.effI i hil).1 he
  have hwt := hI.quiet i hil he
  -- its operands, in the frame and in the mixed frame
  have look : ∀ (v : AV) t, t ∈ looks i → mix l bit a0 (a.put (item i).dst v) i t = a t := by
    intro v t ht
    have hne : ∀ d, (item i).dst = some d → t ≠ d := fun d hd htd => by
      subst htd
      exact (hP.temps i i t o hil ht ho (by rw [← hod]; exact hd)).1 rfl
    unfold mix
    split
    · exact put_ne hne
    · rename_i hno
      refine (h.old t fun j hj hD => hno ⟨j, ?_, hD⟩).symm
      obtain ⟨o', h1, h2⟩ := hD
      rcases (hP.temps i j t o' hil ht h1 h2).2 with hb | hb
      · exact hb
      · exfalso
        have hjpre : ∃ p1 p2, pre = p1 ++ j :: p2 := List.append_of_mem hj
        obtain ⟨p1, p2, hp⟩ := hjpre
        have := hP.before p1 j (p2 ++ i :: post) (by rw [hsp, hp]; simp) i hb
        exact hipre (by rw [hp]; simp [this])
  -- the walk behind it, at some value
  have key : ∀ v : AV, runI P (post.map item) K (a.put (item i).dst v) σ →
      (match (item i).guard with
        | none => ∃ v', q.ev a σ = some v' ∧ v = v'
        | some (t, want) => ∃ b, (a t).word = some b ∧ (b = some want → ∃ v', q.ev a σ = some v' ∧ v = v') ∧ (b ≠ some want → v = .tuple [])) →
      ∃ a', Inv P n l π eff bit item K a0 σ0 w0 L act w (pre ++ [i]) post a' σ := by
    intro v hrun hval
    refine ⟨a.put (item i).dst v, by rw [hsp]; simp, hrun, ?_, ?_, h.closed, h.size, h.sim, h.le, h.actOk, ?_, ?_, ?_⟩
    · intro j hj hjE
      rcases List.mem_append.1 hj with hj | hj
      · exact h.effL j hj hjE
      · simp at hj; subst hj; rw [he] at hjE; cases hjE
    · exact fun j hj => h.postL j (by simp [hj])
    · intro t ht
      have h1 := h.rep t ht
      by_cases hD : Dst l i t
      · have h2 : cur l a0 (a.put (item i).dst v) (pre ++ [i]) L t = a0 t := if_pos ⟨i, by simp, h.postL i (by simp), hD⟩
        have h3 : cur l a0 a pre L t = a0 t := by
          unfold cur
          split
          · rfl
          · refine h.old t fun j hj hDj => hipre ?_
            rw [hD.uniq hP hDj]; exact hj
        rw [h2]; rw [h3] at h1; exact h1
      · have h2 : cur l a0 (a.put (item i).dst v) (pre ++ [i]) L t = cur l a0 a pre L t := by
          unfold cur
          have h3 : a.put (item i).dst v t = a t := put_ne fun d hd htd => hD (by subst htd; exact (item_Dst hI hil).2 hd)
          rw [h3]
          by_cases hex : ∃ j ∈ pre, L.getD j false = false ∧ Dst l j t
          · obtain ⟨j, hj, hjL, hjD⟩ := hex
            rw [if_pos ⟨j, by simp [hj], hjL, hjD⟩, if_pos ⟨j, hj, hjL, hjD⟩]
          · rw [if_neg hex, if_neg]
            rintro ⟨j, hj, hjL, hjD⟩
            rcases List.mem_append.1 hj with hj | hj
            · exact hex ⟨j, hj, hjL, hjD⟩
            · simp at hj; subst hj; exact hD hjD
        rw [h2]; exact h1
    · intro j hj hjL
      rcases List.mem_append.1 hj with hj | hj
      · have h1 := h.pend j hj hjL
        have hji : j ≠ i := fun e => hipre (e ▸ hj)
        have hjl : j < l.length := (hP.mem j).1 (by rw [hsp]; simp [hj])
        have hbit : bit j i = false := by
          cases hb : bit j i with
          | false => rfl
          | true =>
            obtain ⟨p1, p2, hp⟩ := List.append_of_mem hj
            have := hP.before p1 j (p2 ++ i :: post) (by rw [hsp, hp]; simp) i hb
            exact absurd (by rw [hp]; simp [this]) hipre
        have hmix : mix l bit a0 (a.put (item i).dst v) j = mix l bit a0 a j := by
          funext t
          unfold mix
          split
          · rename_i hex
            obtain ⟨k, hk, hkD⟩ := hex
            refine put_ne fun d hd htd => ?_
            subst htd
            have : k = i := hkD.uniq hP ((item_Dst hI hil).2 hd)
            subst this
            rw [hbit] at hk; cases hk
          · rfl
        have hkeep : ∀ d, Dst l j d → a.put (item i).dst v d = a d := fun d hd => put_ne fun d' hd' hdd => hji (by
          subst hdd; exact hd.uniq hP ((item_Dst hI hil).2 hd'))
        obtain ⟨q', hq', hp'⟩ := h1
        refine ⟨q', hq', ?_⟩
        rw [hmix]
        split
        · rename_i hg
          rw [hg] at hp'
          obtain ⟨v', hv', hd'⟩ := hp'
          exact ⟨v', hv', fun d hd => (hkeep d hd).trans (hd' d hd)⟩
        · rename_i t want hg
          rw [hg] at hp'
          obtain ⟨b, hb, h2, h3⟩ := hp'
          exact ⟨b, hb, fun e => let ⟨v', hv', hd'⟩ := h2 e; ⟨v', hv', fun d hd => (hkeep d hd).trans (hd' d hd)⟩, fun e d hd => (hkeep d hd).trans (h3 e d hd)⟩
      · simp at hj; subst hj
        have hqe : q.ev (mix l bit a0 (a.put (item j).dst v) j) σ = q.ev a σ := QOp.ev_congr fun t ht => look v t (hI.looksQ j q hil hq t ht)
        have hput : ∀ d, Dst l j d → a.put (item j).dst v d = v := fun d hd => by rw [(item_Dst hI hil).1 hd]; exact put_eq
        refine ⟨q, hq, ?_⟩
        split
        · rename_i hg
          rw [hg] at hval
          obtain ⟨v', hv', rfl⟩ := hval
          exact ⟨v, by rw [hqe]; exact hv', hput⟩
        · rename_i t want hg
          rw [hg] at hval
          obtain ⟨b, hb, h2, h3⟩ := hval
          refine ⟨b, by rw [look v t (hI.looksG j t want hil hg)]; exact hb, fun e => ?_, fun e d hd => (hput d hd).trans (h3 e)⟩
          obtain ⟨v', hv', rfl⟩ := h2 e
          exact ⟨v, by rw [hqe]; exact hv', hput⟩
    · intro t ht
      have h1 : a.put (item i).dst v t = a t := put_ne fun d hd htd => ht i (by simp) (by subst htd; exact (item_Dst hI hil).2 hd)
      rw [h1]
      exact h.old t fun j hj => ht j (by simp [hj])
  have hrun := h.run
  simp only [List.map_cons, runI] at hrun
  split at hrun
  · rename_i hg
    unfold AItem.step at hrun
    rw [hq] at hrun
    simp only [AOp.step] at hrun
    split at hrun
    · rename_i v hv
      refine key v hrun.2 ?_
      rw [hg]
      exact ⟨v, hv, rfl⟩
    · exact hrun.elim
  · rename_i t want hg
    split at hrun
    · rename_i b hb
      split at hrun
      · rename_i hbw
        unfold AItem.step at hrun
        rw [hq] at hrun
        simp only [AOp.step] at hrun
        split at hrun
        · rename_i v hv
          refine key v hrun.2 ?_
          rw [hg]
          exact ⟨b, hb, fun _ => ⟨v, hv, rfl⟩, fun e => absurd hbw e⟩
        · exact hrun.elim
      · rename_i hbw
        refine key (.tuple []) hrun ?_
        rw [hg]
        exact ⟨b, hb, fun e => absurd e hbw, fun _ => rfl⟩
    · exact hrun.elim

/-- All that is quiet is walked ahead. -/
theorem Inv.advance (hP : PlanOk l π eff looks bit al) (hI : ItemsOk P n l π eff looks bit al item) {L : Array Bool} {act : Act} {w : World} : ∀ {post pre : List Nat} {a : AFr} {σ : ASt},
    Inv P n l π eff bit item K a0 σ0 w0 L act w pre post a σ → ∃ pre' post' a', Inv P n l π eff bit item K a0 σ0 w0 L act w pre' post' a' σ ∧ (post' = [] ∨ ∃ e r, post' = e :: r ∧ eff e = true)
  | [], pre, a, σ, h => ⟨pre, [], a, h, .inl rfl⟩
  | i :: post, pre, a, σ, h => by
    cases he : eff i with
    | true => exact ⟨pre, i :: post, a, h, .inr ⟨i, post, rfl, he⟩⟩
    | false =>
      obtain ⟨a', h'⟩ := h.advance1 hP hI he
      exact Inv.advance hP hI h'

theorem split_swap {A B P S : List Nat} {x y z : Nat} (h : A ++ y :: x :: B = P ++ z :: S) :
    (∃ A2, A = P ++ z :: A2 ∧ S = A2 ++ y :: x :: B) ∨ (P = A ∧ z = y ∧ S = x :: B) ∨ (P = A ++ [y] ∧ z = x ∧ S = B) ∨ (∃ B1, P = A ++ y :: x :: B1 ∧ B = B1 ++ z :: S) := by
  rcases List.append_eq_append_iff.1 h with ⟨as, h1, h2⟩ | ⟨as, h1, h2⟩
  · -- P = A ++ as, y :: x :: B = as ++ z :: S
    cases as with
    | nil =>
      simp only [List.nil_append, List.cons.injEq] at h2
      exact .inr (.inl ⟨by simpa using h1, h2.1.symm, h2.2.symm⟩)
    | cons u as =>
      simp only [List.cons_append, List.cons.injEq] at h2
      obtain ⟨rfl, h2⟩ := h2
      cases as with
      | nil =>
        simp only [List.nil_append, List.cons.injEq] at h2
        exact .inr (.inr (.inl ⟨h1, h2.1.symm, h2.2.symm⟩))
      | cons v as =>
        simp only [List.cons_append, List.cons.injEq] at h2
        obtain ⟨rfl, h2⟩ := h2
        exact .inr (.inr (.inr ⟨as, h1, h2⟩))
  · -- A = P ++ as, z :: S = as ++ y :: x :: B
    cases as with
    | nil =>
      simp only [List.nil_append, List.cons.injEq] at h2
      exact .inr (.inl ⟨by simpa using h1.symm, h2.1, h2.2⟩)
    | cons u as =>
      simp only [List.cons_append, List.cons.injEq] at h2
      obtain ⟨rfl, h2⟩ := h2
      exact .inl ⟨as, h1, h2⟩
/-- Where two that make memory stand, all between them does. -/
theorem cont_loc {U V W pre p1 p2 : List Nat} {e i : Nat} (h : pre ++ e :: (p1 ++ i :: p2) = U ++ (V ++ W)) (hU : ∀ u ∈ U, al u = false) (hW : ∀ u ∈ W, al u = false) (he : al e = true) (hi : al i = true) :
    ∃ as V2, pre = U ++ as ∧ V = as ++ e :: (p1 ++ i :: V2) ∧ p2 = V2 ++ W := by
  rcases List.append_eq_append_iff.1 h with ⟨as, h1, h2⟩ | ⟨as, h1, h2⟩
  · -- U = pre ++ as
    cases as with
    | nil =>
      simp only [List.nil_append] at h2
      have h3 : V ++ W = (e :: p1) ++ i :: p2 := by rw [← h2]; rfl
      rcases List.append_eq_append_iff.1 h3 with ⟨bs, h4, h5⟩ | ⟨bs, h4, h5⟩
      · exfalso
        have : i ∈ W := by
          rw [h5]
          simp
        rw [hW i this] at hi; cases hi
      · cases bs with
        | nil =>
          exfalso
          simp only [List.nil_append] at h5
          have : i ∈ W := by rw [← h5]; simp
          rw [hW i this] at hi; cases hi
        | cons u bs =>
          simp only [List.cons_append, List.cons.injEq] at h5
          obtain ⟨rfl, h5⟩ := h5
          exact ⟨[], bs, by simpa using h1.symm, by rw [h4]; simp, h5⟩
    | cons u as =>
      exfalso
      simp only [List.cons_append, List.cons.injEq] at h2
      obtain ⟨rfl, _⟩ := h2
      rw [hU e (by rw [h1]; simp)] at he; cases he
  · -- pre = U ++ as
    have h3 : V ++ W = (as ++ e :: p1) ++ i :: p2 := by rw [h2]; simp
    rcases List.append_eq_append_iff.1 h3 with ⟨bs, h4, h5⟩ | ⟨bs, h4, h5⟩
    · exfalso
      have : i ∈ W := by
        rw [h5]
        simp
      rw [hW i this] at hi; cases hi
    · cases bs with
      | nil =>
        exfalso
        simp only [List.nil_append] at h5
        have : i ∈ W := by rw [← h5]; simp
        rw [hW i this] at hi; cases hi
      | cons u bs =>
        simp only [List.cons_append, List.cons.injEq] at h5
        obtain ⟨rfl, h5⟩ := h5
        exact ⟨as, bs, h1, by rw [h4]; simp, h5⟩
theorem PlanOk.swap {A B : List Nat} {x y : Nat} (hP : PlanOk l (A ++ x :: y :: B) eff looks bit al) (hx : al x = true) (hy : al y = true) : PlanOk l (A ++ y :: x :: B) eff looks bit al where
  mem i := by rw [← hP.mem i]; simp only [List.mem_append, List.mem_cons]; constructor <;> (rintro (h | h | h | h) <;> simp [h])
  nodup := ((List.Perm.swap y x B).append_left A).nodup_iff.1 hP.nodup
  listed := hP.listed
  down := hP.down
  before P z S h j hj := by
    rcases split_swap h with ⟨A2, h1, h2⟩ | ⟨h1, rfl, h2⟩ | ⟨h1, rfl, h2⟩ | ⟨B1, h1, h2⟩
    · exact hP.before P z (A2 ++ x :: y :: B) (by rw [h1]; simp) j hj
    · rw [hP.alB _ hy] at hj; cases hj
    · rw [hP.alB _ hx] at hj; cases hj
    · have := hP.before (A ++ x :: y :: B1) z S (by rw [h2]; simp) j hj
      rw [h1]
      simp only [List.mem_append, List.mem_cons] at this ⊢
      rcases this with h | h | h | h <;> simp [h]
  effs P z S h e he hE := by
    rcases split_swap h with ⟨A2, h1, h2⟩ | ⟨h1, rfl, h2⟩ | ⟨h1, rfl, h2⟩ | ⟨B1, h1, h2⟩
    · exact hP.effs P z (A2 ++ x :: y :: B) (by rw [h1]; simp) e he hE
    · exact hP.effs (A ++ [x]) z B (by simp) e (by rw [h1] at he; simp [he]) hE
    · rw [h1] at he
      rcases List.mem_append.1 he with he | he
      · exact hP.effs A z (y :: B) rfl e he hE
      · simp at he; subst he; exact .inr ⟨hy, hx⟩
    · refine hP.effs (A ++ x :: y :: B1) z S (by rw [h2]; simp) e ?_ hE
      rw [h1] at he
      simp only [List.mem_append, List.mem_cons] at he ⊢
      rcases he with h | h | h | h <;> simp [h]
  alB := hP.alB
  cont := by
    obtain ⟨U, V, W, h, hV, hU, hW⟩ := hP.cont
    obtain ⟨as, V2, h1, h2, h3⟩ := cont_loc (p1 := []) (by simpa using h) hU hW hx hy
    refine ⟨U, as ++ y :: x :: V2, W, by rw [h1, h3]; simp, fun v hv => hV v ?_, hU, hW⟩
    rw [h2]
    simp only [List.mem_append, List.mem_cons, List.nil_append] at hv ⊢
    rcases hv with h | h | h | h <;> simp [h]
  temps := hP.temps
  uniq := hP.uniq
theorem ItemsOk.swap {A B : List Nat} {x y : Nat} (hI : ItemsOk P n l (A ++ x :: y :: B) eff looks bit al item) (hx : al x = true) (hy : al y = true) : ItemsOk P n l (A ++ y :: x :: B) eff looks bit al item where
  comp := hI.comp
  effI := hI.effI
  quiet := hI.quiet
  looksQ := hI.looksQ
  looksO := hI.looksO
  looksG := hI.looksG
  alI := hI.alI
  watch P z S h hE hal i hi q hq hr hb := by
    rcases split_swap h with ⟨A2, h1, h2⟩ | ⟨h1, rfl, h2⟩ | ⟨h1, rfl, h2⟩ | ⟨B1, h1, h2⟩
    · exact hI.watch P z (A2 ++ x :: y :: B) (by rw [h1]; simp) hE hal i hi q hq hr hb
    · rw [hy] at hal; cases hal
    · rw [hx] at hal; cases hal
    · refine hI.watch (A ++ x :: y :: B1) z S (by rw [h2]; simp) hE hal i ?_ q hq hr hb
      rw [h1] at hi
      simp only [List.mem_append, List.mem_cons] at hi ⊢
      rcases hi with h | h | h | h <;> simp [h]
/-- What makes memory may be done first. -/
theorem Inv.bring {L : Array Bool} {act : Act} {w : World} {pre : List Nat} {i : Nat} {a : AFr} {σ : ASt} (hi : al i = true) : ∀ (m : Nat) (p1 p2 : List Nat) (π : List Nat), p1.length = m → (∀ x ∈ p1, al x = true) → PlanOk l π eff looks bit al → ItemsOk P n l π eff looks bit al item →
    Inv P n l π eff bit item K a0 σ0 w0 L act w pre (p1 ++ i :: p2) a σ → ∃ π', PlanOk l π' eff looks bit al ∧ ItemsOk P n l π' eff looks bit al item ∧ Inv P n l π' eff bit item K a0 σ0 w0 L act w pre (i :: (p1 ++ p2)) a σ
  | 0, p1, p2, π, hm, hall, hP, hI, h => by
    have : p1 = [] := List.eq_nil_of_length_eq_zero hm
    subst this
    exact ⟨π, hP, hI, h⟩
  | m + 1, p1, p2, π, hm, hall, hP, hI, h => by
    obtain ⟨q, x, rfl⟩ : ∃ q x, p1 = q ++ [x] := ⟨p1.dropLast, p1.getLast (by rintro rfl; simp at hm), (List.dropLast_concat_getLast _).symm⟩
    have hx := hall x (by simp)
    have hsp := h.split
    have e1 : π = (pre ++ q) ++ x :: i :: p2 := by rw [hsp]; simp
    subst e1
    have hmem : ∀ z, z = x ∨ z = i → z < l.length := fun z hz => (hP.mem z).1 (by rcases hz with rfl | rfl <;> simp)
    have hnd := hP.nodup
    have hxi : x ≠ i := by
      rintro rfl
      rw [List.nodup_append] at hnd
      exact (List.nodup_cons.1 hnd.2.1).1 (by simp)
    obtain ⟨d1, z1, hit1⟩ := hI.alI x (hmem x (.inl rfl)) hx
    obtain ⟨d2, z2, hit2⟩ := hI.alI i (hmem i (.inr rfl)) hi
    have hd : ∀ d, d1 = some d → d2 ≠ some d := by
      rintro d rfl hd2
      obtain ⟨ox, hox, hdx, _⟩ := item_dst hI (hmem x (.inl rfl))
      obtain ⟨oi, hoi, hdi, _⟩ := item_dst hI (hmem i (.inr rfl))
      rw [hit1] at hdx
      rw [hit2, hd2] at hdi
      exact hxi (hP.uniq x i d ox oi hox hoi hdx.symm hdi.symm)
    have hrun : runI P ((q ++ i :: x :: p2).map item) K a σ := by
      have h1 := h.run
      simp only [List.map_append, List.map_cons, List.append_assoc, List.cons_append, List.nil_append, List.map_nil, runI_app] at h1 ⊢
      rw [hit1, hit2] at h1
      rw [hit1, hit2]
      exact runI_mono _ _ _ (fun a σ hh => runI_swap hd hh) a σ h1
    have h' : Inv P n l ((pre ++ q) ++ i :: x :: p2) eff bit item K a0 σ0 w0 L act w pre (q ++ i :: (x :: p2)) a σ :=
      ⟨by simp, hrun, h.effL, fun j hj => h.postL j (by simp only [List.mem_append, List.mem_cons] at hj ⊢; rcases hj with h | h | h | h <;> simp [h]), h.closed, h.size, h.sim, h.le, h.actOk, h.rep, h.pend, h.old⟩
    obtain ⟨π', g1, g2, g3⟩ := Inv.bring hi m q (x :: p2) _ (by simpa using hm) (fun z hz => hall z (by simp [hz])) (hP.swap hx hi) (hI.swap hx hi) h'
    exact ⟨π', g1, g2, by simpa using g3⟩
/-- A new block changes nothing that was read. -/
theorem QOp.ev_fresh {q : QOp} {a : AFr} {σ : ASt} {b : Nat} {r : Option Role} {v : AV} (hb : σ b = none) (h : q.ev a σ = some v) : q.ev a (σ.set b r) = some v := by
  have hk : ∀ c cs, known σ c = some cs → known (σ.set b r) c = some cs := by
    intro c cs hc
    have hne : c ≠ b := by rintro rfl; unfold known at hc; rw [hb] at hc; cases hc
    unfold known at hc ⊢
    rw [ASt.set_ne hne]
    exact hc
  cases hr : q.reads with
  | false => rw [← h]; exact QOp.ev_still hr _ _ _
  | true =>
    cases q <;> simp only [QOp.reads, Bool.false_eq_true, reduceCtorEq] at hr
    all_goals
      simp only [QOp.ev] at h ⊢
      split at h <;> (try exact h)
      split at h <;> (try cases h; done)
      rename_i cs hc
      rw [hk _ _ hc]
      exact h
end
end Go.A
