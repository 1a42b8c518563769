/- Part 12 of what ShiftApart leans on: Sh CodeSi Si Ms Mv Mw Mx. -/
import Derived.Test.YtelbefdoehlmhaaGreatDoorProg
import Derived.KernelRfl
import Derived.Test.YtelbefdoehlmhaaGreatDoorRows
import Derived.ProofKit
import Derived.LaidMore
import Derived.OpenShut
import Derived.Stop.LaidErr
import Derived.MakeChecks
import Derived.SevenTiedAt
import Derived.Lay
import Derived.ChangeArms
import Derived.Lib.LaidU8
import Derived.Lib.LaidTab
import Derived.Shelf.Vars
import Derived.HandedShaped
import Derived.Test.YtelbefdoehlmhaaGreatDoorZShiftApartk
set_option linter.defProp false
set_option linter.unusedSimpArgs false
set_option linter.unusedVariables false
set_option maxRecDepth 100000
namespace Go.A
open Go.Proofs Go.Lib
structure Edt.six (e : Edt) : Prop where
  a0 : 0 ≤ e.at'
  n1 : 1 ≤ e.n
  k : (e.kind = 1 ∧ e.at' ≤ 600) ∨ (e.kind = 2 ∧ e.at' + e.n ≤ 600) ∨ (e.kind = 3 ∧ e.at' + e.n ≤ 600 ∧ 0 ≤ e.dst ∧ e.dst + e.n ≤ 600)
theorem good_six {e : Edt} (h : e.good 600 = true) : e.six := by
  unfold Edt.good at h
  split at h
  · cases h
  rename_i h0
  split at h
  · rename_i k
    have := of_decide_eq_true h
    exact ⟨by omega, by omega, .inl ⟨k, by omega⟩⟩
  split at h
  · rename_i k
    have := of_decide_eq_true h
    exact ⟨by omega, by omega, .inr (.inl ⟨k, by omega⟩)⟩
  split at h
  · rename_i k
    have := of_decide_eq_true h
    exact ⟨by omega, by omega, .inr (.inr ⟨k, by omega, by omega, by omega⟩)⟩
  · cases h
theorem ahead_eq (p d i : Int) : (p ≤ i ∧ ahead p d i = i + d) ∨ (¬ p ≤ i ∧ ahead p d i = i) := by
  unfold ahead
  split
  · exact .inl ⟨by assumption, rfl⟩
  · exact .inr ⟨by assumption, rfl⟩
theorem place_ins {e : Edt} (k : e.kind = 1) (i : Int) : e.place i = (ahead e.at' e.n i, decide (ahead e.at' e.n i < e.most)) := by unfold Edt.place; rw [if_pos k]
theorem place_del {e : Edt} (k : e.kind = 2) {i : Int} (h : ¬ (e.at' ≤ i ∧ i < e.at' + e.n)) : e.place i = (ahead e.at' (-e.n) i, true) := by
  unfold Edt.place; rw [if_neg (by omega), if_neg h, if_pos k]
theorem place_gone {e : Edt} (k : e.kind = 2) {i : Int} (h : e.at' ≤ i ∧ i < e.at' + e.n) : e.place i = (0, false) := by
  unfold Edt.place; rw [if_neg (by omega), if_pos h, if_pos k]
theorem place_mov {e : Edt} (k : e.kind = 3) (i : Int) : (e.at' ≤ i ∧ i < e.at' + e.n ∧ e.place i = (i - e.at' + e.dst, true)) ∨ (¬ (e.at' ≤ i ∧ i < e.at' + e.n) ∧ e.place i = (ahead e.dst e.n (ahead e.at' (-e.n) i), true)) := by
  by_cases h : e.at' ≤ i ∧ i < e.at' + e.n
  · refine .inl ⟨h.1, h.2, ?_⟩
    unfold Edt.place; rw [if_neg (by omega), if_pos h, if_neg (by omega)]
  · refine .inr ⟨h, ?_⟩
    unfold Edt.place; rw [if_neg (by omega), if_neg h, if_neg (by omega)]
theorem mov_rng {e : Edt} (h : e.six) (k : e.kind = 3) {i : Int} (i0 : 0 ≤ i) (i1 : i < 100) : 0 ≤ (e.place i).1 ∧ (e.place i).1 < 700 := by
  obtain ⟨a0, n1, hk⟩ := h
  rcases place_mov k i with ⟨p1, p2, p3⟩ | ⟨p1, p3⟩
  · rw [p3]; dsimp only; omega
  · rw [p3]; dsimp only
    have h1 := ahead_eq e.at' (-e.n) i
    have h2 := ahead_eq e.dst e.n (ahead e.at' (-e.n) i)
    omega
theorem place_rng {e : Edt} (h : e.six) {i : Int} (i0 : 0 ≤ i) (i1 : i < 100) (hp : (e.place i).2 = true) : 0 ≤ (e.place i).1 ∧ (e.place i).1 < e.most := by
  have hm := most_rng e
  have hh := h
  obtain ⟨a0, n1, hk⟩ := h
  rcases hk with ⟨k, _⟩ | ⟨k, _⟩ | ⟨k, _⟩
  · rw [place_ins k] at hp ⊢
    have := of_decide_eq_true hp
    have h1 := ahead_eq e.at' e.n i
    dsimp only
    omega
  · by_cases hr : e.at' ≤ i ∧ i < e.at' + e.n
    · rw [place_gone k hr] at hp; cases hp
    · rw [place_del k hr]
      have h1 := ahead_eq e.at' (-e.n) i
      dsimp only
      omega
  · have := mov_rng hh k i0 i1
    omega
theorem span_rng {e : Edt} (h : e.six) {f t : Int} (f0 : 0 ≤ f) (ft : f ≤ t) (t1 : t < 100) (hp : (e.span f t).2.2 = true) :
    0 ≤ (e.span f t).1 ∧ (e.span f t).1 < e.most ∧ 0 ≤ (e.span f t).2.1 ∧ (e.span f t).2.1 < e.most := by
  have hm := most_rng e
  have hh := h
  obtain ⟨a0, n1, hk⟩ := h
  unfold Edt.span at hp ⊢
  rcases hk with ⟨k, _⟩ | ⟨k, _⟩ | ⟨k, _⟩
  · rw [if_pos k] at hp ⊢
    by_cases h1 : (e.place f).2 = true
    · rw [if_pos h1]
      have r1 := place_rng hh f0 (by omega) h1
      dsimp only
      by_cases h2 : (e.place t).2 = true
      · rw [if_pos h2]
        have r2 := place_rng hh (by omega) t1 h2
        omega
      · rw [if_neg h2]; omega
    · rw [if_neg h1] at hp; cases hp
  · rw [if_neg (by omega), if_pos k] at hp ⊢
    by_cases hd : e.at' ≤ f ∧ t < e.at' + e.n
    · rw [if_pos hd] at hp; cases hp
    · rw [if_neg hd]
      have key : ∀ i, 0 ≤ i → i < 700 → ¬ (e.at' ≤ i ∧ i < e.at' + e.n) → 0 ≤ (e.place i).1 ∧ (e.place i).1 < 700 := fun i i0 i1 hi => by
        rw [place_del k hi]
        have h1 := ahead_eq e.at' (-e.n) i
        dsimp only
        omega
      dsimp only
      by_cases c1 : e.at' ≤ f ∧ f < e.at' + e.n
      · rw [if_pos c1]
        have r1 := key (e.at' + e.n) (by omega) (by omega) (by omega)
        rw [if_neg (c := e.at' ≤ t ∧ t < e.at' + e.n) (by omega)]
        have r2 := key t (by omega) (by omega) (by omega)
        omega
      · rw [if_neg c1]
        have r1 := key f (by omega) (by omega) c1
        by_cases c2 : e.at' ≤ t ∧ t < e.at' + e.n
        · rw [if_pos c2]
          have r2 := key (e.at' - 1) (by omega) (by omega) (by omega)
          omega
        · rw [if_neg c2]
          have r2 := key t (by omega) (by omega) c2
          omega
  · rw [if_neg (by omega), if_neg (by omega)]
    have r1 := mov_rng hh k f0 (by omega)
    have r2 := mov_rng hh k (i := t) (by omega) t1
    dsimp only
    omega
theorem set_good {e : Edt} {a : Ref} {i : Int} (ha : a.good = true) (h0 : 0 ≤ i) (h1 : i < e.most) : (e.set a i).good = true := by
  simp only [Ref.good, decide_eq_true_eq] at ha ⊢
  unfold Edt.set
  unfold Edt.most at h1
  split
  · rename_i hc; rw [if_pos hc] at h1; dsimp only; omega
  · rename_i hc; rw [if_neg hc] at h1; dsimp only; omega
theorem set_of (e : Edt) (a : Ref) : e.set a (e.of a) = a := by
  unfold Edt.set Edt.of
  split <;> rfl
theorem gone_gd : goneN.gd := leaf_gd ⟨by decide, fun h => by omega, fun h => by omega, fun _ => by decide, fun h => by omega, fun h => by omega, fun h => by omega, fun h => by omega, fun h => by omega, by decide⟩
def Sm (x : Nd) : Prop := x.gd ∧ (rectR x).row + (rectR x).rows ≤ 100 ∧ (rectR x).col + (rectR x).cols ≤ 100
theorem of_lt {e : Edt} {a : Ref} (h : a.row < 100 ∧ a.col < 100) : e.of a < 100 := by unfold Edt.of; split <;> omega
def Edt.keeps (e : Edt) (r q : Rc) : Prop := (e.cols = true → q.row = r.row ∧ q.rows = r.rows) ∧ (e.cols = false → q.col = r.col ∧ q.cols = r.cols)
theorem keeps_cell (e : Edt) (a b : Ref) (i : Int) : e.keeps (rectN 5 a b) (rectN 5 (e.set a i) b) := by
  unfold rectN Edt.keeps Edt.set
  rw [if_pos rfl, if_pos rfl]
  constructor
  · intro h; rw [if_pos h]; exact ⟨rfl, rfl⟩
  · intro h; rw [if_neg (by simp [h])]; exact ⟨rfl, rfl⟩
theorem keeps_area (e : Edt) (a b : Ref) (i j : Int) : e.keeps (rectN 6 a b) (rectN 6 (e.set a i) (e.set b j)) := by
  unfold rectN Edt.keeps
  rw [if_neg (by decide), if_neg (by decide)]
  obtain ⟨n1, n2, n3, n4⟩ := norm_vals a b
  obtain ⟨m1, m2, m3, m4⟩ := norm_vals (e.set a i) (e.set b j)
  dsimp only
  rw [n1, n2, n3, n4, m1, m2, m3, m4]
  unfold Edt.set
  constructor
  · intro h; rw [if_pos h, if_pos h]; exact ⟨rfl, rfl⟩
  · intro h; rw [if_neg (by simp [h]), if_neg (by simp [h])]; exact ⟨rfl, rfl⟩
theorem node_small {e : Edt} (h : e.six) {x : Nd} (ho : x.op = 5 ∨ x.op = 6) (hx : Sm x) :
    (e.node x).gd ∧ (e.node x).size = x.size ∧ (e.node x = goneN ∨ (((e.node x).op = 5 ∨ (e.node x).op = 6) ∧ e.keeps (rectR x) (rectR (e.node x)))) := by
  obtain ⟨op, n, s, a, b, ks⟩ := x
  change op = 5 ∨ op = 6 at ho
  obtain ⟨hg, hs⟩ := hx
  have hk : ks = [] := by
    have := hg.2
    rw [Nd.nk] at this
    exact this.1 ho
  subst hk
  obtain ⟨g1, g2⟩ := ok_refs hg.1
  obtain ⟨s1, s2⟩ := rect_in ho hs
  have hok := hg.1
  rw [Nd.ok] at hok
  obtain ⟨⟨e1, e2, e3, e4, e5, e6, e7, e8, e9, e10⟩, _⟩ := hok
  have oa := of_rng (e := e) (g1 ho)
  have la := of_lt (e := e) s1
  have hgs : goneN.size = 1 := leaf_size _ _ _ _ _
  by_cases h5 : op = 5
  · subst h5
    have hn : e.node (.mk 5 n s a b []) = e.cell (.mk 5 n s a b []) := rfl
    rw [hn, Edt.cell]
    by_cases hp : (e.place (e.of a)).2 = true
    · rw [if_pos hp]
      have r := place_rng h oa.1 la hp
      have gs := set_good (e := e) (g1 ho) r.1 r.2
      exact ⟨leaf_gd ⟨e1, e2, e3, e4, e5, fun _ => gs, e7, e8, e9, e10⟩, by rw [leaf_size, leaf_size], .inr ⟨.inl rfl, keeps_cell e a b _⟩⟩
    · rw [if_neg hp]
      exact ⟨gone_gd, by rw [hgs, leaf_size], .inl rfl⟩
  · obtain rfl : op = 6 := ho.resolve_left h5
    have ob := of_rng (e := e) (g2 rfl)
    have lb := of_lt (e := e) (s2 rfl)
    have hn : e.node (.mk 6 n s a b []) = e.area (.mk 6 n s a b []) := rfl
    rw [hn, Edt.area]
    have q0 : 0 ≤ min (e.of a) (e.of b) := by clear e4 e9 e8; omega
    have q1 : min (e.of a) (e.of b) ≤ max (e.of a) (e.of b) := by clear e4 e9 e8; omega
    have q2 : max (e.of a) (e.of b) < 100 := by clear e4 e9 e8; omega
    have hr := span_rng h q0 q1 q2
    generalize e.span (min (e.of a) (e.of b)) (max (e.of a) (e.of b)) = w at *
    by_cases hp : w.2.2 = true
    · rw [if_pos hp]
      obtain ⟨r1, r2, r3, r4⟩ := hr hp
      split
      · exact ⟨leaf_gd ⟨e1, e2, e3, e4, e5, fun _ => set_good (g1 ho) r3 r4, fun _ => set_good (g2 rfl) r1 r2, e8, e9, e10⟩, by rw [leaf_size, leaf_size], .inr ⟨.inr rfl, keeps_area e a b _ _⟩⟩
      · exact ⟨leaf_gd ⟨e1, e2, e3, e4, e5, fun _ => set_good (g1 ho) r1 r2, fun _ => set_good (g2 rfl) r3 r4, e8, e9, e10⟩, by rw [leaf_size, leaf_size], .inr ⟨.inr rfl, keeps_area e a b _ _⟩⟩
    · rw [if_neg hp]
      exact ⟨gone_gd, by rw [hgs, leaf_size], .inl rfl⟩
theorem node_ahead {e : Edt} (h : e.six) (k3 : e.kind ≠ 3) (ha : 100 ≤ e.at') {x : Nd} (ho : x.op = 5 ∨ x.op = 6) (hx : Sm x) : e.node x = x := by
  obtain ⟨op, n, s, a, b, ks⟩ := x
  change op = 5 ∨ op = 6 at ho
  obtain ⟨hg, hs⟩ := hx
  obtain ⟨g1, g2⟩ := ok_refs hg.1
  obtain ⟨s1, s2⟩ := rect_in ho hs
  clear hg hs
  have hm := most_rng e
  obtain ⟨a0, n1, hk⟩ := h
  have oa := of_rng (e := e) (g1 ho)
  have la := of_lt (e := e) s1
  have hst : ∀ i, 0 ≤ i → i < 100 → e.place i = (i, true) := fun i i0 i1 => by
    rcases hk with ⟨k, _⟩ | ⟨k, _⟩ | ⟨k, _⟩
    · rw [place_ins k]
      have h1 := ahead_eq e.at' e.n i
      have h2 : ahead e.at' e.n i = i := by omega
      rw [h2, decide_eq_true (by omega)]
    · rw [place_del k (by omega)]
      have h1 := ahead_eq e.at' (-e.n) i
      have h2 : ahead e.at' (-e.n) i = i := by omega
      rw [h2]
    · exact absurd k k3
  by_cases h5 : op = 5
  · subst h5
    have hn : e.node (.mk 5 n s a b ks) = e.cell (.mk 5 n s a b ks) := rfl
    rw [hn, Edt.cell, hst _ oa.1 la, if_pos rfl, set_of]
  · obtain rfl : op = 6 := ho.resolve_left h5
    have ob := of_rng (e := e) (g2 rfl)
    have lb := of_lt (e := e) (s2 rfl)
    have hn : e.node (.mk 6 n s a b ks) = e.area (.mk 6 n s a b ks) := rfl
    rw [hn, Edt.area]
    have hsp : ∀ f t, 0 ≤ f → f ≤ t → t < 100 → e.span f t = (f, t, true) := fun f t f0 ft t1 => by
      unfold Edt.span
      rw [hst f f0 (by omega), hst t (by omega) t1]
      rcases hk with ⟨k, _⟩ | ⟨k, _⟩ | ⟨k, _⟩
      · rw [if_pos k, if_pos rfl, if_pos rfl]
      · rw [if_neg (by omega), if_pos k, if_neg (by omega), if_neg (c := e.at' ≤ f ∧ f < e.at' + e.n) (by omega), if_neg (c := e.at' ≤ t ∧ t < e.at' + e.n) (by omega)]
        dsimp only
        rw [hst f f0 (by omega), hst t (by omega) t1]
        dsimp only
        rw [Int.min_eq_left ft, Int.max_eq_right ft]
      · exact absurd k k3
    rw [hsp _ _ (by omega) (by omega) (by omega), if_pos rfl]
    by_cases hlt : e.of b < e.of a
    · rw [if_pos hlt]
      dsimp only
      rw [Int.min_eq_right (by omega), Int.max_eq_left (by omega), set_of, set_of]
    · rw [if_neg hlt]
      dsimp only
      rw [Int.min_eq_left (by omega), Int.max_eq_right (by omega), set_of, set_of]
mutual
theorem map_allR {f : Nd → Nd} {Q : Nd → Prop} : ∀ {n : Nd}, Nd.allR (fun x => Nd.allR Q (f x)) n → Nd.allR Q (Nd.map f n)
  | .mk op n s a b ks, k => by
    rw [Nd.allR] at k
    rw [Nd.map]
    split
    · rename_i ho
      rw [if_pos ho] at k
      exact k
    · rename_i ho
      rw [if_neg ho] at k
      rw [Nd.allR, if_neg ho]
      exact maps_allR k
theorem maps_allR {f : Nd → Nd} {Q : Nd → Prop} : ∀ {l : List Nd}, Nd.allRs (fun x => Nd.allR Q (f x)) l → Nd.allRs Q (Nd.maps f l)
  | [], _ => by rw [Nd.maps, Nd.allRs]; trivial
  | x :: xs, k => by
    rw [Nd.allRs] at k
    rw [Nd.maps, Nd.allRs]
    exact ⟨map_allR k.1, maps_allR k.2⟩
end
theorem sm_refs {n : Nd} (h : n.gd) (hs : smallB 100 100 (Nd.areas [] n) = true) : Nd.allR Sm n := small_refs h hs
theorem tree_small {e : Edt} (h6 : e.six) {n : Nd} (h : n.gd) (hs : smallB 100 100 (Nd.areas [] n) = true) : (e.tree n).gd ∧ (e.tree n).size = n.size :=
  ⟨map_gd h (Nd.allR_mono (fun x ho hx => (node_small h6 ho hx).1) (sm_refs h hs)), map_size (Nd.allR_mono (fun x ho hx => (node_small h6 ho hx).2.1) (sm_refs h hs))⟩
theorem tree_ahead {e : Edt} (h6 : e.six) (k3 : e.kind ≠ 3) (ha : 100 ≤ e.at') {n : Nd} (h : n.gd) (hs : smallB 100 100 (Nd.areas [] n) = true) : e.tree n = n :=
  map_id (Nd.allR_mono (fun x ho hx => node_ahead h6 k3 ha ho hx) (sm_refs h hs))
theorem tree_keeps {e : Edt} (h6 : e.six) {n : Nd} (h : n.gd) (hs : smallB 100 100 (Nd.areas [] n) = true) {r q : Rc} (hr : Nd.areas [] n = [r]) (hq : Nd.areas [] (e.tree n) = [q]) : e.keeps r q := by
  have h1 := Nd.allR_and (sm_refs h hs) (areas_has n [] [r] fun p hp => by rw [hr] at hp; exact hp)
  have h2 : Nd.allR (fun y => e.keeps r (rectR y)) (e.tree n) := by
    refine map_allR (Nd.allR_mono (fun x ho hx => ?_) h1)
    obtain ⟨hx1, hx2⟩ := hx
    have hxr : rectR x = r := by simpa using hx2
    rcases (node_small h6 ho hx1).2.2 with hgn | ⟨k1, k2⟩
    · rw [hgn]
      unfold goneN
      rw [Nd.allR, if_neg (by decide), Nd.allRs]
      trivial
    · rw [hxr] at k2
      obtain ⟨⟨o', n', s', a', b', ks'⟩, hw⟩ : ∃ w, e.node x = w := ⟨_, rfl⟩
      rw [hw] at k1 k2 ⊢
      have k1 : o' = 5 ∨ o' = 6 := k1
      rw [Nd.allR, if_pos k1]
      exact k2
  exact areas_from (e.tree n) [] (tree_small h6 h hs).1 (fun q hq => by cases hq) h2 q (by rw [hq]; simp)
end Go.A
namespace Go.A
open Go.Proofs
/-! 6: tabular/tabularlaw14.ShiftApart -/
def c6_0 : ACode := .ops [
 ⟨some 3, none, .e (.box (.t 1)), []⟩,
 ⟨some 4, none, .q (.mv (.v (.bool false))), []⟩]
def c6_1 : ACode := .ops [
 ⟨some 11, none, .q (.mv (.t 0)), []⟩,
 ⟨some 12, none, .e (.call 9 [(.t 11), (.v (.int .i64 300))]), []⟩,
 ⟨some 13, none, .e (.call 8 [(.t 12)]), []⟩,
 ⟨some 10, none, .q (.mv (.t 13)), []⟩,
 ⟨some 14, none, .q (.ext 0 (.t 10)), []⟩,
 ⟨some 15, none, .q (.ext 1 (.t 10)), []⟩,
 ⟨some 16, none, .q (.ext 2 (.t 10)), []⟩,
 ⟨some 5, none, .e (.alloc [(.int .i64 0), (.int .i64 0), (.str []), (.int .i64 0), (.int .i64 0), (.bool false), (.bool false), (.int .i64 0), (.int .i64 0), (.bool false), (.bool false), (.sl .full [])]), []⟩,
 ⟨none, none, .e (.store 12 (.t 5) (.t 14)), []⟩,
 ⟨some 6, none, .q (.mv (.t 15)), []⟩,
 ⟨some 7, none, .q (.mv (.t 16)), []⟩]
def c6_2 : ACode := .ops [
 ⟨some 17, none, .q (.mv (.t 7)), []⟩,
 ⟨some 18, none, .q (.bin .neq (.t 17) (.v (.int .i64 0))), []⟩,
 ⟨some 19, none, .q (.mv (.t 18)), []⟩,
 ⟨some 20, some (19, false), .q (.ld (some 12) (.t 5)), []⟩,
 ⟨some 21, some (19, false), .e (.call 22 [(.t 20), (.v (.int .i64 100)), (.v (.int .i64 100))]), []⟩,
 ⟨some 22, some (19, false), .q (.un .not (.t 21)), []⟩,
 ⟨some 23, none, .q (.pick (.t 19) (.v (.bool true)) (.t 22)), []⟩,
 ⟨some 24, none, .q (.mv (.t 23)), []⟩,
 ⟨some 25, some (24, false), .q (.ld (some 5) (.t 3)), []⟩,
 ⟨some 26, some (24, false), .e (.call 20 [(.t 25), (.v (.int .i64 600))]), []⟩,
 ⟨some 27, some (24, false), .q (.un .not (.t 26)), []⟩,
 ⟨some 28, none, .q (.pick (.t 24) (.v (.bool true)) (.t 27)), []⟩]
def c6_3 : ACode := .ops [
 ⟨some 29, none, .e (.call 10 []), []⟩,
 ⟨some 4, none, .q (.mv (.t 29)), []⟩]
def c6_4 : ACode := .seq c6_3 .ret
def c6_5 : ACode := .cond (.t 28) c6_4 .skip
def c6_6 : ACode := .seq c6_2 c6_5
def c6_7 : ACode := .ops [
 ⟨some 30, none, .q (.fa 1 (.t 3)), []⟩,
 ⟨some 31, none, .q (.ld none (.t 30)), []⟩,
 ⟨some 32, none, .q (.bin .neq (.t 31) (.v (.int .i64 3))), []⟩,
 ⟨some 33, none, .q (.mv (.t 32)), []⟩,
 ⟨some 34, some (33, true), .q (.fa 2 (.t 3)), []⟩,
 ⟨some 35, some (33, true), .q (.ld none (.t 34)), []⟩,
 ⟨some 36, some (33, true), .q (.bin .geq (.t 35) (.v (.int .i64 100))), []⟩,
 ⟨some 37, none, .q (.pick (.t 33) (.t 36) (.v (.bool false))), []⟩]
def c6_8 : ACode := .ops [
 ⟨some 38, none, .e (.call 10 []), []⟩,
 ⟨some 39, none, .q (.mv (.t 38)), []⟩,
 ⟨some 40, some (39, true), .q (.ld (some 5) (.t 3)), []⟩,
 ⟨some 41, some (39, true), .q (.ld (some 12) (.t 5)), []⟩,
 ⟨some 43, some (39, true), .q (.ld (some 12) (.t 5)), []⟩,
 ⟨some 42, some (39, true), .e (.call 17 [(.t 40), (.t 41)]), [⟨(some (39, true)), .ld (some 12) (.t 5), 43⟩]⟩,
 ⟨some 44, some (39, true), .e (.call 23 [(.t 42), (.t 43)]), []⟩,
 ⟨some 45, none, .q (.pick (.t 39) (.t 44) (.v (.bool false))), []⟩,
 ⟨some 4, none, .q (.mv (.t 45)), []⟩]
def c6_9 : ACode := .seq c6_8 .ret
def c6_10 : ACode := .cond (.t 37) c6_9 .skip
def c6_11 : ACode := .seq c6_7 c6_10
def c6_12 : ACode := .ops [
 ⟨some 46, none, .q (.ld (some 12) (.t 5)), []⟩,
 ⟨some 48, none, .q (.ld (some 5) (.t 3)), []⟩,
 ⟨some 49, none, .q (.ld (some 12) (.t 5)), []⟩,
 ⟨some 47, none, .e (.call 25 [(.t 46)]), [⟨none, .ld (some 5) (.t 3), 48⟩, ⟨none, .ld (some 12) (.t 5), 49⟩]⟩,
 ⟨some 50, none, .e (.call 17 [(.t 48), (.t 49)]), []⟩,
 ⟨some 51, none, .e (.call 25 [(.t 50)]), []⟩,
 ⟨some 8, none, .q (.mv (.t 47)), []⟩,
 ⟨some 9, none, .q (.mv (.t 51)), []⟩]
def c6_13 : ACode := .ops [
 ⟨some 52, none, .q (.mv (.t 8)), []⟩,
 ⟨some 53, none, .q (.len (.t 52)), []⟩,
 ⟨some 54, none, .q (.bin .eql (.t 53) (.v (.int .i64 1))), []⟩,
 ⟨some 55, none, .q (.mv (.t 54)), []⟩,
 ⟨some 56, some (55, true), .q (.mv (.t 9)), []⟩,
 ⟨some 57, some (55, true), .q (.len (.t 56)), []⟩,
 ⟨some 58, some (55, true), .q (.bin .eql (.t 57) (.v (.int .i64 1))), []⟩,
 ⟨some 59, none, .q (.pick (.t 55) (.t 58) (.v (.bool false))), []⟩]
def c6_14 : ACode := .ops [
 ⟨some 60, none, .q (.fa 0 (.t 3)), []⟩,
 ⟨some 61, none, .q (.ld none (.t 60)), []⟩,
 ⟨some 62, none, .q (.mv (.t 61)), []⟩,
 ⟨some 63, some (62, true), .q (.mv (.t 9)), []⟩,
 ⟨some 64, some (62, true), .q (.ia 4 (.t 63) (.v (.int .i64 0))), []⟩,
 ⟨some 65, some (62, true), .q (.fa 0 (.t 64)), []⟩,
 ⟨some 66, some (62, true), .q (.ld none (.t 65)), []⟩,
 ⟨some 67, some (62, true), .q (.mv (.t 8)), []⟩,
 ⟨some 68, some (62, true), .q (.ia 4 (.t 67) (.v (.int .i64 0))), []⟩,
 ⟨some 69, some (62, true), .q (.fa 0 (.t 68)), []⟩,
 ⟨some 70, some (62, true), .q (.ld none (.t 69)), []⟩,
 ⟨some 71, some (62, true), .q (.bin .neq (.t 66) (.t 70)), []⟩,
 ⟨some 72, some (62, true), .q (.mv (.t 71)), []⟩,
 ⟨some 73, some (72, false), .q (.mv (.t 9)), []⟩,
 ⟨some 74, some (72, false), .q (.ia 4 (.t 73) (.v (.int .i64 0))), []⟩,
 ⟨some 75, some (72, false), .q (.fa 2 (.t 74)), []⟩,
 ⟨some 76, some (72, false), .q (.ld none (.t 75)), []⟩,
 ⟨some 77, some (72, false), .q (.mv (.t 8)), []⟩,
 ⟨some 78, some (72, false), .q (.ia 4 (.t 77) (.v (.int .i64 0))), []⟩,
 ⟨some 79, some (72, false), .q (.fa 2 (.t 78)), []⟩,
 ⟨some 80, some (72, false), .q (.ld none (.t 79)), []⟩,
 ⟨some 81, some (72, false), .q (.bin .neq (.t 76) (.t 80)), []⟩,
 ⟨some 82, some (62, true), .q (.pick (.t 72) (.v (.bool true)) (.t 81)), []⟩,
 ⟨some 83, none, .q (.pick (.t 62) (.t 82) (.v (.bool false))), []⟩,
 ⟨some 84, none, .q (.mv (.t 83)), []⟩,
 ⟨some 85, some (84, false), .q (.fa 0 (.t 3)), []⟩,
 ⟨some 86, some (84, false), .q (.ld none (.t 85)), []⟩,
 ⟨some 87, some (84, false), .q (.un .not (.t 86)), []⟩,
 ⟨some 88, some (84, false), .q (.mv (.t 87)), []⟩,
 ⟨some 89, some (88, true), .q (.mv (.t 9)), []⟩,
 ⟨some 90, some (88, true), .q (.ia 4 (.t 89) (.v (.int .i64 0))), []⟩,
 ⟨some 91, some (88, true), .q (.fa 1 (.t 90)), []⟩,
 ⟨some 92, some (88, true), .q (.ld none (.t 91)), []⟩,
 ⟨some 93, some (88, true), .q (.mv (.t 8)), []⟩,
 ⟨some 94, some (88, true), .q (.ia 4 (.t 93) (.v (.int .i64 0))), []⟩,
 ⟨some 95, some (88, true), .q (.fa 1 (.t 94)), []⟩,
 ⟨some 96, some (88, true), .q (.ld none (.t 95)), []⟩,
 ⟨some 97, some (88, true), .q (.bin .neq (.t 92) (.t 96)), []⟩,
 ⟨some 98, some (88, true), .q (.mv (.t 97)), []⟩,
 ⟨some 99, some (98, false), .q (.mv (.t 9)), []⟩,
 ⟨some 100, some (98, false), .q (.ia 4 (.t 99) (.v (.int .i64 0))), []⟩,
 ⟨some 101, some (98, false), .q (.fa 3 (.t 100)), []⟩,
 ⟨some 102, some (98, false), .q (.ld none (.t 101)), []⟩,
 ⟨some 103, some (98, false), .q (.mv (.t 8)), []⟩,
 ⟨some 104, some (98, false), .q (.ia 4 (.t 103) (.v (.int .i64 0))), []⟩,
 ⟨some 105, some (98, false), .q (.fa 3 (.t 104)), []⟩,
 ⟨some 106, some (98, false), .q (.ld none (.t 105)), []⟩,
 ⟨some 107, some (98, false), .q (.bin .neq (.t 102) (.t 106)), []⟩,
 ⟨some 108, some (88, true), .q (.pick (.t 98) (.v (.bool true)) (.t 107)), []⟩,
 ⟨some 109, some (84, false), .q (.pick (.t 88) (.t 108) (.v (.bool false))), []⟩,
 ⟨some 110, none, .q (.pick (.t 84) (.v (.bool true)) (.t 109)), []⟩]
def c6_15 : ACode := .ops [
 ⟨some 4, none, .q (.mv (.v (.bool false))), []⟩]
def c6_16 : ACode := .seq c6_15 .ret
def c6_17 : ACode := .cond (.t 110) c6_16 .skip
def c6_18 : ACode := .seq c6_14 c6_17
def c6_19 : ACode := .cond (.t 59) c6_18 .skip
def c6_20 : ACode := .seq c6_13 c6_19
def c6_21 : ACode := .ops [
 ⟨some 111, none, .e (.call 10 []), []⟩,
 ⟨some 112, none, .q (.mv (.t 111)), []⟩,
 ⟨some 113, some (112, true), .q (.ld (some 5) (.t 3)), []⟩,
 ⟨some 114, some (112, true), .q (.ld (some 12) (.t 5)), []⟩,
 ⟨some 117, some (112, true), .q (.ld (some 12) (.t 5)), []⟩,
 ⟨some 115, some (112, true), .e (.call 17 [(.t 113), (.t 114)]), [⟨(some (112, true)), .ld (some 12) (.t 5), 117⟩]⟩,
 ⟨some 116, some (112, true), .e (.call 24 [(.t 115)]), [⟨(some (112, true)), .ld (some 12) (.t 5), 117⟩]⟩,
 ⟨some 118, some (112, true), .e (.call 24 [(.t 117)]), []⟩,
 ⟨some 119, some (112, true), .q (.bin .eql (.t 116) (.t 118)), []⟩,
 ⟨some 120, none, .q (.pick (.t 112) (.t 119) (.v (.bool false))), []⟩,
 ⟨some 4, none, .q (.mv (.t 120)), []⟩]
def c6_22 : ACode := .seq c6_21 .ret
def c6_23 : ACode := .seq c6_20 c6_22
def c6_24 : ACode := .seq c6_12 c6_23
def c6_25 : ACode := .seq c6_11 c6_24
def c6_26 : ACode := .seq c6_6 c6_25
def c6_27 : ACode := .seq c6_1 c6_26
def c6_28 : ACode := .seq c6_0 c6_27
@[go_sem] def c6_0_wp := wp_of c6_0.eq_1
@[go_sem] def c6_1_wp := wp_of c6_1.eq_1
@[go_sem] def c6_2_wp := wp_of c6_2.eq_1
@[go_sem] def c6_3_wp := wp_of c6_3.eq_1
@[go_sem] def c6_4_wp := wp_of c6_4.eq_1
@[go_sem] def c6_5_wp := wp_of c6_5.eq_1
@[go_sem] def c6_6_wp := wp_of c6_6.eq_1
@[go_sem] def c6_7_wp := wp_of c6_7.eq_1
@[go_sem] def c6_8_wp := wp_of c6_8.eq_1
@[go_sem] def c6_9_wp := wp_of c6_9.eq_1
@[go_sem] def c6_10_wp := wp_of c6_10.eq_1
@[go_sem] def c6_11_wp := wp_of c6_11.eq_1
@[go_sem] def c6_12_wp := wp_of c6_12.eq_1
@[go_sem] def c6_13_wp := wp_of c6_13.eq_1
@[go_sem] def c6_14_wp := wp_of c6_14.eq_1
@[go_sem] def c6_17_wp := wp_of c6_17.eq_1
@[go_sem] def c6_18_wp := wp_of c6_18.eq_1
@[go_sem] def c6_19_wp := wp_of c6_19.eq_1
@[go_sem] def c6_20_wp := wp_of c6_20.eq_1
@[go_sem] def c6_21_wp := wp_of c6_21.eq_1
@[go_sem] def c6_22_wp := wp_of c6_22.eq_1
@[go_sem] def c6_23_wp := wp_of c6_23.eq_1
@[go_sem] def c6_24_wp := wp_of c6_24.eq_1
@[go_sem] def c6_25_wp := wp_of c6_25.eq_1
@[go_sem] def c6_26_wp := wp_of c6_26.eq_1
@[go_sem] def c6_27_wp := wp_of c6_27.eq_1
@[go_sem] def c6_28_wp := wp_of c6_28.eq_1
def c6 : AFn := ⟨121, [.t 4], c6_28⟩
theorem c6_ok : compF Tryz.prog Tryz.f6 = some c6 := by kernel_rfl
theorem a6 {args : List AV} {σ : ASt} {R : AV → ASt → Prop} (hl : args.length ≤ 121) (h : c6_28.wp Tryz.prog (RetQ [.t 4] R) (init args) σ) : ACalls Tryz.prog 6 args σ R := acalls_of Tryz.func6 c6_ok hl h
end Go.A
namespace Go.A
open Go.Proofs Go.Lib
set_option maxHeartbeats 4000000 in
theorem ShiftApart_any {σ : ASt} (hT : Tab σ) (hM : MaxL σ) (hU : U8 σ) (hV : LV σ) (s : List UInt8) (e : Edt) :
    ACalls Tryz.prog 6 [.str s, .agg e.cs] σ fun v σ' => v = .bool true ∧ σ' = σ := by
  have hA : ∀ τ, Tab τ → MaxL τ → U8 τ → LV τ → ACalls Tryz.prog 10 [] τ fun v σ' => v = .bool true ∧ σ' = τ := fun τ h1 h2 h3 h4 => shawake_ok h1 h2 h3 h4
  have hc : Pure Tryz.prog 9 [.str s, .int .i64 300] (.str (s.take 300)) := cut_ok s 300
  have hlen : (s.take 300).length ≤ 100000 := by rw [List.length_take]; omega
  have hP := fun τ (hU : U8 τ) (hV : LV τ) => parseR_ok hU hV (s.take 300) hlen
  have hgd := parseR_gd (s := s.take 300)
  obtain ⟨⟨n, k, er⟩, hR⟩ : ∃ R, parseR (s.take 300) = R := ⟨_, rfl⟩
  rw [hR] at hP hgd
  dsimp only at hP hgd
  clear hR
  generalize s.take 300 = s' at *
  have hG : Pure Tryz.prog 20 [.agg e.cs, .int .i64 600] (.bool (e.good 600)) := shgood_ok e 600
  by_cases he : er = 0
  · obtain ⟨hg, hsz⟩ := hgd he
    subst he
    clear hgd
    have hS := shsmall_ok n hg (by omega) 100 100
    cases hb : smallB 100 100 (Nd.areas [] n) with
    | false =>
      rw [hb] at hS
      clear hg hsz hb
      obtain ⟨op, m, s, a, b, ks⟩ := n
      have hav : (Nd.mk op m s a b ks).av = .agg [.int .i64 op, .int .i64 m, .str s, .int .i64 a.row, .int .i64 a.col, .bool a.absRow, .bool a.absCol, .int .i64 b.row, .int .i64 b.col, .bool b.absRow, .bool b.absCol, .sl .shr (ks.map Nd.av)] := Nd.av_cs ..
      simp only [hav] at hP
      rw [hav] at hS
      generalize ks.map Nd.av = L at *
      refine a6 (by simp) ?_
      simp (disch := first | assumption | omega) only [go_sem]
      refine boxC_by rfl fun c0 h0 => ?_
      have T1 := Tab.set (r := some (.obj e.cs)) hT h0
      have M1 := MaxL.set (r := some (.obj e.cs)) hM h0
      have U1 := U8.set (r := some (.obj e.cs)) hU h0
      have V1 := LV.set (r := some (.obj e.cs)) hV h0
      simp (disch := first | assumption | omega) only [go_sem, reduceCtorEq, ↓reduceIte]
      refine hc.use ?_
      simp (disch := first | assumption | omega) only [go_sem, ↓reduceIte]
      refine (hP _ U1 V1).mono ?_
      rintro v σ' ⟨rfl, rfl⟩
      simp (disch := first | assumption | omega) only [go_sem, Nat.reduceEqDiff, ↓reduceIte]
      refine allocC_by fun c1 h1 => ?_
      have h10 := h1
      have T2 := fun r => Tab.set (r := r) T1 h10
      have M2 := fun r => MaxL.set (r := r) M1 h10
      have U2 := fun r => U8.set (r := r) U1 h10
      have V2 := fun r => LV.set (r := r) V1 h10
      repeat (with_reducible replace h1 := set_none h1; obtain ⟨_, _, h1⟩ := h1)
      simp (disch := first | assumption | omega) only [go_sem, Nat.reduceEqDiff, Nat.reduceAdd, Nat.reduceLeDiff, ↓reduceIte, Bool.true_and, ASt.set_set]
      refine hS.use ?_
      simp (disch := first | assumption | omega) only [go_sem, Nat.reduceEqDiff, ↓reduceIte]
      refine (hA _ (T2 _) (M2 _) (U2 _) (V2 _)).mono ?_
      rintro v σ' ⟨rfl, rfl⟩
      simp (disch := first | assumption | omega) only [go_sem, ↓reduceIte]
      exact retC_by (by repeat' (first | exact Drop.refl _ | with_reducible refine Drop.off ?_ (by assumption))) (.refl _) ⟨rfl, rfl⟩
    | true =>
      rw [hb] at hS
      cases hgo : e.good 600 with
      | false =>
        rw [hgo] at hG
        clear hg hsz hb
        obtain ⟨op, m, s, a, b, ks⟩ := n
        have hav : (Nd.mk op m s a b ks).av = .agg [.int .i64 op, .int .i64 m, .str s, .int .i64 a.row, .int .i64 a.col, .bool a.absRow, .bool a.absCol, .int .i64 b.row, .int .i64 b.col, .bool b.absRow, .bool b.absCol, .sl .shr (ks.map Nd.av)] := Nd.av_cs ..
        simp only [hav] at hP
        rw [hav] at hS
        generalize ks.map Nd.av = L at *
        refine a6 (by simp) ?_
        simp (disch := first | assumption | omega) only [go_sem]
        refine boxC_by rfl fun c0 h0 => ?_
        have T1 := Tab.set (r := some (.obj e.cs)) hT h0
        have M1 := MaxL.set (r := some (.obj e.cs)) hM h0
        have U1 := U8.set (r := some (.obj e.cs)) hU h0
        have V1 := LV.set (r := some (.obj e.cs)) hV h0
        simp (disch := first | assumption | omega) only [go_sem, reduceCtorEq, ↓reduceIte]
        refine hc.use ?_
        simp (disch := first | assumption | omega) only [go_sem, ↓reduceIte]
        refine (hP _ U1 V1).mono ?_
        rintro v σ' ⟨rfl, rfl⟩
        simp (disch := first | assumption | omega) only [go_sem, Nat.reduceEqDiff, ↓reduceIte]
        refine allocC_by fun c1 h1 => ?_
        have h10 := h1
        have T2 := fun r => Tab.set (r := r) T1 h10
        have M2 := fun r => MaxL.set (r := r) M1 h10
        have U2 := fun r => U8.set (r := r) U1 h10
        have V2 := fun r => LV.set (r := r) V1 h10
        repeat (with_reducible replace h1 := set_none h1; obtain ⟨_, _, h1⟩ := h1)
        simp (disch := first | assumption | omega) only [go_sem, Nat.reduceEqDiff, Nat.reduceAdd, Nat.reduceLeDiff, ↓reduceIte, Bool.true_and, ASt.set_set]
        refine hS.use ?_
        simp (disch := first | assumption | omega) only [go_sem, Nat.reduceEqDiff, Nat.reduceLeDiff, ↓reduceIte]
        refine hG.use ?_
        simp (disch := first | assumption | omega) only [go_sem, Nat.reduceEqDiff, ↓reduceIte]
        refine (hA _ (T2 _) (M2 _) (U2 _) (V2 _)).mono ?_
        rintro v σ' ⟨rfl, rfl⟩
        simp (disch := first | assumption | omega) only [go_sem, ↓reduceIte]
        exact retC_by (by repeat' (first | exact Drop.refl _ | with_reducible refine Drop.off ?_ (by assumption))) (.refl _) ⟨rfl, rfl⟩
      | true =>
        have h6 := good_six hgo
        have hfit := Edt.good_fit hgo
        rw [hgo] at hG
        obtain ⟨g1, g2⟩ := tree_small h6 hg hb
        have ht : Pure Tryz.prog 17 [.agg e.cs, n.av] (e.tree n).av := shtree_ok e hfit n hg.1 (by omega)
        have z1 := nsize_ok (e.tree n) (by omega)
        have z2 := nsize_ok n (by omega)
        rw [g2] at z1
        have a1' := Areas_ok n hg.1 (by omega)
        have a2' := Areas_ok (e.tree n) g1.1 (by omega)
        have e1 := esame_ok n n (by omega) (by omega)
        rw [Nd.same_refl] at e1
        have hah : e.kind ≠ 3 → 100 ≤ e.at' → (e.tree n).av = n.av := fun k3 ha => by rw [tree_ahead h6 k3 ha hg hb]
        have hkp : ∀ r q, Nd.areas [] n = [r] → Nd.areas [] (e.tree n) = [q] → e.keeps r q := fun r q hr hq => tree_keeps h6 hg hb hr hq
        generalize (e.tree n).av = W at *
        generalize Nd.areas [] (e.tree n) = l2 at *
        generalize Nd.areas [] n = l1 at *
        generalize n.size = N at *
        clear g1 g2 hg hb hsz hfit h6
        obtain ⟨op, m, s, a, b, ks⟩ := n
        have hav : (Nd.mk op m s a b ks).av = .agg [.int .i64 op, .int .i64 m, .str s, .int .i64 a.row, .int .i64 a.col, .bool a.absRow, .bool a.absCol, .int .i64 b.row, .int .i64 b.col, .bool b.absRow, .bool b.absCol, .sl .shr (ks.map Nd.av)] := Nd.av_cs ..
        simp only [hav] at hP
        rw [hav] at hS ht z2 a1' e1 hah
        generalize ks.map Nd.av = L at *
        refine a6 (by simp) ?_
        simp (disch := first | assumption | omega) only [go_sem]
        refine boxC_by rfl fun c0 h0 => ?_
        have T1 := Tab.set (r := some (.obj e.cs)) hT h0
        have M1 := MaxL.set (r := some (.obj e.cs)) hM h0
        have U1 := U8.set (r := some (.obj e.cs)) hU h0
        have V1 := LV.set (r := some (.obj e.cs)) hV h0
        simp (disch := first | assumption | omega) only [go_sem, reduceCtorEq, ↓reduceIte]
        refine hc.use ?_
        simp (disch := first | assumption | omega) only [go_sem, ↓reduceIte]
        refine (hP _ U1 V1).mono ?_
        rintro v σ' ⟨rfl, rfl⟩
        simp (disch := first | assumption | omega) only [go_sem, Nat.reduceEqDiff, ↓reduceIte]
        refine allocC_by fun c1 h1 => ?_
        have h10 := h1
        have T2 := fun r => Tab.set (r := r) T1 h10
        have M2 := fun r => MaxL.set (r := r) M1 h10
        have U2 := fun r => U8.set (r := r) U1 h10
        have V2 := fun r => LV.set (r := r) V1 h10
        repeat (with_reducible replace h1 := set_none h1; obtain ⟨_, _, h1⟩ := h1)
        obtain ⟨F, hF⟩ : ∃ F, F = ACode.wp Tryz.prog c6_24 := ⟨_, rfl⟩
        have rest : ∀ a1 : AFr, (a1 3 = .ptr c0 0 ∧ a1 5 = .ptr c1 0) → F (RetQ [.t 4] fun v τ => v = .bool true ∧ τ = σ) a1 ((σ.set c0 (some (.obj e.cs))).set c1 (some (.obj [.int .i64 op, .int .i64 m, .str s, .int .i64 a.row, .int .i64 a.col, .bool a.absRow, .bool a.absCol, .int .i64 b.row, .int .i64 b.col, .bool b.absRow, .bool b.absCol, .sl .shr L]))) := by
          intro a1 hf
          rw [hF]
          by_cases n1 : l1.length = 1
          · obtain ⟨r, rfl⟩ := List.length_eq_one_iff.1 n1
            by_cases n2 : l2.length = 1
            · obtain ⟨q, rfl⟩ := List.length_eq_one_iff.1 n2
              have hk := hkp r q rfl rfl
              have q1 : [r].map Rc.av = [.agg [.int .i64 r.row, .int .i64 r.col, .int .i64 r.rows, .int .i64 r.cols]] := rfl
              have q2 : [q].map Rc.av = [.agg [.int .i64 q.row, .int .i64 q.col, .int .i64 q.rows, .int .i64 q.cols]] := rfl
              rw [q1] at a1'
              rw [q2] at a2'
              cases hcol : e.cols with
              | true =>
                obtain ⟨k1, k2⟩ := hk.1 hcol
                rw [k1, k2] at a2'
                simp (disch := first | assumption | omega) only [go_sem, Nat.reduceEqDiff, Nat.reduceAdd, Nat.reduceLeDiff, ↓reduceIte, hf]
                refine a1'.use ?_
                simp (disch := first | assumption | omega) only [go_sem, Nat.reduceEqDiff, Nat.reduceAdd, Nat.reduceLeDiff, ↓reduceIte, hf]
                refine ht.use ?_
                simp (disch := first | assumption | omega) only [go_sem, ↓reduceIte]
                refine a2'.use ?_
                simp (disch := first | assumption | omega) only [go_sem, Nat.reduceEqDiff, Nat.reduceAdd, ↓reduceIte, hf, hcol, eq_self]
                refine (hA _ (T2 _) (M2 _) (U2 _) (V2 _)).mono ?_
                rintro v σ' ⟨rfl, rfl⟩
                simp (disch := first | assumption | omega) only [go_sem, Nat.reduceEqDiff, Nat.reduceAdd, Nat.reduceLeDiff, ↓reduceIte, hf]
                refine ht.use ?_
                simp (disch := first | assumption | omega) only [go_sem, Nat.reduceEqDiff, Nat.reduceAdd, Nat.reduceLeDiff, ↓reduceIte, forall_const, hf]
                refine z1.use ?_
                simp (disch := first | assumption | omega) only [go_sem, Nat.reduceEqDiff, Nat.reduceAdd, Nat.reduceLeDiff, ↓reduceIte, forall_const, hf]
                refine z2.use ?_
                simp (disch := first | assumption | omega) only [go_sem, Nat.reduceEqDiff, ↓reduceIte, eq_self]
                exact retC_by (by repeat' (first | exact Drop.refl _ | with_reducible refine Drop.off ?_ (by assumption))) (.refl _) ⟨rfl, rfl⟩
              | false =>
                obtain ⟨k1, k2⟩ := hk.2 hcol
                rw [k1, k2] at a2'
                simp (disch := first | assumption | omega) only [go_sem, Nat.reduceEqDiff, Nat.reduceAdd, Nat.reduceLeDiff, ↓reduceIte, hf]
                refine a1'.use ?_
                simp (disch := first | assumption | omega) only [go_sem, Nat.reduceEqDiff, Nat.reduceAdd, Nat.reduceLeDiff, ↓reduceIte, hf]
                refine ht.use ?_
                simp (disch := first | assumption | omega) only [go_sem, ↓reduceIte]
                refine a2'.use ?_
                simp (disch := first | assumption | omega) only [go_sem, Nat.reduceEqDiff, Nat.reduceAdd, ↓reduceIte, hf, hcol, eq_self]
                refine (hA _ (T2 _) (M2 _) (U2 _) (V2 _)).mono ?_
                rintro v σ' ⟨rfl, rfl⟩
                simp (disch := first | assumption | omega) only [go_sem, Nat.reduceEqDiff, Nat.reduceAdd, Nat.reduceLeDiff, ↓reduceIte, hf]
                refine ht.use ?_
                simp (disch := first | assumption | omega) only [go_sem, Nat.reduceEqDiff, Nat.reduceAdd, Nat.reduceLeDiff, ↓reduceIte, forall_const, hf]
                refine z1.use ?_
                simp (disch := first | assumption | omega) only [go_sem, Nat.reduceEqDiff, Nat.reduceAdd, Nat.reduceLeDiff, ↓reduceIte, forall_const, hf]
                refine z2.use ?_
                simp (disch := first | assumption | omega) only [go_sem, Nat.reduceEqDiff, ↓reduceIte, eq_self]
                exact retC_by (by repeat' (first | exact Drop.refl _ | with_reducible refine Drop.off ?_ (by assumption))) (.refl _) ⟨rfl, rfl⟩
            · have n2' : ¬ (l2.length : Int) = 1 := by omega
              have q1 : [r].map Rc.av = [.agg [.int .i64 r.row, .int .i64 r.col, .int .i64 r.rows, .int .i64 r.cols]] := rfl
              rw [q1] at a1'
              simp (disch := first | assumption | omega) only [go_sem, Nat.reduceEqDiff, Nat.reduceAdd, Nat.reduceLeDiff, ↓reduceIte, hf]
              refine a1'.use ?_
              simp (disch := first | assumption | omega) only [go_sem, Nat.reduceEqDiff, Nat.reduceAdd, Nat.reduceLeDiff, ↓reduceIte, hf]
              refine ht.use ?_
              simp (disch := first | assumption | omega) only [go_sem, ↓reduceIte]
              refine a2'.use ?_
              simp (disch := first | assumption | omega) only [go_sem, Nat.reduceEqDiff, ↓reduceIte, n2']
              refine (hA _ (T2 _) (M2 _) (U2 _) (V2 _)).mono ?_
              rintro v σ' ⟨rfl, rfl⟩
              simp (disch := first | assumption | omega) only [go_sem, Nat.reduceEqDiff, Nat.reduceAdd, Nat.reduceLeDiff, ↓reduceIte, hf]
              refine ht.use ?_
              simp (disch := first | assumption | omega) only [go_sem, Nat.reduceEqDiff, Nat.reduceAdd, Nat.reduceLeDiff, ↓reduceIte, forall_const, hf]
              refine z1.use ?_
              simp (disch := first | assumption | omega) only [go_sem, Nat.reduceEqDiff, Nat.reduceAdd, Nat.reduceLeDiff, ↓reduceIte, forall_const, hf]
              refine z2.use ?_
              simp (disch := first | assumption | omega) only [go_sem, Nat.reduceEqDiff, ↓reduceIte, eq_self]
              exact retC_by (by repeat' (first | exact Drop.refl _ | with_reducible refine Drop.off ?_ (by assumption))) (.refl _) ⟨rfl, rfl⟩
          · have n1' : ¬ (l1.length : Int) = 1 := by omega
            simp (disch := first | assumption | omega) only [go_sem, Nat.reduceEqDiff, Nat.reduceAdd, Nat.reduceLeDiff, ↓reduceIte, hf]
            refine a1'.use ?_
            simp (disch := first | assumption | omega) only [go_sem, Nat.reduceEqDiff, Nat.reduceAdd, Nat.reduceLeDiff, ↓reduceIte, hf]
            refine ht.use ?_
            simp (disch := first | assumption | omega) only [go_sem, ↓reduceIte]
            refine a2'.use ?_
            simp (disch := first | assumption | omega) only [go_sem, Nat.reduceEqDiff, ↓reduceIte, n1']
            refine (hA _ (T2 _) (M2 _) (U2 _) (V2 _)).mono ?_
            rintro v σ' ⟨rfl, rfl⟩
            simp (disch := first | assumption | omega) only [go_sem, Nat.reduceEqDiff, Nat.reduceAdd, Nat.reduceLeDiff, ↓reduceIte, hf]
            refine ht.use ?_
            simp (disch := first | assumption | omega) only [go_sem, Nat.reduceEqDiff, Nat.reduceAdd, Nat.reduceLeDiff, ↓reduceIte, forall_const, hf]
            refine z1.use ?_
            simp (disch := first | assumption | omega) only [go_sem, Nat.reduceEqDiff, Nat.reduceAdd, Nat.reduceLeDiff, ↓reduceIte, forall_const, hf]
            refine z2.use ?_
            simp (disch := first | assumption | omega) only [go_sem, Nat.reduceEqDiff, ↓reduceIte, eq_self]
            exact retC_by (by repeat' (first | exact Drop.refl _ | with_reducible refine Drop.off ?_ (by assumption))) (.refl _) ⟨rfl, rfl⟩
        by_cases k3 : e.kind = 3
        · simp (disch := first | assumption | omega) only [go_sem, Nat.reduceEqDiff, Nat.reduceAdd, Nat.reduceLeDiff, ↓reduceIte, Bool.true_and, ASt.set_set]
          refine hS.use ?_
          simp (disch := first | assumption | omega) only [go_sem, Nat.reduceEqDiff, Nat.reduceLeDiff, ↓reduceIte]
          refine hG.use ?_
          simp (disch := first | assumption | omega) only [go_sem, Nat.reduceEqDiff, ↓reduceIte, k3, ←hF]
          refine rest _ ?_
          simp (disch := first | assumption | omega) only [go_sem, Nat.reduceEqDiff, ↓reduceIte]
        by_cases ha : 100 ≤ e.at'
        · have hah := hah k3 ha
          rw [hah] at ht
          simp (disch := first | assumption | omega) only [go_sem, Nat.reduceEqDiff, Nat.reduceAdd, Nat.reduceLeDiff, ↓reduceIte, Bool.true_and, ASt.set_set]
          refine hS.use ?_
          simp (disch := first | assumption | omega) only [go_sem, Nat.reduceEqDiff, Nat.reduceLeDiff, ↓reduceIte]
          refine hG.use ?_
          simp (disch := first | assumption | omega) only [go_sem, Nat.reduceEqDiff, ↓reduceIte, k3, ha]
          refine (hA _ (T2 _) (M2 _) (U2 _) (V2 _)).mono ?_
          rintro v σ' ⟨rfl, rfl⟩
          simp (disch := first | assumption | omega) only [go_sem, Nat.reduceEqDiff, Nat.reduceAdd, Nat.reduceLeDiff, ↓reduceIte]
          refine ht.use ?_
          simp (disch := first | assumption | omega) only [go_sem, Nat.reduceEqDiff, Nat.reduceAdd, Nat.reduceLeDiff, ↓reduceIte, forall_const]
          refine e1.use ?_
          simp (disch := first | assumption | omega) only [go_sem, Nat.reduceEqDiff, ↓reduceIte, eq_self]
          exact retC_by (by repeat' (first | exact Drop.refl _ | with_reducible refine Drop.off ?_ (by assumption))) (.refl _) ⟨rfl, rfl⟩
        · simp (disch := first | assumption | omega) only [go_sem, Nat.reduceEqDiff, Nat.reduceAdd, Nat.reduceLeDiff, ↓reduceIte, Bool.true_and, ASt.set_set]
          refine hS.use ?_
          simp (disch := first | assumption | omega) only [go_sem, Nat.reduceEqDiff, Nat.reduceLeDiff, ↓reduceIte]
          refine hG.use ?_
          simp (disch := first | assumption | omega) only [go_sem, Nat.reduceEqDiff, ↓reduceIte, k3, ha, ←hF]
          refine rest _ ?_
          simp (disch := first | assumption | omega) only [go_sem, Nat.reduceEqDiff, ↓reduceIte]
  · clear hgd
    obtain ⟨op, m, s, a, b, ks⟩ := n
    have hav : (Nd.mk op m s a b ks).av = .agg [.int .i64 op, .int .i64 m, .str s, .int .i64 a.row, .int .i64 a.col, .bool a.absRow, .bool a.absCol, .int .i64 b.row, .int .i64 b.col, .bool b.absRow, .bool b.absCol, .sl .shr (ks.map Nd.av)] := Nd.av_cs ..
    simp only [hav] at hP
    generalize ks.map Nd.av = L at *
    refine a6 (by simp) ?_
    simp (disch := first | assumption | omega) only [go_sem]
    refine boxC_by rfl fun c0 h0 => ?_
    have T1 := Tab.set (r := some (.obj e.cs)) hT h0
    have M1 := MaxL.set (r := some (.obj e.cs)) hM h0
    have U1 := U8.set (r := some (.obj e.cs)) hU h0
    have V1 := LV.set (r := some (.obj e.cs)) hV h0
    simp (disch := first | assumption | omega) only [go_sem, reduceCtorEq, ↓reduceIte]
    refine hc.use ?_
    simp (disch := first | assumption | omega) only [go_sem, ↓reduceIte]
    refine (hP _ U1 V1).mono ?_
    rintro v σ' ⟨rfl, rfl⟩
    simp (disch := first | assumption | omega) only [go_sem, Nat.reduceEqDiff, ↓reduceIte]
    refine allocC_by fun c1 h1 => ?_
    have h10 := h1
    have T2 := fun r => Tab.set (r := r) T1 h10
    have M2 := fun r => MaxL.set (r := r) M1 h10
    have U2 := fun r => U8.set (r := r) U1 h10
    have V2 := fun r => LV.set (r := r) V1 h10
    repeat (with_reducible replace h1 := set_none h1; obtain ⟨_, _, h1⟩ := h1)
    simp (disch := first | assumption | omega) only [go_sem, Nat.reduceEqDiff, Nat.reduceAdd, Nat.reduceLeDiff, ↓reduceIte, Bool.true_and, ASt.set_set, he]
    refine (hA _ (T2 _) (M2 _) (U2 _) (V2 _)).mono ?_
    rintro v σ' ⟨rfl, rfl⟩
    simp (disch := first | assumption | omega) only [go_sem, ↓reduceIte]
    exact retC_by (by repeat' (first | exact Drop.refl _ | with_reducible refine Drop.off ?_ (by assumption))) (.refl _) ⟨rfl, rfl⟩
end Go.A
namespace Go.Proofs.YtelbefdoehlmhaaGreatDoor
open Go Go.ChangeShapes Go.WideShapes Go.ChangeAt Go.RowKit Go.A Go.Lib Go.Shelf
theorem row_own : ownKnob Tryz.prog.godebug = none := by kernel_rfl
theorem row_laid : laidOutB Tryz.prog = true := by kernel_rfl
theorem first_eq : Rows.laid_unicode_utf8_first = firstData := by kernel_rfl
theorem acc_eq : (Rows.laid_unicode_utf8_acceptRanges : DataW Unit) = acceptData := by kernel_rfl
theorem u8_extra : U8Extra Tryz.prog Tryz.lays260_ren := ⟨by kernel_rfl, by kernel_rfl, by kernel_rfl, by kernel_rfl, by kernel_rfl, by kernel_rfl, by kernel_rfl⟩
theorem var_size {P : Program} {w : World} {n : String} {d : DataW Unit} (h : VarReads P w n d) {g : Nat} (hg : P.globalNamed n = some g) {t e : TypeId} {k : Nat} (hty : (P.globals[g]?).map (·.type) = some t) (ht : P.underlying t = some (.array k e)) :
    ∃ cs T fr, w.heap[g]? = some (.cells cs T fr) ∧ cs.size = P.cellsOf t := by
  obtain ⟨g', t', cs, fuel, p, hg', hty', hvar, hd⟩ := h
  obtain rfl := Option.some.inj (hg.symm.trans hg')
  obtain rfl := Option.some.inj (hty.symm.trans hty')
  have hlen : cs.toList.length = P.cellsOf t := by
    cases fuel with
    | zero => simp [DataW.trod] at hd
    | succ fuel =>
      simp only [DataW.trod, ht] at hd
      split at hd
      · assumption
      · cases hd
  unfold World.var? at hvar
  rw [hg, Option.bind_some] at hvar
  split at hvar
  · rename_i cs' T fr hheap
    injection hvar with hvar
    subst hvar
    exact ⟨_, _, _, hheap, by simpa using hlen⟩
  · cases hvar
theorem ints_reps {σ : ASt} {w : World} {k : IntKind} : ∀ zs : List Int, Reps σ w (zs.map (AV.int k)) (zs.map (Value.int k))
  | [] => .nil
  | z :: zs => .cons (.int k z) (ints_reps zs)
theorem fix_ok {σ : ASt} {W : World} {b : Nat} {zs : List Int} (hs : σ b = some (.fix (zs.map (AV.int .u8)))) {cs : Array Value} {T : TypeId} {fr : Nat × Nat} (hh : W.heap[b]? = some (.cells cs T fr)) (hsz : cs.size = zs.length)
    (hc : ∀ j z, zs[j]? = some z → W.cell? ⟨b, j, none⟩ = some (.int .u8 z)) : RoleOk σ W b (.fix (zs.map (AV.int .u8))) := by
  have hlt : b < W.heap.size := (Array.getElem?_eq_some_iff.1 hh).1
  refine ⟨At.mk' (ints_reps _) (fun j _ => ⟨hlt, .inr (.inl ⟨_, hs⟩)⟩) (fun j v hj => ?_), cs, T, fr, hh, by simpa using hsz⟩
  rw [List.getElem?_map] at hj
  obtain ⟨z, hz, rfl⟩ := Option.map_eq_some_iff.1 hj
  rw [Nat.zero_add]
  exact hc j z hz
def stOf : List (Nat × List AV) → ASt
  | [], _ => none
  | p :: ps, b => if b = p.1 then some (.fix p.2) else stOf ps b
theorem stOf_fix : ∀ {ps : List (Nat × List AV)} {b : Nat} {r : Role}, stOf ps b = some r → ∃ l, r = .fix l
  | [], _, _, h => by cases h
  | p :: ps, b, r, h => by
    simp only [stOf] at h
    split at h
    · injection h with h; exact ⟨_, h.symm⟩
    · exact stOf_fix h
theorem stOf_mem : ∀ {ps : List (Nat × List AV)} {b : Nat} {r : Role}, stOf ps b = some r → ∃ l, (b, l) ∈ ps ∧ r = .fix l
  | [], _, _, h => by cases h
  | p :: ps, b, r, h => by
    simp only [stOf] at h
    split at h
    · rename_i hb
      injection h with h
      subst hb
      exact ⟨p.2, List.mem_cons_self, h.symm⟩
    · obtain ⟨l, hl, he⟩ := stOf_mem h
      exact ⟨l, List.mem_cons_of_mem _ hl, he⟩
theorem still_fix {σ : ASt} (hfx : ∀ b r, σ b = some r → ∃ l, r = .fix l) {w : World} {b o : Nat} (h : b < w.heap.size) : Still σ w b o := by
  refine ⟨h, ?_⟩
  cases hb : σ b with
  | none => exact .inl rfl
  | some r => obtain ⟨l, rfl⟩ := hfx b r hb; exact .inr (.inl ⟨_, rfl⟩)
end Go.Proofs.YtelbefdoehlmhaaGreatDoor
namespace Go.A
section
variable {σ : ASt} {w : World}
theorem Still.fixed (hfx : ∀ b r, σ b = some r → ∃ l, r = .fix l) {b o : Nat} (h : Still noRole w b o) : Still σ w b o := by
  refine ⟨h.1, ?_⟩
  cases hb : σ b with
  | none => exact .inl rfl
  | some r => obtain ⟨l, rfl⟩ := hfx b r hb; exact .inr (.inl ⟨_, rfl⟩)
theorem Stands.fixed (hfx : ∀ b r, σ b = some r → ∃ l, r = .fix l) (b : Nat) : Stands σ b := by
  refine ⟨fun cs h => ?_, fun l p h => ?_, fun T cs h => ?_⟩ <;> (obtain ⟨l, hl⟩ := hfx b _ h; cases hl)
theorem SK.ok_fixed (hfx : ∀ b r, σ b = some r → ∃ l, r = .fix l) {k : SK} {b o n c sz : Nat} (h : k.ok noRole w b o n c sz) : k.ok σ w b o n c sz := by
  cases k with
  | shr => trivial
  | full => exact h
  | tok t s T => exact ⟨h.1, h.2.1, h.2.2.1, h.2.2.2.1, Stands.fixed hfx b⟩
mutual
theorem Rep.fixed (hfx : ∀ b r, σ b = some r → ∃ l, r = .fix l) : ∀ {a : AV} {v : Value}, Rep noRole w a v → Rep σ w a v
  | _, _, .any v => .any v
  | _, _, .bool b => .bool b
  | _, _, .int k n => .int k n
  | _, _, .str l => .str l
  | _, _, .ptr b o => .ptr b o
  | _, _, .imm h1 => .imm (h1.fixed hfx)
  | _, _, .nilp => .nilp
  | _, _, .slE A c => .slE A c
  | _, _, .slN => .slN
  | _, _, .sl h1 h2 h3 h4 h5 => .sl (h1.fixed hfx) h2 h3 (SK.ok_fixed hfx h4) h5
  | _, _, .msl b o n c => .msl b o n c
  | _, _, .agg h1 => .agg (h1.fixed hfx)
  | _, _, .tuple h1 => .tuple (h1.fixed hfx)
  | _, _, .iface h1 => .iface (h1.fixed hfx)
  | _, _, .nili => .nili
  | _, _, .func h1 h2 => .func (h1.fixed hfx) (h2.fixed hfx)
  | _, _, .nilf => .nilf
theorem Reps.fixed (hfx : ∀ b r, σ b = some r → ∃ l, r = .fix l) : ∀ {avs : List AV} {vs : List Value}, Reps noRole w avs vs → Reps σ w avs vs
  | _, _, .nil => .nil
  | _, _, .cons h1 h2 => .cons (h1.fixed hfx) (h2.fixed hfx)
theorem At.fixed (hfx : ∀ b r, σ b = some r → ∃ l, r = .fix l) : ∀ {b o : Nat} {avs : List AV}, At noRole w b o avs → At σ w b o avs
  | _, _, _, .nil b o => .nil b o
  | _, _, _, .cons h1 h2 h3 h4 => .cons (h1.fixed hfx) h2 (h3.fixed hfx) (h4.fixed hfx)
theorem Row.fixed (hfx : ∀ b r, σ b = some r → ∃ l, r = .fix l) : ∀ {b o sz : Nat} {avs : List AV}, Row noRole w b o sz avs → Row σ w b o sz avs
  | _, _, _, _, .nil b o sz => .nil b o sz
  | _, _, _, _, .cons h1 h2 h3 => .cons h1 (h2.fixed hfx) (h3.fixed hfx)
end
end
end Go.A
namespace Go.Proofs.YtelbefdoehlmhaaGreatDoor
open Go Go.ChangeShapes Go.WideShapes Go.ChangeAt Go.RowKit Go.A Go.Lib Go.Shelf
theorem u8_roles {σ : ASt} {W : World} (h3 : VarReads Tryz.prog W "unicode/utf8.first" firstData) (h4 : VarReads Tryz.prog W "unicode/utf8.acceptRanges" acceptData) :
    (σ 1 = some (.fix (firstTab.map (AV.int .u8))) → RoleOk σ W 1 (.fix (firstTab.map (AV.int .u8)))) ∧ (σ 2 = some (.fix (accTab.map (AV.int .u8))) → RoleOk σ W 2 (.fix (accTab.map (AV.int .u8)))) := by
  have hT := utf8Tabs_of_reads (ρ := Tryz.lays260_ren) Tryz.lays260 u8_extra h3 h4
  obtain ⟨hT1, hT2⟩ := hT
  have hT1 : ∀ c, c < 256 → W.cell? ⟨1, c, none⟩ = some (.int .u8 (firstT c)) := hT1
  have hT2 : ∀ i, i < 16 → W.cell? ⟨2, 2 * i, none⟩ = some (.int .u8 (accLo i)) ∧ W.cell? ⟨2, 2 * i + 1, none⟩ = some (.int .u8 (accHi i)) := hT2
  constructor
  · intro hs
    obtain ⟨cs, T, fr, hh, hsz⟩ := var_size h3 (g := 1) (by kernel_rfl) u8_extra.y3 (Tryz.lays260.t119)
    refine fix_ok hs hh (hsz.trans (by kernel_rfl)) fun j z hj => ?_
    have hl := (List.getElem?_eq_some_iff.1 hj).1
    simp only [firstTab, List.length_map, List.length_range] at hl
    simp only [firstTab, List.getElem?_map, List.getElem?_range hl, Option.map_some, Option.some.injEq] at hj
    subst hj
    exact hT1 j hl
  · intro hs
    obtain ⟨cs, T, fr, hh, hsz⟩ := var_size h4 (g := 2) (by kernel_rfl) u8_extra.y4 (Tryz.lays260.t139)
    refine fix_ok hs hh (hsz.trans (by kernel_rfl)) fun j z hj => ?_
    have hl := (List.getElem?_eq_some_iff.1 hj).1
    have key : ∀ j, j < 32 → accTab[j]? = some (if j % 2 = 0 then (accLo (j / 2) : Int) else accHi (j / 2)) := by decide
    have hl : j < 32 := hl
    rw [key j hl] at hj
    injection hj with hj
    subst hj
    obtain ⟨g1, g2⟩ := hT2 (j / 2) (by omega)
    split
    · rw [show 2 * (j / 2) = j by omega] at g1; exact g1
    · rw [show 2 * (j / 2) + 1 = j by omega] at g2; exact g2
theorem pow_role {σ : ASt} {W : World} (hfx : ∀ b r, σ b = some r → ∃ l, r = .fix l) (h3 : VarReads Tryz.prog W "internal/strconv.uint64pow10" (Lib.tabData .u64 Lib.pow10Tab)) :
    RoleOk σ W 4 (.fix (Lib.pow10Tab.map (AV.int .u64))) := by
  obtain ⟨g', t', cs, fuel, p, hg', ht', hvar, hd⟩ := h3
  obtain rfl := Option.some.inj ((show Tryz.prog.globalNamed "internal/strconv.uint64pow10" = some 4 by kernel_rfl).symm.trans hg')
  obtain rfl := Option.some.inj ((show (Tryz.prog.globals[4]?).map (·.type) = some 190 by kernel_rfl).symm.trans ht')
  have hcs := cells_of_tab (n := 20) (e := 140) (k := .u64) (by kernel_rfl) (by kernel_rfl) (by kernel_rfl) (by kernel_rfl) hd
  unfold World.var? at hvar
  rw [show Tryz.prog.globalNamed "internal/strconv.uint64pow10" = some 4 by kernel_rfl, Option.bind_some] at hvar
  split at hvar
  · rename_i cs' T fr hheap
    injection hvar with hvar
    have hlt : 4 < W.heap.size := (Array.getElem?_eq_some_iff.1 hheap).1
    have he : cs' = (Lib.pow10Tab.map fun z => Value.int .u64 z).toArray := by rw [hvar]; exact Array.ext' (by simpa using hcs)
    refine ⟨At.mk' (ints_reps _) (fun j _ => still_fix hfx hlt) (fun j v hj => ?_), cs', T, fr, hheap, by rw [he]; simp⟩
    simp only [World.cell?, hheap, Nat.zero_add, he]
    simpa using hj
  · cases hvar
end Go.Proofs.YtelbefdoehlmhaaGreatDoor
namespace Go.Proofs.YtelbefdoehlmhaaGreatDoor
open Go Go.ChangeShapes Go.WideShapes Go.ChangeAt Go.RowKit Go.A Go.Lib Go.Shelf
def vPs : List (Nat × List AV) := [(1, firstTab.map (AV.int .u8)), (2, accTab.map (AV.int .u8)), (4, Lib.pow10Tab.map (AV.int .u64))]
def vSt : ASt := stOf vPs
end Go.Proofs.YtelbefdoehlmhaaGreatDoor
namespace Go
variable {H : Type} {enc : TypeId × Value → H}
theorem A.returnsInHanded_and_shaped {a : Assume} {C : Checked} {os : Os} {f : FuncId} {fn : Func} {s : ChangeSpec} {conds : List PathCond} {apart fresh handsOn again : Bool} {X : World → Array Value → Prop}
    (hX : ∀ (w w' : World) (args : Array Value), w.heap = w'.heap → X w args → X w' args)
    (own : ownKnob C.prog.godebug = none) (started : os.Started) (noInit : C.prog.inits.idxOf? f = none) (hfn : C.prog.funcs[f]? = some fn)
    (witness : ∃ (w : World) (tape : Tape) (i : Input), w.os = os ∧ (w.forCall tape i).Shaped C.prog ∧ i.vars = [] ∧ Input.okWide C.prog (w.forCall tape i) .any w.heap.size f i ∧
      ((s.pre enc C.prog fn conds apart (w.forCall tape i).memory i.args ∧ X (w.forCall tape i).memory i.args) ∧ sizedMet enc C.prog fn (OpenSpec.ofChange s) apart (w.forCall tape i).memory i.args) ∧ a.holds C.prog (lone (Frame.enter C.prog f i.args .normal) [] (w.forCall tape i)))
    (contract : ∀ (W : World) (base : Nat) (args : Array Value) (ds gs : List (DataW H)) (before : List MemPlace),
      (∀ (j : Nat) t v, fn.params[j]? = some t → args[j]? = some v → Value.okWide C.prog W .any base t v) →
      DataW.Whole enc C.prog fn.params.toList s.vars apart W args.toList ds gs before →
      W.ShapedOpen C.prog → X W args →
      Calls C.prog f args W fun e W' => ∃ v, e = .returned v ∧ s.post enc C.prog fn apart fresh handsOn again W args v W') :
    ReturnsInHanded a C os f .any (fun w args => (s.pre enc C.prog fn conds apart w args ∧ X w args) ∧ sizedMet enc C.prog fn (OpenSpec.ofChange s) apart w args) (s.post enc C.prog fn apart fresh handsOn again) := by
  refine returnsInHanded_of_calls own started noInit witness ?_
  intro w tape i _ hsh _ hok hpre hholds
  obtain ⟨_, _, _, fn', hfn', _, _, _, _, hval⟩ := hok
  have e : fn' = fn := Option.some.inj (hfn'.symm.trans hfn)
  subst e
  obtain ⟨⟨⟨ds, gs, before, hw, hc⟩, hx⟩, hz⟩ := hpre
  have hw' := DataW.Whole.of_heap (w' := w.forCall tape i) (by rfl) hw
  refine (contract (w.forCall tape i) w.heap.size i.args ds gs before hval hw' hsh (hX _ _ _ (by rfl) hx)).mono fun e W' ⟨v, he, hp⟩ => ?_
  subst he
  exact ChangeSpec.post_blind hp
end Go
namespace Go.Proofs.YtelbefdoehlmhaaGreatDoor
open Go Go.ChangeShapes Go.WideShapes Go.ChangeAt Go.RowKit Go.A Go.Lib Go.Shelf
def wSt (m : Int) : ASt := fun b => if b = 3 then some (.fix ([m].map (AV.int .i64))) else vSt b
theorem wSt_fix {m : Int} {b : Nat} {r : Role} (h : wSt m b = some r) : ∃ l, r = .fix l := by
  unfold wSt at h
  split at h
  · injection h with h; exact ⟨_, h.symm⟩
  · exact stOf_fix h
end Go.Proofs.YtelbefdoehlmhaaGreatDoor
namespace Go.Proofs.YtelbefdoehlmhaaGreatDoor
open Go Go.ChangeShapes Go.WideShapes Go.ChangeAt Go.RowKit Go.A Go.Lib Go.Shelf
theorem strs_trod {H : Type} {enc : TypeId × Value → H} {P : Program} {w : World} {base : Nat} {spare : Nat → Bool} {held : Bool} {fuel : Nat} {t e : TypeId} {cs : List Value} {l : List (List UInt8)} {m : List MemPlace}
    (ht : P.underlying t = some (.slice e)) (he : P.underlying e = some .string) (hc : P.cellsOf e = 1) (hl : 0 < l.length)
    (hd : DataW.trod enc P w base spare held fuel t cs = some (.slice (l.map fun s => .lit (.string s)) [], m)) :
    ∃ R o cap, cs = [.slice (some ⟨R, o, none⟩) l.length cap] ∧ l.length ≤ cap ∧ ∀ j s, l[j]? = some s → w.cell? ⟨R, o + j, none⟩ = some (.string ⟨⟨s⟩⟩) := by
  rcases DataW.trod_slice ht hd with ⟨_, hx⟩ | ⟨a, len, cap, el, rs, k, rfl, hcs, hx, _, hlc, _, hel, helem, hsp, _⟩
  · cases hx
  have e0 := congrArg Prod.fst hx
  simp only [DataW.slice.injEq] at e0
  obtain ⟨eE, eR⟩ := e0
  have hlen : len = l.length := by
    have := congrArg List.length eE
    simp at this
    omega
  have hcell : ∀ i z, l[i]? = some z → w.cell? (a.add i) = some (.string ⟨⟨z⟩⟩) := by
    intro i z hiz
    have hi : i < l.length := (List.getElem?_eq_some_iff.1 hiz).1
    have h1 := helem i (by omega)
    rw [hc] at h1
    obtain ⟨b, hb⟩ : ∃ b, el[i]? = some b := ⟨el[i]'(by omega), List.getElem?_eq_getElem (by omega)⟩
    rw [hb] at h1
    obtain ⟨ce, hce, hte⟩ := Option.bind_eq_some_iff.1 h1
    obtain ⟨z', hz, hbz, _⟩ := DataW.trod_string he hte
    have hb1 : b.1 = .lit (.string z) := by
      have := congrArg (·[i]?) eE
      simp only [List.getElem?_map, hiz, hb, Option.map_some, Option.some.injEq] at this
      exact this.symm
    rw [hbz] at hb1
    simp only [DataW.lit.injEq, Lit.string.injEq] at hb1
    obtain ⟨_, _, hcc⟩ := World.cells?_some hce
    have := hcc 0 (by omega)
    rw [hz] at this
    simp only [Nat.mul_one] at this
    have e1 : (a.add i).add 0 = a.add i := by simp [Addr.add]
    rw [e1] at this
    rw [this, ← hb1]
    rfl
  obtain ⟨z0, hz0⟩ : ∃ z, l[0]? = some z := ⟨l[0], List.getElem?_eq_getElem hl⟩
  obtain ⟨R, o, sR⟩ := a
  obtain rfl : sR = none := by
    have h00 := hcell 0 z0 hz0
    have : (Addr.add ⟨R, o, sR⟩ 0) = ⟨R, o, sR⟩ := by simp [Addr.add]
    rw [this] at h00
    exact Go.Proofs.cell_spot h00
  exact ⟨R, o, cap, by rw [hcs, hlen], by omega, fun j s hj => by have := hcell j s hj; rwa [Addr.add_lit] at this⟩
theorem block_lt {w : World} {R o : Nat} {s : Option Nat} {v : Value} (h : w.cell? ⟨R, o, none⟩ = some v) : R < w.heap.size := by
  refine Nat.lt_of_not_le fun hge => ?_
  simp [World.cell?, Array.getElem?_eq_none hge] at h
theorem strs_row {σ : ASt} {w : World} {b : Nat} (hst : ∀ o, Still σ w b o) : ∀ (zs : List (List UInt8)) (o : Nat), (∀ j z, zs[j]? = some z → w.cell? ⟨b, o + j, none⟩ = some (.string ⟨⟨z⟩⟩)) → Row σ w b o 1 (zs.map AV.str)
  | [], o, _ => .nil _ _ _
  | z :: zs, o, h => .cons rfl (.cons (hst o) (h 0 z rfl) (.str z) (.nil _ _)) (strs_row hst zs (o + 1) fun j z' hj => by
      have := h (j + 1) z' (by simpa using hj)
      rwa [show o + (j + 1) = o + 1 + j by omega] at this)
theorem strss_row {σ : ASt} {w : World} {b : Nat} (hst : ∀ o, Still σ w b o) : ∀ (zs : List (List (List UInt8))) (o : Nat),
    (∀ j z, zs[j]? = some z → ∃ v, w.cell? ⟨b, o + j, none⟩ = some v ∧ Rep σ w (.sl .shr (z.map AV.str)) v) → Row σ w b o 1 (zs.map fun l => AV.sl .shr (l.map AV.str))
  | [], o, _ => .nil _ _ _
  | z :: zs, o, h => by
    obtain ⟨v, hv, hr⟩ := h 0 z rfl
    exact .cons rfl (.cons (hst o) hv hr (.nil _ _)) (strss_row hst zs (o + 1) fun j z' hj => by
      have := h (j + 1) z' (by simpa using hj)
      rwa [show o + (j + 1) = o + 1 + j by omega] at this)
theorem levels_role {σ : ASt} {W : World} (hfx : ∀ b r, σ b = some r → ∃ l, r = .fix l) (h : VarReads Tryz.prog W "tabular/parse.levels" (.slice (levelsL.map fun l => .slice (l.map fun s => .lit (.string s)) []) [])) :
    RoleOk σ W 0 (.fix [lvAV]) := by
  obtain ⟨g', t', cs, fuel, p, hg, hty, hvar, hd⟩ := h
  obtain rfl := Option.some.inj ((show Tryz.prog.globalNamed "tabular/parse.levels" = some 0 by kernel_rfl).symm.trans hg)
  obtain rfl := Option.some.inj ((show (Tryz.prog.globals[0]?).map (·.type) = some 98 by kernel_rfl).symm.trans hty)
  have ht : Tryz.prog.underlying 98 = some (.slice 100) := by kernel_rfl
  have ht2 : Tryz.prog.underlying 100 = some (.slice 9) := by kernel_rfl
  have he : Tryz.prog.underlying 9 = some .string := by kernel_rfl
  have hc : Tryz.prog.cellsOf 100 = 1 := by kernel_rfl
  have hc2 : Tryz.prog.cellsOf 9 = 1 := by kernel_rfl
  have hpos : ∀ (j : Nat) (z : List (List UInt8)), levelsL[j]? = some z → 0 < z.length := by
    intro j z hj
    match j, hj with
    | 0, hj | 1, hj | 2, hj | 3, hj | 4, hj => injection hj with hj; subst hj; decide
  rcases DataW.trod_slice ht hd with ⟨_, hx⟩ | ⟨a, len, cap, el, rs, k, rfl, hcs, hx, _, hlc, _, hel, helem, hsp, _⟩
  · cases hx
  have e0 := congrArg Prod.fst hx
  simp only [DataW.slice.injEq] at e0
  obtain ⟨eE, eR⟩ := e0
  have hlen : len = levelsL.length := by
    have := congrArg List.length eE
    simp at this
    omega
  have hcell : ∀ i z, levelsL[i]? = some z → ∃ v, W.cell? (a.add i) = some v ∧ Rep σ W (.sl .shr (z.map AV.str)) v := by
    intro i z hiz
    have hi : i < levelsL.length := (List.getElem?_eq_some_iff.1 hiz).1
    have h1 := helem i (by omega)
    rw [hc] at h1
    obtain ⟨b, hb⟩ : ∃ b, el[i]? = some b := ⟨el[i]'(by omega), List.getElem?_eq_getElem (by omega)⟩
    rw [hb] at h1
    obtain ⟨ce, hce, hte⟩ := Option.bind_eq_some_iff.1 h1
    have hb1 : b.1 = .slice (z.map fun s => .lit (.string s)) [] := by
      have := congrArg (·[i]?) eE
      simp only [List.getElem?_map, hiz, hb, Option.map_some, Option.some.injEq] at this
      exact this.symm
    obtain ⟨b1, b2⟩ := b
    dsimp only at hb1
    subst hb1
    obtain ⟨R, o, cap', rfl, hle, hcells⟩ := strs_trod ht2 he hc2 (hpos i z hiz) hte
    obtain ⟨_, _, hcc⟩ := World.cells?_some hce
    have := hcc 0 (by omega)
    simp only [Nat.mul_one] at this
    have e1 : (a.add i).add 0 = a.add i := by simp [Addr.add]
    rw [e1] at this
    obtain ⟨z0, hz0⟩ : ∃ z0, z[0]? = some z0 := ⟨z[0]'(hpos i z hiz), List.getElem?_eq_getElem (hpos i z hiz)⟩
    have hR := block_lt (s := none) (hcells 0 z0 hz0)
    exact ⟨_, this, .sl (sz := 1) (strs_row (fun o => still_fix hfx hR) z o hcells) (by simp) hle trivial hR⟩
  obtain ⟨R, o, sR⟩ := a
  obtain ⟨v0, h00, _⟩ := hcell 0 [[61], [60, 62], [60], [60, 61], [62], [62, 61]] rfl
  obtain rfl : sR = none := by
    have : (Addr.add ⟨R, o, sR⟩ 0) = ⟨R, o, sR⟩ := by simp [Addr.add]
    rw [this] at h00
    exact Go.Proofs.cell_spot h00
  have hR : R < W.heap.size := by
    have : (Addr.add ⟨R, o, none⟩ 0) = ⟨R, o, none⟩ := by simp [Addr.add]
    rw [this] at h00
    exact block_lt (s := none) h00
  have hrow := strss_row (fun o => still_fix hfx hR) levelsL o fun j z hj => by
    obtain ⟨v, hv, hr⟩ := hcell j z hj
    rw [Addr.add_lit] at hv
    exact ⟨v, hv, hr⟩
  unfold World.var? at hvar
  rw [hg, Option.bind_some] at hvar
  split at hvar
  · rename_i cs' T fr hheap
    injection hvar with hvar
    subst hvar
    have hcs2 : cs' = #[.slice (some ⟨R, o, none⟩) levelsL.length cap] := by
      rw [← hlen]
      exact Array.ext' (by simpa using hcs)
    subst hcs2
    have hlt : 0 < W.heap.size := (Array.getElem?_eq_some_iff.1 hheap).1
    have hce : W.cell? ⟨0, 0, none⟩ = some (.slice (some ⟨R, o, none⟩) levelsL.length cap) := by simp [World.cell?, hheap]
    have hrep : Rep σ W lvAV (.slice (some ⟨R, o, none⟩) levelsL.length cap) := .sl (sz := 1) hrow (by simp) (by omega) trivial hR
    exact ⟨.cons (still_fix hfx hlt) hce hrep (.nil _ _), _, T, fr, hheap, rfl⟩
  · cases hvar
def laidX : List (String × DataW Unit) := [("math/bits.deBruijn32tab", Rows.laid_math_bits_deBruijn32tab), ("math/bits.deBruijn64tab", Rows.laid_math_bits_deBruijn64tab), ("internal/strconv.uint64pow10", Rows.laid_internal_strconv_uint64pow10), ("unicode/utf8.acceptRanges", Rows.laid_unicode_utf8_acceptRanges), ("tabular/parse.levels", Rows.laid_tabular_parse_levels), ("unicode/utf8.first", Rows.laid_unicode_utf8_first)]
def xSt (m : Int) : ASt := fun b => if b = 0 then some (.fix [lvAV]) else wSt m b
theorem xSt_u8 (m : Int) : U8 (xSt m) := ⟨by simp [xSt, wSt, vSt, vPs, stOf], by simp [xSt, wSt, vSt, vPs, stOf]⟩
theorem xSt_tab (m : Int) : Tab (xSt m) := by simp [Tab, xSt, wSt, vSt, vPs, stOf]
theorem xSt_max (m : Int) : MaxL (xSt m) := ⟨m, by simp [xSt, wSt]⟩
theorem xSt_lv (m : Int) : LV (xSt m) := by simp [LV, xSt]
theorem xSt_fix {m : Int} {b : Nat} {r : Role} (h : xSt m b = some r) : ∃ l, r = .fix l := by
  unfold xSt at h
  split at h
  · injection h with h; exact ⟨_, h.symm⟩
  · exact wSt_fix h
theorem x_sim {W : World} (hsh : W.ShapedOpen Tryz.prog) (h : laidMetH Tryz.prog laidX W) : ∃ m, Sim (xSt m) W := by
  rw [MakeChecks.laidMetH_plain _ _ _ (by kernel_rfl)] at h
  have hp : VarReads Tryz.prog W "internal/strconv.uint64pow10" (Lib.tabData .u64 Lib.pow10Tab) := Lib.laidMet.reads h (.tail _ (.tail _ (.head _)))
  have h4 : VarReads Tryz.prog W "unicode/utf8.acceptRanges" acceptData := acc_eq ▸ Lib.laidMet.reads h (.tail _ (.tail _ (.tail _ (.head _))))
  have h5 : VarReads Tryz.prog W "tabular/parse.levels" (.slice (levelsL.map fun l => .slice (l.map fun s => .lit (.string s)) []) []) := Lib.laidMet.reads h (.tail _ (.tail _ (.tail _ (.tail _ (.head _)))))
  have h3 : VarReads Tryz.prog W "unicode/utf8.first" firstData := first_eq ▸ Lib.laidMet.reads h (.tail _ (.tail _ (.tail _ (.tail _ (.tail _ (.head _))))))
  obtain ⟨m, hm⟩ := Tryz.laysM155.s1_3 W hsh
  have hm : W.cell? ⟨3, 0, none⟩ = some (.int .i64 m) := hm
  obtain ⟨cs, hh, hsz, _⟩ := hsh.1 3 #[.int .i64 0] 3 (of_decide_eq_true (by kernel_rfl)) (by kernel_rfl)
  obtain ⟨r1, r2⟩ := u8_roles (σ := xSt m) h3 h4
  refine ⟨m, fun b r hb => ?_⟩
  have hb0 := hb
  unfold xSt at hb
  split at hb
  · rename_i hbb
    subst hbb
    injection hb with hb
    subst hb
    exact levels_role (fun _ _ => xSt_fix) h5
  unfold wSt at hb
  split at hb
  · rename_i hbb
    subst hbb
    injection hb with hb
    subst hb
    have hlt : 3 < W.heap.size := (Array.getElem?_eq_some_iff.1 hh).1
    refine ⟨At.mk' (ints_reps _) (fun j _ => ⟨hlt, .inr (.inl ⟨_, hb0⟩)⟩) (fun j v hj => ?_), cs, _, _, hh, hsz⟩
    match j, hj with
    | 0, hj => injection hj with hj; subst hj; exact hm
  · obtain ⟨l, hl, rfl⟩ := stOf_mem hb
    simp only [vPs, List.mem_cons, List.not_mem_nil, or_false, Prod.mk.injEq] at hl
    rcases hl with ⟨rfl, rfl⟩ | ⟨rfl, rfl⟩ | ⟨rfl, rfl⟩
    · exact r1 (xSt_u8 m).1
    · exact r2 (xSt_u8 m).2
    · exact pow_role (fun _ _ => xSt_fix) hp
theorem calls_x {m : Int} {f : FuncId} {args : List AV} {vs : List Value} {w : World} (h : ACalls Tryz.prog f args (xSt m) fun r σ' => r = .bool true ∧ σ' = xSt m) (hs : Sim (xSt m) w) (hr : Reps (xSt m) w args vs) :
    Calls Tryz.prog f ⟨vs⟩ w fun e w' => e = .returned (.bool true) ∧ Ext w w' :=
  (h w vs hs hr).mono fun e w' ⟨u, r, σ', he, ⟨hrt, hst⟩, hle, _, hrep⟩ => by
    subst hrt hst
    cases hrep
    refine ⟨he, Ext.of_below ⟨hle.os, hle.tape, hle.output, hle.size, fun k hk => ?_⟩⟩
    cases hn : xSt m k with
    | none => exact (hle.keep k hk hn).2
    | some r =>
      obtain ⟨l, rfl⟩ := xSt_fix hn
      exact (hle.fix k _ hk hn).2
end Go.Proofs.YtelbefdoehlmhaaGreatDoor
