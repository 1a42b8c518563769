/- append, abstractly. -/
import Derived.Test.YtpedaofcndaooaaDoorBb
import Derived.Deep.Upon
namespace Go.A
set_option linter.unusedSimpArgs false
set_option linter.unusedVariables false
section
variable {P : Program} {σ : ASt} {w : World}

theorem Row.lens : ∀ {b o sz : Nat} {xs : List AV}, Row σ w b o sz xs → ∀ x ∈ xs, x.cells.length = sz
  | _, _, _, _, .nil .., x, h => by cases h
  | _, _, _, _, .cons h1 h2 h3, x, h => by
    rcases List.mem_cons.1 h with rfl | h
    · exact h1
    · exact h3.lens x h
theorem wellSz_lens {s : Nat} : ∀ {xs : List AV}, wellSz s xs = true → ∀ x ∈ xs, x.cells.length = s
  | [], _, x, h => by cases h
  | y :: ys, hw, x, h => by
    simp only [wellSz, Bool.and_eq_true, beq_iff_eq] at hw
    rcases List.mem_cons.1 h with rfl | h
    · exact hw.1.2
    · exact wellSz_lens hw.2 x h
theorem lens_flat {s : Nat} : ∀ {xs : List AV}, (∀ x ∈ xs, x.cells.length = s) → (xs.flatMap AV.cells).length = xs.length * s
  | [], _ => by simp
  | x :: xs, h => by
    simp only [List.flatMap_cons, List.length_append, List.length_cons, Nat.add_mul, h x (by simp), lens_flat (xs := xs) fun y hy => h y (by simp [hy])]
    omega
/-- The cells of a slice of known elements. -/
theorem sl_vals {k : SK} {xs : List AV} {A : Option Addr} {n c s : Nat} (h : Rep σ w (.sl k xs) (.slice A n c)) (hw : ∀ x ∈ xs, x.cells.length = s) :
    ∃ us, Reps σ w (xs.flatMap AV.cells) us ∧ us.length = n * s ∧ n = xs.length ∧ n ≤ c ∧ (xs = [] ∨ ∃ b o, A = some ⟨b, o, none⟩ ∧ ∀ (j : Nat) (v : Value), us[j]? = some v → w.cell? ⟨b, o + j, none⟩ = some v) := by
  cases h with
  | slE A c => exact ⟨[], .nil, by simp, rfl, by omega, .inl rfl⟩
  | slN => exact ⟨[], .nil, by simp, rfl, by omega, .inl rfl⟩
  | sl h1 h2 h3 h4 h5 =>
    obtain ⟨us, h6, h7⟩ := h1.flat.1.vals
    refine ⟨us, h6, ?_, h2, h3, .inr ⟨_, _, rfl, h7⟩⟩
    rw [← h6.length, lens_flat hw, h2]

theorem src_of {k : SK} {ys : List AV} {v : Value} {u e' : TypeId} {s : Nat} (hu : P.underlying u = some (.slice e')) (h : Rep σ w (.sl k ys) v) (hw : ∀ x ∈ ys, x.cells.length = s) (hl : leaves (ys.flatMap AV.cells) = true) :
    ∃ news, Src P s u v ys.length news w ∧ Reps σ w (ys.flatMap AV.cells) news := by
  cases hv : v with
  | slice A n c =>
    subst hv
    obtain ⟨us, h1, h2, rfl, h3, h4⟩ := sl_vals h hw
    refine ⟨us, ?_, h1⟩
    rcases h4 with rfl | ⟨b, o, rfl, h4⟩
    · have : us = [] := by cases h1; rfl
      subst this
      cases A with
      | none => exact Src.ofNil w hu c
      | some A => exact Src.ofSlice w hu A 0 c [] (by simp) (by simp) (by simp)
    · exact Src.ofSlice w hu _ _ c us h2 (fun j v hj => by rw [addr_add']; exact h4 j v hj) (leaves_one h1 hl)
  | _ => subst hv; cases h

theorem src_str {l : List UInt8} {u : TypeId} (hu : P.underlying u = some .string) : Src P 1 u (.string ⟨⟨l⟩⟩) l.length (l.map fun c => Value.int .u8 c.toNat) w :=
  Src.ofString w hu ⟨⟨l⟩⟩

theorem run_app {t u ty e : TypeId} {i : TypeInfo} {z : Value} (ht : P.underlying t = some (.slice e)) (hi : P.info? e = some i) (hz : i.zero = some z) (hpos : 0 < i.size) (hzs : z.cells.size = i.size)
    {k : SK} {xs ys : List AV} {xv yv : Value} {news : List Value} (hs : Sim σ w) (hx : Rep σ w (.sl k xs) xv) (hc : canApp σ k xs i.size) (hsrc : Src P i.size u yv ys.length news w) (hy : ∀ y ∈ ys, y.cells.length = i.size)
    (hr : Reps σ w (ys.flatMap AV.cells) news) (hb : (xs.length + ys.length) * i.bytes ≤ 140737488355328) (h63 : xs.length + ys.length ≤ 4611686018427387904) :
    ∃ v w' k' σ', (Builtin.append_ #[t, u] ty #[xv, yv]).run P w = .ok v w' ∧ App e σ k i.size xs.length ys.length k' σ' ∧ Le σ w σ' w' ∧ Sim σ' w' ∧ Rep σ' w' (.sl k' (xs ++ ys)) v := by
  have hxl : ∀ x ∈ xs, x.cells.length = i.size := by
    cases k with
    | full => exact wellSz_lens hc
    | shr => exact hc.elim
    | tok b s' T0 =>
      cases hx with
      | sl h1 h2 h3 h4 h5 =>
        obtain ⟨_, h6, _⟩ := h4
        obtain ⟨h7, _⟩ := hc
        intro x hx
        rw [← h7, h6]
        exact h1.lens x hx
  cases xv with
  | slice A n c =>
    obtain ⟨us, hus, hul, hn, hnc, hA⟩ := sl_vals hx hxl
    subst hn
    by_cases hm : ys.length = 0
    · have hys : ys = [] := List.eq_nil_of_length_eq_zero hm
      subst hys
      have hnews : news = [] := by cases hr; rfl
      subst hnews
      refine ⟨_, w, k, σ, run_append_nothing w t u ty e i ht hi A _ c hnc yv hsrc, .none rfl, Le.refl _ _, hs, by simpa using hx⟩
    · have grow : c < xs.length + ys.length → ∃ v w' k' σ', (Builtin.append_ #[t, u] ty #[.slice A xs.length c, yv]).run P w = .ok v w' ∧ App e σ k i.size xs.length ys.length k' σ' ∧ Le σ w σ' w' ∧ Sim σ' w' ∧ Rep σ' w' (.sl k' (xs ++ ys)) v := by
        intro hg
        have hold : (Builtin.firstCells i.size xs.length (.slice A xs.length c)).run P w.drew = .ok us.toArray w.drew := by
          rcases hA with rfl | ⟨b, o, rfl, h4⟩
          · have : us = [] := by cases hus; rfl
            subst this
            cases A with
            | none => exact run_firstCells_none w.drew _ _ _ _
            | some A => exact run_firstCells_some w.drew _ _ _ _ _ [] (by simp) (by simp)
          · exact run_firstCells_some w.drew _ _ _ _ _ us hul (fun j v hj => by rw [addr_add']; exact h4 j v hj)
        have hrun := run_append_grow_src (P := P) w t u ty e i z ht hi hz A xs.length c us hold yv ys.length news hsrc hg (by omega) (growslice_fits hg hb)
        have hp : Pushed w (w.drew.alloc (.cells ((us ++ news).toArray ++ Builtin.zeroCells z.cells (grownCap w (xs.length + ys.length) c e - (xs.length + ys.length))) e)) _ := Pushed.drew w _
        have hge := grownCap_ge w (xs.length + ys.length) c e
        have hfresh := hs.fresh (Nat.le_refl w.heap.size)
        have htl : (us ++ news).length = (xs.length + ys.length) * i.size := by rw [List.length_append, hul, hsrc.newsLen, Nat.add_mul]
        have hsize : ((us ++ news).toArray ++ Builtin.zeroCells z.cells (grownCap w (xs.length + ys.length) c e - (xs.length + ys.length))).size = grownCap w (xs.length + ys.length) c e * i.size := by
          rw [Array.size_append, size_zeroCells, hzs]
          simp only [List.size_toArray, htl, ← Nat.add_mul]
          congr 1; omega
        have hdrop : ∀ x, x ≠ w.heap.size → ((dropTok σ k).set w.heap.size (some (.tok ((xs.length + ys.length) * i.size)))) x = dropTok σ k x := fun x hx => ASt.set_ne hx
        have hle0 : Le σ w (dropTok σ k) w := by
          cases k with
          | shr => exact Le.refl _ _
          | full => exact Le.refl _ _
          | tok b s' T0 =>
            show Le σ w (σ.set b none) w
            refine ⟨rfl, rfl, rfl, Nat.le_refl _, fun x hx hn => ?_, fun x cs hx hn => ?_, fun x f hx hn => ?_⟩
            · by_cases hxb : x = b
              · subst hxb; exact ⟨ASt.set_same _ _ _, rfl⟩
              · rw [ASt.set_ne hxb]; exact ⟨hn, rfl⟩
            · by_cases hxb : x = b
              · subst hxb; exact ⟨.inl (ASt.set_same _ _ _), rfl⟩
              · rw [ASt.set_ne hxb]; exact ⟨.inr hn, rfl⟩
            · by_cases hxb : x = b
              · subst hxb; exact ⟨.inl (ASt.set_same _ _ _), rfl, fun _ _ => rfl⟩
              · rw [ASt.set_ne hxb]; exact ⟨.inr ⟨f, Nat.le_refl _, hn⟩, rfl, fun _ _ => rfl⟩
        have hs0 : Sim (dropTok σ k) w := by
          intro x q hxq
          have hxq' : σ x = some q := by
            cases k with
            | shr => exact hxq
            | full => exact hxq
            | tok b s' T0 =>
              by_cases hxb : x = b
              · subst hxb; simp only [dropTok, ASt.set_same] at hxq; cases hxq
              · simp only [dropTok, ASt.set_ne hxb] at hxq; exact hxq
          exact (hs x q hxq').keep hle0 rfl
        have hle1 : Le (dropTok σ k) w ((dropTok σ k).set w.heap.size (some (.tok ((xs.length + ys.length) * i.size)))) _ := hp.le fun b hb => hdrop b (by omega)
        have hle := hle0.trans hle1
        refine ⟨_, _, .tok w.heap.size i.size e, (dropTok σ k).set w.heap.size (some (.tok ((xs.length + ys.length) * i.size))), hrun, .grow w.heap.size hfresh ?_, hle, ?_, ?_⟩
        · rintro b' T' rfl hbb
          have := (hc.2)
          rw [← hbb, hfresh] at this
          cases this
        · intro x q hxq
          by_cases hne : x = w.heap.size
          · subst hne
            rw [ASt.set_same] at hxq
            injection hxq with hxq
            subst hxq
            refine ⟨_, _, _, hp.new, ?_, Nat.zero_le _⟩
            · rw [hsize]; exact Nat.mul_le_mul_right _ hge
          · rw [hdrop x hne] at hxq
            exact (hs0 x q hxq).keep hle1 (hp.old (hs0.lt hxq))
        · have hall : ∀ x ∈ xs ++ ys, x.cells.length = i.size := fun x hx => by
            rcases List.mem_append.1 hx with h | h
            · exact hxl x h
            · exact hy x h
          refine .sl (sz := i.size) (Row.unflat hall ?_) (by simp) hge ⟨rfl, rfl, rfl, ?_, fun cs hcs => ?_, fun l p hcs => ?_, fun T2 cs2 hcs2 => by rw [ASt.set_same] at hcs2; cases hcs2⟩ (by rw [hp.size]; omega)
          · rw [List.flatMap_append]
            refine At.mk' ((hus.append hr).mono hle) (fun j hj => ⟨by rw [hp.size]; omega, .inr (.inr ⟨_, ASt.set_same _ _ _, ?_⟩)⟩) (fun j v hj => ?_)
            · rw [htl] at hj; omega
            · simp only [World.cell?, hp.new, Nat.zero_add, Option.isSome_none, Bool.false_eq_true, if_false]
              rw [Array.getElem?_append_left (by simpa using (List.getElem?_eq_some_iff.1 hj).1)]
              simpa using hj
          · simp only [World.shape?, hp.new, Option.map_some, hsize]
          · rw [ASt.set_same] at hcs
            cases hcs
          · rw [ASt.set_same] at hcs
            cases hcs
      cases k with
      | shr => exact hc.elim
      | full =>
        refine grow ?_
        cases hx with
        | slN => simp; omega
        | sl h1 h2 h3 h4 h5 => have : c = xs.length := h4; omega
      | tok b s' T0 =>
        by_cases hroom : xs.length + ys.length ≤ c
        · cases hx with
          | sl h1 h2 h3 h4 h5 =>
            obtain ⟨rfl, h6, rfl, h7, h8⟩ := h4
            obtain ⟨rfl, hrole⟩ := hc
            subst h6
            obtain ⟨⟨cc⟩, T, fr, h9, h10, h11⟩ := hs b _ hrole
            obtain ⟨hTT, hcs⟩ : T = T0 ∧ cc.length = c * i.size := by
              simp only [World.shape?, h9, Option.map_some, Option.some.injEq] at h7
              simpa using h7
            subst hTT
            have hnl := hsrc.newsLen
            have hfit : xs.length * i.size + news.length ≤ cc.length := by
              rw [hnl, hcs, ← Nat.add_mul]; exact Nat.mul_le_mul_right _ hroom
            have hcell : ∀ j, j < news.length → (w.cell? ⟨b, 0 + xs.length * i.size + j, none⟩).isSome = true := fun j hj => by
              simp only [World.cell?, h9, Nat.zero_add, Option.isSome_none, Bool.false_eq_true, if_false]
              rw [Array.getElem?_eq_getElem (by simp; omega)]
              rfl
            have hrun := run_append_room_src (P := P) w t u ty e i ht hi b 0 xs.length c yv ys.length news hsrc hroom hcell
              (fun j hj => by
                simp only [World.frozen?, h9]
                rw [Bool.and_eq_false_iff]
                exact .inr (by simp only [decide_eq_false_iff_not]; omega))
            rw [Nat.zero_add] at hrun
            have hwr := Wrote.setCells news (xs.length * i.size) w cc h9 hfit
            have hle := hwr.le_tok hrole (f' := (xs.length + ys.length) * i.size) (Nat.mul_le_mul_right _ (by omega)) (fun o ho => by
              simp only [List.getElem?_toArray]
              rw [List.append_assoc, List.getElem?_append_left (by simp; omega), List.getElem?_take, if_pos ho])
            have hsim := hwr.sim hs hle ⟨_, _, _, hwr.new, by
              rw [hwr.len]
              simp only [List.size_toArray, hcs]
              exact Nat.mul_le_mul_right _ hroom, by
                rw [Nat.add_mul]; omega⟩
            refine ⟨_, _, .tok b i.size T, σ.set b (some (.tok ((xs.length + ys.length) * i.size))), hrun, .room b T rfl, hle, hsim, ?_⟩
            have hall : ∀ x ∈ xs ++ ys, x.cells.length = i.size := fun x hx => by
              rcases List.mem_append.1 hx with h | h
              · exact hxl x h
              · exact hy x h
            refine .sl (sz := i.size) (Row.unflat hall ?_) (by simp) hroom ⟨rfl, rfl, rfl, ?_, fun cs hcs' => ?_, fun l p hcs' => ?_, fun T2 cs2 hcs2 => by rw [ASt.set_same] at hcs2; cases hcs2⟩ (by rw [hwr.size]; exact h5)
            · rw [List.flatMap_append]
              refine At.mk' ((hus.append hr).mono hle) (fun j hj => ⟨by rw [hwr.size]; exact h5, .inr (.inr ⟨_, ASt.set_same _ _ _, ?_⟩)⟩) (fun j v hj => ?_)
              · rw [List.length_append, hul, hnl, ← Nat.add_mul] at hj; omega
              · simp only [World.cell?, hwr.new, Nat.zero_add, Option.isSome_none, Bool.false_eq_true, if_false, List.getElem?_toArray]
                by_cases hju : j < us.length
                · rw [List.getElem?_append_left hju] at hj
                  rw [List.append_assoc, List.getElem?_append_left (by simp; omega), List.getElem?_take, if_pos (by omega)]
                  rcases hA with rfl | ⟨b', o', hA', h12⟩
                  · have : us = [] := by simpa using hul
                    subst this
                    simp at hju
                  · injection hA' with hA'
                    injection hA' with hA1 hA2
                    subst hA1 hA2
                    have := h12 j v hj
                    simp only [World.cell?, h9, Nat.zero_add, Option.isSome_none, Bool.false_eq_true, if_false, List.getElem?_toArray] at this
                    exact this
                · rw [List.getElem?_append_right (by omega)] at hj
                  have hjn := (List.getElem?_eq_some_iff.1 hj).1
                  rw [List.getElem?_append_left (by simp; omega), List.getElem?_append_right (by simp; omega)]
                  rw [List.length_take, Nat.min_eq_left (by omega), ← hul]
                  exact hj
            · simp only [World.shape?, hwr.new, Option.map_some, hwr.len, List.size_toArray, hcs]
            · rw [ASt.set_same] at hcs'
              cases hcs'
            · rw [ASt.set_same] at hcs'
              cases hcs'
        · exact grow (by omega)
  | _ => cases hx

/-- An append to memory of one's own, where there is room. -/
theorem run_app_room {t u ty e : TypeId} {i : TypeInfo} (ht : P.underlying t = some (.slice e)) (hi : P.info? e = some i)
    {b o n c : Nat} {cs ys : List AV} {yv : Value} {news : List Value} (hs : Sim σ w) (hb : σ b = some (.obj cs)) (hsrc : Src P i.size u yv ys.length news w)
    (hr : Reps σ w (ys.flatMap AV.cells) news) (hroom : n + ys.length ≤ c) (hfit : o + (n + ys.length) * i.size ≤ cs.length) :
    ∃ v w', (Builtin.append_ #[t, u] ty #[.slice (some ⟨b, o, none⟩) n c, yv]).run P w = .ok v w' ∧
      Le σ w (σ.set b (some (.obj (splice cs (o + n * i.size) (ys.length * i.size) (ys.flatMap AV.cells))))) w' ∧ Sim (σ.set b (some (.obj (splice cs (o + n * i.size) (ys.length * i.size) (ys.flatMap AV.cells))))) w' ∧
      Rep (σ.set b (some (.obj (splice cs (o + n * i.size) (ys.length * i.size) (ys.flatMap AV.cells))))) w' (.msl b o (n + ys.length) c) v := by
  obtain ⟨⟨cc⟩, T, fr, h9, h10, h11⟩ := hs b _ hb
  have hnl := hsrc.newsLen
  have hyl : (ys.flatMap AV.cells).length = ys.length * i.size := by rw [hr.length, hnl]
  have hcl : cs.length ≤ cc.length := by have := h10.length; simp at this; omega
  have hmul : (n + ys.length) * i.size = n * i.size + ys.length * i.size := Nat.add_mul _ _ _
  have hcell : ∀ j, j < news.length → (w.cell? ⟨b, o + n * i.size + j, none⟩).isSome = true := fun j hj => by
    simp only [World.cell?, h9, Option.isSome_none, Bool.false_eq_true, if_false]
    rw [Array.getElem?_eq_getElem (by simp; omega)]
    rfl
  have hrun := run_append_room_src (P := P) w t u ty e i ht hi b o n c yv ys.length news hsrc hroom hcell
    (fun j hj => h11 _ (by simp; omega))
  have hwr := Wrote.setCells news (o + n * i.size) w cc h9 (by omega)
  have hle := hwr.le_obj hb (some (.obj (splice cs (o + n * i.size) (ys.length * i.size) (ys.flatMap AV.cells))))
  refine ⟨_, _, hrun, hle, hwr.sim hs hle ⟨_, _, _, hwr.new, ?_, fun j hj => ?_⟩, .msl _ _ _ _⟩
  · have := splice_take (off := o + n * i.size) (h10.mono hle) (hr.mono hle) (by omega)
    rw [hyl] at this
    exact this
  · rw [hwr.frozen]; exact h11 j (by have := hwr.len; omega)
/-- An append that makes a row of one's own. -/
theorem run_app_own {t u ty e : TypeId} {i : TypeInfo} {z : Value} {za : List AV} (ht : P.underlying t = some (.slice e)) (hi : P.info? e = some i) (hz : i.zero = some z) (hzs : z.cells.size = i.size)
    (hza : Reps σ w za z.cells.toList) {A : Option Addr} {n c : Nat} {ocs ys : List AV} {us : List Value} {yv : Value} {news : List Value} (hs : Sim σ w)
    (hold : (Builtin.firstCells i.size n (.slice A n c)).run P w.drew = .ok us.toArray w.drew) (hus : Reps σ w ocs us) (hul : us.length = n * i.size) (hsrc : Src P i.size u yv ys.length news w)
    (hr : Reps σ w (ys.flatMap AV.cells) news) (hg : c < n + ys.length) (hb : (n + ys.length) * i.bytes ≤ 140737488355328) (h63 : n + ys.length ≤ 4611686018427387904) :
    ∃ v w' c', (Builtin.append_ #[t, u] ty #[.slice A n c, yv]).run P w = .ok v w' ∧ n + ys.length ≤ c' ∧ σ w.heap.size = none ∧
      Le σ w (σ.set w.heap.size (some (.obj (ownRow i.size za (ocs ++ ys.flatMap AV.cells) (n + ys.length) c')))) w' ∧ Sim (σ.set w.heap.size (some (.obj (ownRow i.size za (ocs ++ ys.flatMap AV.cells) (n + ys.length) c')))) w' ∧
      Rep (σ.set w.heap.size (some (.obj (ownRow i.size za (ocs ++ ys.flatMap AV.cells) (n + ys.length) c')))) w' (.msl w.heap.size 0 (n + ys.length) c') v := by
  have hrun := run_append_grow_src (P := P) w t u ty e i z ht hi hz A n c us hold yv ys.length news hsrc hg (by omega) (growslice_fits hg hb)
  have hp : Pushed w (w.drew.alloc (.cells ((us ++ news).toArray ++ Builtin.zeroCells z.cells (grownCap w (n + ys.length) c e - (n + ys.length))) e)) _ := Pushed.drew w _
  have hge := grownCap_ge w (n + ys.length) c e
  generalize grownCap w (n + ys.length) c e = c' at *
  have hzl : za.length = i.size := by rw [hza.length, Array.length_toList, hzs]
  have hrep : Reps σ w (ownRow i.size za (ocs ++ ys.flatMap AV.cells) (n + ys.length) c') ((us ++ news) ++ (Builtin.zeroCells z.cells (c' - (n + ys.length))).toList) := by
    unfold ownRow
    refine (hus.append hr).append ?_
    have hzc : (Builtin.zeroCells z.cells (c' - (n + ys.length))).toList = (List.range ((c' - (n + ys.length)) * i.size)).map fun j => z.cells[j % z.cells.size]! := by
      unfold Builtin.zeroCells
      rw [Array.toList_map, Array.toList_range, hzs]
    rw [hzc]
    have key : ∀ l : List Nat, (l ≠ [] → 0 < i.size) → Reps σ w (l.map fun j => za.getD (j % i.size) .any) (l.map fun j => z.cells[j % z.cells.size]!) := by
      intro l
      induction l with
      | nil => exact fun _ => .nil
      | cons j l ih =>
        intro hne
        have hpos := hne (by simp)
        refine .cons ?_ (ih fun _ => hpos)
        have hlt : j % i.size < i.size := Nat.mod_lt _ hpos
        obtain ⟨v, hv, hvr⟩ := hza.get (i := j % i.size) (a := za[j % i.size]'(by omega)) (List.getElem?_eq_getElem _)
        have e1 : za.getD (j % i.size) .any = za[j % i.size]'(by omega) := by
          rw [List.getD_eq_getElem?_getD, List.getElem?_eq_getElem (by omega)]; rfl
        have e2 : z.cells[j % z.cells.size]! = v := by
          rw [hzs, getElem!_def]
          have : z.cells[j % i.size]? = some v := by simpa using hv
          rw [this]
        show Rep σ w (za.getD (j % i.size) .any) z.cells[j % z.cells.size]!
        rw [e1, e2]
        exact hvr
    refine key _ fun hne => ?_
    rcases Nat.eq_zero_or_pos i.size with h | h
    · rw [h] at hne; simp at hne
    · exact h
  obtain ⟨h1, h2, h3⟩ := new_role hp hs (r := .obj (ownRow i.size za (ocs ++ ys.flatMap AV.cells) (n + ys.length) c')) fun hle => ⟨_, _, _, hp.new, by
    have hm := hrep.mono hle
    have e : ((us ++ news).toArray ++ Builtin.zeroCells z.cells (c' - (n + ys.length))).toList = (us ++ news) ++ (Builtin.zeroCells z.cells (c' - (n + ys.length))).toList := by simp
    rw [e, hm.length, List.take_length]
    exact hm, fun o _ => by
    simp only [World.frozen?, hp.new]
    simp⟩
  exact ⟨_, _, c', hrun, hge, h3, h1, h2, .msl _ _ _ _⟩
end
end Go.A
