/- A text that has tokens is all signs, as many as they say. Plain. -/
import Derived.Test.YtfjnahkcfdcbeaaDoorYd
namespace Go.A
open Go.Proofs Go.Lib
set_option maxRecDepth 100000
set_option linter.unusedSimpArgs false
set_option linter.unusedVariables false

theorem sgF_fuel : ∀ (k k' : Nat) (r : List UInt8), r.length < k → r.length < k' → sgF k r = sgF k' r
  | 0, _, r, h, _ => by omega
  | _ + 1, 0, r, _, h => by omega
  | k + 1, k' + 1, r, h, h' => by
    unfold sgF
    by_cases hr : r = []
    · rw [if_pos hr, if_pos hr]
    have hpos := List.length_pos_iff.2 hr
    have hw := decodeL_width r
    rw [if_neg hr, if_neg hr, sgF_fuel k k' _ (by rw [List.length_drop]; omega) (by rw [List.length_drop]; omega)]
def sgP (r : List UInt8) : Option Nat := sgF (r.length + 1) r
theorem sgP_nil : sgP [] = some 0 := rfl
theorem sgP_step {r : List UInt8} (hr : r ≠ []) : sgP r = if decodeL r = (65533, 1) then none else (sgP (r.drop (decodeL r).2)).map (· + 1) := by
  have hpos := List.length_pos_iff.2 hr
  have hw := decodeL_width r
  conv => lhs; unfold sgP sgF
  unfold sgP
  rw [if_neg hr, sgF_fuel r.length ((r.drop (decodeL r).2).length + 1) _ (by rw [List.length_drop]; omega) (by omega)]
def cnt : Nat → List UInt8 → Nat
  | 0, _ => 0
  | k + 1, r => if r = [] then 0 else 1 + cnt k (r.drop (decodeL r).2)
theorem runeCount_cnt (l : List UInt8) : ∀ (k pos : Nat), runeCountFrom ⟨⟨l⟩⟩ k pos = cnt k (l.drop pos)
  | 0, _ => rfl
  | k + 1, pos => by
    unfold runeCountFrom cnt
    have e : (⟨⟨l⟩⟩ : ByteArray).size = l.length := rfl
    rw [e]
    by_cases h : pos < l.length
    · have hne : l.drop pos ≠ [] := by
        intro h2
        have := congrArg List.length h2
        simp at this
        omega
      have hd := decodeL_drop ⟨⟨l⟩⟩ pos
      have hd : decodeL (l.drop pos) = Utf8.decode ⟨⟨l⟩⟩ pos := hd
      rw [if_pos h, if_neg hne, runeCount_cnt l k, hd, List.drop_drop]
    · rw [if_neg h, if_pos (List.drop_eq_nil_of_le (by omega))]
theorem cnt_fuel : ∀ (k k' : Nat) (r : List UInt8), r.length ≤ k → r.length ≤ k' → cnt k r = cnt k' r
  | 0, k', r, h, _ => by
    have : r = [] := List.eq_nil_of_length_eq_zero (by omega)
    subst this
    cases k' <;> simp [cnt]
  | k + 1, 0, r, _, h => by
    have : r = [] := List.eq_nil_of_length_eq_zero (by omega)
    subst this
    simp [cnt]
  | k + 1, k' + 1, r, h, h' => by
    unfold cnt
    by_cases hr : r = []
    · rw [if_pos hr, if_pos hr]
    have hpos := List.length_pos_iff.2 hr
    have hw := decodeL_width r
    rw [if_neg hr, if_neg hr, cnt_fuel k k' _ (by rw [List.length_drop]; omega) (by rw [List.length_drop]; omega)]
theorem signsN_step {r : List UInt8} (hr : r ≠ []) : signsN r = 1 + signsN (r.drop (decodeL r).2) := by
  have hpos := List.length_pos_iff.2 hr
  have hw := decodeL_width r
  unfold signsN runeCount
  rw [runeCount_cnt, runeCount_cnt, List.drop_zero, List.drop_zero]
  have e1 : (⟨⟨r⟩⟩ : ByteArray).size = r.length := rfl
  have e2 : (⟨⟨r.drop (decodeL r).2⟩⟩ : ByteArray).size = (r.drop (decodeL r).2).length := rfl
  rw [e1, e2]
  obtain ⟨k, hk⟩ : ∃ k, r.length = k + 1 := ⟨r.length - 1, by omega⟩
  rw [hk, cnt, if_neg hr]
  rw [cnt_fuel k _ _ (by rw [List.length_drop]; omega) (Nat.le_refl _)]
/-- Whole signs, so many. -/
inductive Sg : List UInt8 → Nat → Prop
  | nil : Sg [] 0
  | cons {y z : List UInt8} {c n : Nat} : y ≠ [] → (∀ t, decodeL (y ++ t) = (c, y.length)) → (c, y.length) ≠ (65533, 1) → Sg z n → Sg (y ++ z) (n + 1)
theorem Sg.app {x : List UInt8} {n : Nat} (h : Sg x n) (t : List UInt8) : sgP (x ++ t) = (sgP t).map (· + n) ∧ signsN (x ++ t) = n + signsN t := by
  induction h with
  | nil => simp
  | cons h1 h2 h3 _ ih =>
    rename_i y z c n _
    obtain ⟨i1, i2⟩ := ih
    have hne : (y ++ z) ++ t ≠ [] := by simp [h1]
    have hd : decodeL ((y ++ z) ++ t) = (c, y.length) := by rw [List.append_assoc]; exact h2 _
    have hdr : ((y ++ z) ++ t).drop y.length = z ++ t := by rw [List.append_assoc, List.drop_left]
    rw [sgP_step hne, hd, if_neg h3, hdr, i1, signsN_step hne, hd, hdr, i2]
    refine ⟨?_, by omega⟩
    cases sgP t <;> simp [Nat.add_assoc]
theorem Sg.join {x z : List UInt8} {n m : Nat} (h : Sg x n) (k : Sg z m) : Sg (x ++ z) (n + m) := by
  induction h with
  | nil => simpa using k
  | cons h1 h2 h3 _ ih =>
    rw [List.append_assoc, Nat.add_right_comm]
    exact .cons h1 h2 h3 ih
theorem Sg.ascii : ∀ x : List UInt8, (∀ c ∈ x, c.toNat < 128) → Sg x x.length
  | [], _ => .nil
  | c :: x, h => by
    have hc := h c (by simp)
    exact .cons (y := [c]) (by simp) (fun t => dec_one c t hc) (by rw [ne_eq, Prod.mk.injEq]; omega) (Sg.ascii x fun d hd => h d (by simp [hd]))
theorem Sg.one {r : List UInt8} (hr : r ≠ []) (hv : decodeL r ≠ (65533, 1)) : Sg (r.take (decodeL r).2) 1 := by
  have hle := decodeL_le r hr
  have hw := decodeL_width r
  have hl : (r.take (decodeL r).2).length = (decodeL r).2 := List.length_take_of_le hle
  have := Sg.cons (y := r.take (decodeL r).2) (z := []) (c := (decodeL r).1) (n := 0) (by
    intro h
    rw [h] at hl
    simp at hl
    omega) (fun t => by rw [hl]; exact decode_whole hr rfl hv t) (by rw [hl]; exact hv) .nil
  simpa using this
theorem great_ascii (c : UInt8) : (greatC c).toNat < 128 → c.toNat < 128 := by
  have hall : (List.range 256).all (fun n => decide ((greatC (UInt8.ofNat n)).toNat < 128 → (UInt8.ofNat n).toNat < 128)) = true := by decide +kernel
  have := List.all_eq_true.1 hall c.toNat (List.mem_range.2 c.toNat_lt)
  simp only [UInt8.ofNat_toNat, decide_eq_true_eq] at this
  exact this
theorem err_ascii : ∀ e ∈ errTexts, ∀ c ∈ e, c.toNat < 128 := by decide
theorem twos_ascii : ∀ e ∈ twos, ∀ c ∈ e, c.toNat < 128 := by decide
theorem ops_ascii : ∀ c ∈ opChars, c.toNat < 128 := by decide
theorem failS_sg (r : List UInt8) : ∀ es : List (List UInt8), (∀ e ∈ es, ∀ c ∈ e, c.toNat < 128) → ∀ kd t n, failS r es = .tok kd t n → ∃ c, Sg (r.take n) c
  | [], _, kd, t, n, h => by simp [failS] at h
  | e :: es, he, kd, t, n, h => by
    unfold failS at h
    split at h
    · rename_i h1
      simp only [Step.tok.injEq] at h
      obtain ⟨_, _, rfl⟩ := h
      refine ⟨_, Sg.ascii _ fun c hc => great_ascii c (he e (by simp) _ ?_)⟩
      rw [← h1.2]
      exact List.mem_map_of_mem hc
    · exact failS_sg r es (fun e h => he e (by simp [h])) kd t n h
theorem quotedF_sg : ∀ (k : Nat) (r : List UInt8) (p : Nat) (acc : List UInt8) (kd : Int) (t : List UInt8) (n : Nat), quotedF k r p acc = .tok kd t n → ∃ j c, n = p + 1 + j ∧ j ≤ r.length ∧ Sg (r.take j) c
  | 0, r, p, acc, kd, t, n, h => by simp [quotedF] at h
  | k + 1, r, p, acc, kd, t, n, h => by
    by_cases hr : r = []
    · subst hr; rw [quotedF_nil] at h; cases h
    have hle := decodeL_le r hr
    have hpos := List.length_pos_iff.2 hr
    unfold quotedF at h
    rw [if_neg hr] at h
    split at h
    · cases h
    rename_i hv
    have h1 := Sg.one hr hv
    split at h
    · obtain ⟨j, c, e1, e2, e3⟩ := quotedF_sg k _ _ _ kd t n h
      rw [List.length_drop] at e2
      refine ⟨(decodeL r).2 + j, 1 + c, by omega, by omega, ?_⟩
      rw [List.take_add]
      exact h1.join e3
    rename_i h34
    obtain ⟨d, u, hdu, hdc, hw1⟩ := dec_ascii hr (by omega)
    rw [hw1] at h1
    split at h
    · rename_i h2
      have hl2 := (List.getElem?_eq_some_iff.1 h2).1
      obtain ⟨j, c, e1, e2, e3⟩ := quotedF_sg k _ _ _ kd t n h
      rw [List.length_drop] at e2
      refine ⟨2 + j, 2 + c, by omega, by omega, ?_⟩
      rw [List.take_add]
      refine Sg.join ?_ e3
      have ha : Sg (r.take 2) (r.take 2).length := Sg.ascii _ fun c hc => by
        match r, hl2, h2 with
        | a :: b :: v, _, h2 =>
          simp only [List.take_succ_cons, List.take_zero, List.mem_cons, List.not_mem_nil, or_false] at hc
          simp at h2
          injection hdu with hd1 _
          rcases hc with rfl | rfl
          · rw [hd1, hdc]; omega
          · rw [h2]; decide
      rwa [List.length_take_of_le (by omega)] at ha
    · simp only [Step.tok.injEq] at h
      obtain ⟨_, _, rfl⟩ := h
      exact ⟨1, 1, by omega, by omega, h1⟩
theorem runL_all2 (p : UInt8 → Bool) : ∀ l : List UInt8, ∀ c ∈ l.take (runL p l), p c = true
  | [], c, h => by simp [runL] at h
  | x :: l, c, h => by
    unfold runL at h
    split at h
    · rename_i hx
      rw [List.take_succ_cons, List.mem_cons] at h
      rcases h with rfl | h
      · exact hx
      · exact runL_all2 p l c h
    · simp at h
theorem stepP_sg {r : List UInt8} (hr : r ≠ []) {kd : Int} {t : List UInt8} {n : Nat} (h : stepP r = .tok kd t n) : ∃ c, Sg (r.take n) c := by
  have hpos := List.length_pos_iff.2 hr
  unfold stepP at h
  dsimp only at h
  split at h
  · cases h
  rename_i hv
  split at h
  · cases h
  split at h
  · have key : ∀ c ∈ r.take (runL wordB r), c.toNat < 128 := fun c hc => by
      have := runL_all2 wordB r c hc
      simp only [wordB, decide_eq_true_eq] at this
      omega
    unfold wordsS at h
    dsimp only at h
    split at h
    · simp only [Step.tok.injEq] at h; obtain ⟨_, _, rfl⟩ := h; exact ⟨_, Sg.ascii _ key⟩
    split at h
    · simp only [Step.tok.injEq] at h; obtain ⟨_, _, rfl⟩ := h; exact ⟨_, Sg.ascii _ key⟩
    split at h
    · simp only [Step.tok.injEq] at h; obtain ⟨_, _, rfl⟩ := h; exact ⟨_, Sg.ascii _ key⟩
    · cases h
  split at h
  · rename_i h34
    obtain ⟨d, u, hdu, hdc, hw1⟩ := dec_ascii hr (by omega)
    obtain ⟨j, c, e1, e2, e3⟩ := quotedF_sg _ _ _ _ kd t n h
    refine ⟨1 + c, ?_⟩
    have h1 := Sg.one hr hv
    rw [hw1] at h1
    rw [show n = 1 + j by omega, List.take_add]
    exact h1.join e3
  split at h
  · exact failS_sg r errTexts err_ascii kd t n h
  · unfold opS at h
    split at h
    · simp only [Step.tok.injEq] at h
      obtain ⟨_, _, rfl⟩ := h
      exact ⟨1, Sg.one hr hv⟩
    · split at h
      · rename_i e he
        simp only [Step.tok.injEq] at h
        obtain ⟨_, _, rfl⟩ := h
        obtain ⟨h1, h2⟩ := twoS_fits r _ _ he
        obtain ⟨v, rfl⟩ := List.isPrefixOf_iff_prefix.1 h2
        have hl := twos_len e h1
        refine ⟨_, Sg.ascii _ fun c hc => twos_ascii e h1 c ?_⟩
        rw [← hl, List.take_left] at hc
        exact hc
      · split at h
        · rename_i hm
          simp only [Step.tok.injEq] at h
          obtain ⟨_, _, rfl⟩ := h
          refine ⟨_, Sg.ascii _ fun c hc => ?_⟩
          cases r with
          | nil => exact absurd rfl hr
          | cons a v =>
            simp only [List.take_succ_cons, List.take_zero, List.mem_cons, List.not_mem_nil, or_false] at hc
            subst hc
            exact ops_ascii c hm
        · cases h
theorem rel_signs : ∀ (n : Nat) (r : List UInt8), r.length ≤ n → ∀ ts m, relP r = .inr (ts, m) → sgP r = some m
  | n, [], _, ts, m, h => by
    rw [relP_nil] at h
    injection h with h
    injection h with h1 h2
    subst h2
    rfl
  | 0, _ :: _, h, _, _, _ => by simp at h
  | n + 1, d :: r, hl, ts, m, h => by
    obtain ⟨R, hR⟩ : ∃ R, d :: r = R := ⟨_, rfl⟩
    rw [hR] at h hl ⊢
    have hne : R ≠ [] := by rw [← hR]; simp
    have hpos := List.length_pos_iff.2 hne
    have hf := (stepP_fits R hne).2
    rw [relP_step hne] at h
    have key : ∀ j c, 1 ≤ j → Sg (R.take j) c → ∀ us k, relP (R.drop j) = .inr (us, k) → sgP R = some (c + k) ∧ signsN (R.take j) = c := by
      intro j c hj hsg us k hk
      have h1 := (hsg.app (R.drop j)).1
      have h2 := (hsg.app []).2
      rw [List.take_append_drop] at h1
      rw [List.append_nil] at h2
      rw [h1, rel_signs n (R.drop j) (by rw [List.length_drop]; omega) us k hk]
      exact ⟨by simp [Nat.add_comm], h2⟩
    cases hs : stepP R with
    | bad j => rw [hs] at h; cases h
    | blank =>
      rw [hs] at h
      dsimp only at h
      cases hx : relP (R.drop 1) with
      | inl j => rw [hx] at h; cases h
      | inr y =>
        obtain ⟨us, k⟩ := y
        rw [hx] at h
        simp only [Rel.sh, Sum.inr.injEq, Prod.mk.injEq] at h
        have hsg : Sg (R.take 1) 1 := by
          have h0 := hs
          unfold stepP at h0
          dsimp only at h0
          have hv : decodeL R ≠ (65533, 1) := by intro hv; rw [if_pos hv] at h0; cases h0
          have hb : (decodeL R).1 < 128 := by
            rw [if_neg hv] at h0
            split at h0
            · omega
            split at h0
            · omega
            split at h0
            · omega
            split at h0
            · omega
            · unfold opS at h0
              split at h0
              · cases h0
              · split at h0
                · cases h0
                · split at h0 <;> cases h0
          obtain ⟨_, _, _, _, hw1⟩ := dec_ascii hne hb
          have := Sg.one hne hv
          rwa [hw1] at this
        obtain ⟨h1, _⟩ := key 1 1 (Nat.le_refl _) hsg us k hx
        rw [h1, h.2]
    | tok kd t j =>
      rw [hs] at h
      dsimp only at h
      obtain ⟨g1, g2⟩ := hf kd t j hs
      obtain ⟨c, hsg⟩ := stepP_sg hne hs
      cases hx : relP (R.drop j) with
      | inl j => rw [hx] at h; cases h
      | inr y =>
        obtain ⟨us, k⟩ := y
        obtain ⟨h1, h2⟩ := key j c g1 hsg us k hx
        rw [hx, h2] at h
        simp only [Rel.sh, Sum.inr.injEq, Prod.mk.injEq] at h
        rw [h1, h.2]
end Go.A
