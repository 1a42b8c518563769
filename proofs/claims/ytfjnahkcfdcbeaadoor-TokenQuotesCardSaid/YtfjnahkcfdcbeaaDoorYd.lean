/- What stands next hangs on what stands next. Plain. · The tokens of texts that stand one behind the other. Plain. · Places rise; blanks around a text. Plain. -/
import Derived.Test.YtfjnahkcfdcbeaaDoorYa
import Derived.Test.YtfjnahkcfdcbeaaDoorZk
namespace Go.A
open Go.Proofs Go.Lib
set_option maxRecDepth 100000
set_option linter.unusedSimpArgs false
set_option linter.unusedVariables false

def isBl (c : UInt8) : Prop := c = 32 ∨ c = 9 ∨ c = 10
/-- Nothing, or a blank first. -/
def BlH (x : List UInt8) : Prop := x = [] ∨ ∃ c y, x = c :: y ∧ isBl c
theorem BlH.stop {x : List UInt8} (h : BlH x) : Stop x := by
  intro c y e
  rcases h with rfl | ⟨d, z, rfl, hd⟩
  · cases e
  · injection e with e1 e2
    subst e1
    rcases hd with rfl | rfl | rfl <;> decide
theorem runL_local (p : UInt8 → Bool) {x : List UInt8} (hx : ∀ c y, x = c :: y → p c = false) : ∀ r : List UInt8, runL p (r ++ x) = runL p r
  | [] => by
    cases x with
    | nil => rfl
    | cons c y => simp only [List.nil_append, runL, hx c y rfl]; rfl
  | c :: r => by
    simp only [List.cons_append, runL, runL_local p hx r]
theorem word_bl {x : List UInt8} (h : BlH x) : ∀ c y, x = c :: y → wordB c = false := by
  intro c y e
  rcases h with rfl | ⟨d, z, rfl, hd⟩
  · cases e
  · injection e with e1 e2
    subst e1
    rcases hd with rfl | rfl | rfl <;> decide
theorem err_nobl : ∀ e ∈ errTexts, ∀ c ∈ e, ¬ (c = 32 ∨ c = 9 ∨ c = 10) := by decide
theorem great_bl {c : UInt8} (h : isBl c) : greatC c = c := by rcases h with rfl | rfl | rfl <;> decide
theorem failS_local {r x : List UInt8} (hx : BlH x) : ∀ es : List (List UInt8), (∀ e ∈ es, ∀ c ∈ e, ¬ (c = 32 ∨ c = 9 ∨ c = 10)) → failS (r ++ x) es = failS r es
  | [], _ => rfl
  | e :: es, he => by
    unfold failS
    have ih := failS_local (r := r) hx es fun e h => he e (by simp [h])
    rw [ih]
    by_cases hle : e.length ≤ r.length
    · rw [List.take_append_of_le_length hle]
      have : (e.length ≤ (r ++ x).length) = (e.length ≤ r.length) := propext ⟨fun _ => hle, fun _ => by simp; omega⟩
      simp only [this]
    · rw [if_neg, if_neg (fun h => hle h.1)]
      rintro ⟨h1, h2⟩
      rcases hx with rfl | ⟨c, y, rfl, hc⟩
      · simp at h1; omega
      · have hm : c ∈ (r ++ c :: y).take e.length := by
          rw [List.take_append]
          have : 0 < e.length - r.length := by omega
          obtain ⟨k, hk⟩ : ∃ k, e.length - r.length = k + 1 := ⟨e.length - r.length - 1, by omega⟩
          rw [hk, List.take_succ_cons]
          simp
        have h3 : greatC c ∈ e := by rw [← h2]; exact List.mem_map_of_mem hm
        rw [great_bl hc] at h3
        exact he e (by simp) c h3 hc
theorem twos_nobl : ∀ e ∈ twos, ∀ c ∈ e, ¬ (c = 32 ∨ c = 9 ∨ c = 10) := by decide
theorem twoS_local {r x : List UInt8} (hr : r ≠ []) (hx : BlH x) : ∀ es : List (List UInt8), (∀ e ∈ es, e.length = 2 ∧ ∀ c ∈ e, ¬ (c = 32 ∨ c = 9 ∨ c = 10)) → twoS (r ++ x) es = twoS r es
  | [], _ => rfl
  | e :: es, he => by
    unfold twoS
    have ih := twoS_local hr hx es fun e h => he e (by simp [h])
    rw [ih]
    obtain ⟨h2, hb⟩ := he e (by simp)
    have key : e.isPrefixOf (r ++ x) = e.isPrefixOf r := by
      match r, hr with
      | [a], _ =>
        match e, h2 with
        | [u, v], _ =>
          rcases hx with rfl | ⟨c, y, rfl, hc⟩
          · rfl
          · have hvc : (v == c) = false := by
              rw [beq_eq_false_iff_ne]
              rintro rfl
              exact hb v (by simp) hc
            simp [List.isPrefixOf, hvc]
      | a :: b :: t, _ =>
        match e, h2 with
        | [u, v], _ => simp [List.isPrefixOf]
    rw [key]
theorem quotedF_fuel : ∀ (k k' : Nat) (r : List UInt8) (p : Nat) (acc : List UInt8), r.length ≤ k → r.length ≤ k' → quotedF k r p acc = quotedF k' r p acc
  | 0, k', r, p, acc, h, _ => by
    have : r = [] := List.eq_nil_of_length_eq_zero (by omega)
    subst this
    rw [quotedF_nil, quotedF_nil]
  | k + 1, 0, r, p, acc, _, h => by
    have : r = [] := List.eq_nil_of_length_eq_zero (by omega)
    subst this
    rw [quotedF_nil, quotedF_nil]
  | k + 1, k' + 1, r, p, acc, h, h' => by
    by_cases hr : r = []
    · subst hr; rw [quotedF_nil, quotedF_nil]
    have hpos := List.length_pos_iff.2 hr
    have hw := decodeL_width r
    unfold quotedF
    rw [quotedF_fuel k k' (r.drop (decodeL r).2) _ _ (by rw [List.length_drop]; omega) (by rw [List.length_drop]; omega), quotedF_fuel k k' (r.drop 2) _ _ (by rw [List.length_drop]; omega) (by rw [List.length_drop]; omega)]
theorem dec_bl {c : UInt8} (h : isBl c) (y : List UInt8) : decodeL (c :: y) = (c.toNat, 1) := dec_one c y (by rcases h with rfl | rfl | rfl <;> decide)
/-- Blanks behind a quote that stays open. -/
theorem quotedF_bl : ∀ (k : Nat) (x : List UInt8) (p : Nat) (acc : List UInt8), (∀ c ∈ x, isBl c) → quotedF k x p acc = .bad 0
  | 0, _, _, _, _ => rfl
  | k + 1, [], p, acc, _ => quotedF_nil _ _ _
  | k + 1, c :: y, p, acc, h => by
    have hc := h c (by simp)
    unfold quotedF
    rw [if_neg (by simp), dec_bl hc]
    rw [if_neg (by rcases hc with rfl | rfl | rfl <;> decide), if_pos (by rcases hc with rfl | rfl | rfl <;> decide)]
    exact quotedF_bl k y _ _ fun d hd => h d (by simp at hd ⊢; exact .inr hd)
theorem quotedF_local {x : List UInt8} (hx : ∀ c ∈ x, isBl c) : ∀ (k : Nat) (r : List UInt8) (p : Nat) (acc : List UInt8), (r ++ x).length ≤ k → quotedF k (r ++ x) p acc = quotedF k r p acc
  | 0, r, p, acc, h => rfl
  | k + 1, r, p, acc, h => by
    have hbx : BlH x := by
      cases x with
      | nil => exact .inl rfl
      | cons c y => exact .inr ⟨c, y, rfl, hx c (by simp)⟩
    by_cases hr : r = []
    · subst hr
      rw [List.nil_append, quotedF_bl _ _ _ _ hx, quotedF_nil]
    have hpos := List.length_pos_iff.2 hr
    have hw := decodeL_width r
    have hle := decodeL_le r hr
    have hne : r ++ x ≠ [] := by simp [hr]
    have hd := decode_local hr hbx.stop
    have h1 : (r ++ x)[1]? = some 34 ↔ r[1]? = some 34 := by
      by_cases hl : 1 < r.length
      · rw [List.getElem?_append_left hl]
      · rw [List.getElem?_append_right (by omega), List.getElem?_eq_none (l := r) (by omega)]
        constructor
        · intro hh
          have hm := List.mem_of_getElem? hh
          rcases hx _ hm with h | h | h <;> cases h
        · intro hh; cases hh
    have i1 := quotedF_local hx k (r.drop (decodeL r).2) (p + (decodeL r).2) (acc ++ encodeRune ((decodeL r).1 : Int)) (by simp at h ⊢; omega)
    have i2 := quotedF_local hx k (r.drop 2) (p + 2) (acc ++ [34]) (by simp at h ⊢; omega)
    unfold quotedF
    rw [if_neg hne, if_neg hr, hd, List.drop_append_of_le_length hle, i1]
    split
    · rfl
    split
    · rfl
    by_cases h34 : r[1]? = some 34
    · rw [if_pos h34, if_pos (h1.2 h34)]
      have hl2 := (List.getElem?_eq_some_iff.1 h34).1
      rw [List.drop_append_of_le_length (by omega), i2]
    · rw [if_neg h34, if_neg (fun h => h34 (h1.1 h))]
/-- **What stands next hangs on nothing behind a blank**, but for a quote. -/
theorem stepP_local {r x : List UInt8} (hr : r ≠ []) (hx : BlH x) (hq : (34 ∉ r) ∨ ∀ c ∈ x, isBl c) : stepP (r ++ x) = stepP r := by
  have hd := decode_local hr hx.stop
  have hpos := List.length_pos_iff.2 hr
  have hasc := dec_ascii hr
  unfold stepP
  dsimp only
  rw [hd]
  split
  · rfl
  split
  · rfl
  split
  · unfold wordsS
    dsimp only
    have hrl := runL_le wordB r
    rw [runL_local wordB (word_bl hx), List.take_append_of_le_length hrl]
  split
  · rename_i h1 h2 h3 h34
    obtain ⟨d, t, hdt, hdc, _⟩ := hasc (by omega)
    have hd34 : d = 34 := by apply UInt8.toNat_inj.1; rw [hdc, h34]; rfl
    subst hd34
    rcases hq with hq | hq
    · exact absurd (by rw [hdt]; simp) hq
    · rw [List.drop_append_of_le_length (by omega), quotedF_local hq _ _ _ _ (by simp)]
      exact quotedF_fuel _ _ _ _ _ (by simp; omega) (by simp)
  split
  · exact failS_local hx errTexts err_nobl
  · unfold opS
    rw [twoS_local hr hx twos fun e he => ⟨twos_len e he, twos_nobl e he⟩]
    cases r with
    | nil => exact absurd rfl hr
    | cons c t => rfl
end Go.A
namespace Go.A
open Go.Proofs Go.Lib
set_option maxRecDepth 100000
set_option linter.unusedSimpArgs false
set_option linter.unusedVariables false

def Tok.sh (a c : Nat) (t : Tok) : Tok := ⟨t.kind, t.text, t.at' + a, t.col + c⟩
theorem Tok.sh_sh (a c a' c' : Nat) (t : Tok) : (t.sh a c).sh a' c' = t.sh (a + a') (c + c') := by simp [Tok.sh, Nat.add_assoc]
theorem Tok.sh_0 (t : Tok) : t.sh 0 0 = t := rfl
abbrev Rel := Nat ⊕ (List Tok × Nat)
def Rel.sh (a c : Nat) : Rel → Rel
  | .inl j => .inl (a + j)
  | .inr (ts, m) => .inr (ts.map (Tok.sh a c), c + m)
/-- A text's tokens, its end left out; its signs; or where none begins. -/
def rel : Nat → List UInt8 → Rel
  | 0, _ => .inl 0
  | k + 1, r =>
    if r = [] then .inr ([], 0)
    else match stepP r with
      | .bad j => .inl j
      | .blank => (rel k (r.drop 1)).sh 1 1
      | .tok kind t n => match (rel k (r.drop n)).sh n (signsN (r.take n)) with
        | .inl j => .inl j
        | .inr (ts, m) => .inr (⟨kind, t, 0, 0⟩ :: ts, m)
theorem rel_fuel : ∀ (k k' : Nat) (r : List UInt8), r.length < k → r.length < k' → rel k r = rel k' r
  | 0, _, r, h, _ => by omega
  | _ + 1, 0, r, _, h => by omega
  | k + 1, k' + 1, r, h, h' => by
    unfold rel
    by_cases hr : r = []
    · rw [if_pos hr, if_pos hr]
    rw [if_neg hr, if_neg hr]
    have hpos := List.length_pos_iff.2 hr
    have hf := (stepP_fits r hr).2
    cases hs : stepP r with
    | bad j => rfl
    | blank => dsimp only; rw [rel_fuel k k' (r.drop 1) (by rw [List.length_drop]; omega) (by rw [List.length_drop]; omega)]
    | tok kd t n =>
      obtain ⟨h1, h2⟩ := hf kd t n hs
      dsimp only
      rw [rel_fuel k k' (r.drop n) (by rw [List.length_drop]; omega) (by rw [List.length_drop]; omega)]
def relP (r : List UInt8) : Rel := rel (r.length + 1) r
theorem relP_nil : relP [] = .inr ([], 0) := rfl
theorem relP_step {r : List UInt8} (hr : r ≠ []) : relP r = match stepP r with
      | .bad j => .inl j
      | .blank => (relP (r.drop 1)).sh 1 1
      | .tok kind t n => match (relP (r.drop n)).sh n (signsN (r.take n)) with
        | .inl j => .inl j
        | .inr (ts, m) => .inr (⟨kind, t, 0, 0⟩ :: ts, m) := by
  have hpos := List.length_pos_iff.2 hr
  have hf := (stepP_fits r hr).2
  conv => lhs; unfold relP rel
  rw [if_neg hr]
  cases hs : stepP r with
  | bad j => rfl
  | blank => dsimp only; unfold relP; rw [rel_fuel _ ((r.drop 1).length + 1) (r.drop 1) (by rw [List.length_drop]; omega) (by omega)]
  | tok kd t n =>
    obtain ⟨h1, h2⟩ := hf kd t n hs
    dsimp only
    unfold relP
    rw [rel_fuel _ ((r.drop n).length + 1) (r.drop n) (by rw [List.length_drop]; omega) (by omega)]
def endOf (a c : Nat) (acc : List Tok) (L : Nat) : Rel → List Tok × Nat × Int
  | .inl j => ([], a + j, 10)
  | .inr (ts, m) => (acc ++ ts.map (Tok.sh a c) ++ [⟨0, [], a + L, c + m⟩], 0, 0)
theorem lexF_rel : ∀ (k : Nat) (r : List UInt8) (a c : Nat) (acc : List Tok), r.length < k → lexF k r a c acc = endOf a c acc r.length (relP r)
  | 0, r, a, c, acc, h => by omega
  | k + 1, r, a, c, acc, h => by
    unfold lexF
    by_cases hr : r = []
    · subst hr
      rw [if_pos rfl, relP_nil]
      simp [endOf]
    rw [if_neg hr, relP_step hr]
    have hpos := List.length_pos_iff.2 hr
    have hf := (stepP_fits r hr).2
    cases hs : stepP r with
    | bad j => rfl
    | blank =>
      dsimp only
      rw [lexF_rel k (r.drop 1) _ _ _ (by rw [List.length_drop]; omega), List.length_drop]
      cases relP (r.drop 1) with
      | inl j => simp only [Rel.sh, endOf]; rw [Nat.add_assoc]
      | inr x =>
        obtain ⟨ts, m⟩ := x
        simp only [Rel.sh, endOf, List.map_map]
        rw [show a + 1 + (r.length - 1) = a + r.length by omega, Nat.add_assoc c 1 m]
        congr 4
        funext t
        simp [Tok.sh, Nat.add_comm, Nat.add_left_comm, Function.comp]
    | tok kd t n =>
      obtain ⟨h1, h2⟩ := hf kd t n hs
      dsimp only
      rw [lexF_rel k (r.drop n) _ _ _ (by rw [List.length_drop]; omega), List.length_drop]
      cases relP (r.drop n) with
      | inl j => simp only [Rel.sh, endOf]; rw [Nat.add_assoc]
      | inr x =>
        obtain ⟨ts, m⟩ := x
        simp only [Rel.sh, endOf, List.map_map, List.map_cons, List.append_assoc, List.cons_append, List.nil_append]
        rw [show a + n + (r.length - n) = a + r.length by omega, Nat.add_assoc c _ m]
        have e : Tok.sh (a + n) (c + signsN (r.take n)) = Tok.sh a c ∘ Tok.sh n (signsN (r.take n)) := by
          funext t
          simp [Tok.sh, Nat.add_comm, Nat.add_left_comm, Function.comp]
        have e0 : Tok.sh a c ⟨kd, t, 0, 0⟩ = ⟨kd, t, a, c⟩ := by simp [Tok.sh]
        rw [e, e0]
theorem lexP_rel {s : List UInt8} (h : s.length ≤ 2000) : lexP s = endOf 0 0 [] s.length (relP s) := by
  unfold lexP
  rw [if_neg (by omega), lexF_rel _ _ _ _ _ (by omega)]
theorem Rel.sh_sh (a c a' c' : Nat) (x : Rel) : (x.sh a c).sh a' c' = x.sh (a' + a) (c' + c) := by
  cases x with
  | inl j => simp [Rel.sh, Nat.add_assoc]
  | inr x =>
    simp only [Rel.sh, List.map_map, Nat.add_assoc]
    congr 2
    congr 1
    funext t
    simp [Tok.sh, Nat.add_comm, Nat.add_left_comm, Function.comp]
def Rel.then (L : Nat) : Rel → Rel → Rel
  | .inl j, _ => .inl j
  | .inr (ts, m), y => match y.sh L m with
    | .inl j => .inl j
    | .inr (us, m') => .inr (ts ++ us, m')
theorem Rel.then_sh (L a c : Nat) (x y : Rel) : (x.then L y).sh a c = (x.sh a c).then (a + L) y := by
  cases x with
  | inl j => rfl
  | inr x =>
    obtain ⟨ts, m⟩ := x
    cases y with
    | inl j => simp [Rel.then, Rel.sh, Nat.add_assoc]
    | inr z =>
      obtain ⟨us, m'⟩ := z
      have e : Tok.sh (a + L) (c + m) = Tok.sh a c ∘ Tok.sh L m := by
        funext t
        simp [Tok.sh, Nat.add_comm, Nat.add_left_comm, Function.comp]
      simp [Rel.then, Rel.sh, Nat.add_assoc, e]
/-- **Texts one behind the other.** -/
theorem relP_app {x : List UInt8} (hx : BlH x) : ∀ (n : Nat) (r : List UInt8), r.length ≤ n → ((34 ∉ r) ∨ ∀ c ∈ x, isBl c) → relP (r ++ x) = (relP r).then r.length (relP x)
  | n, [], _, _ => by
    rw [relP_nil, List.nil_append]
    simp only [Rel.then, List.length_nil]
    cases relP x with
    | inl j => simp [Rel.sh]
    | inr y =>
      obtain ⟨us, m⟩ := y
      have : us.map (Tok.sh 0 0) = us := by
        rw [show Tok.sh 0 0 = id by funext t; rfl, List.map_id]
      simp [Rel.sh, this]
  | 0, _ :: _, h, _ => by simp at h
  | n + 1, d :: r, h, hq => by
    obtain ⟨R, hR⟩ : ∃ R, d :: r = R := ⟨_, rfl⟩
    rw [hR] at h hq ⊢
    have hne : R ≠ [] := by rw [← hR]; simp
    have hpos := List.length_pos_iff.2 hne
    have hf := (stepP_fits R hne).2
    rw [relP_step (by simp [hne] : R ++ x ≠ []), stepP_local hne hx hq, relP_step hne]
    have hq' : ∀ j, (34 ∉ R.drop j) ∨ ∀ c ∈ x, isBl c := fun j => hq.imp (fun h h' => h (List.mem_of_mem_drop h')) id
    cases hs : stepP R with
    | bad j => rfl
    | blank =>
      dsimp only
      rw [List.drop_append_of_le_length (by omega), relP_app hx n (R.drop 1) (by rw [List.length_drop]; omega) (hq' 1), Rel.then_sh, List.length_drop]
      rw [show 1 + (R.length - 1) = R.length by omega]
    | tok kd t m =>
      obtain ⟨h1, h2⟩ := hf kd t m hs
      dsimp only
      rw [List.drop_append_of_le_length h2, List.take_append_of_le_length h2, relP_app hx n (R.drop m) (by rw [List.length_drop]; omega) (hq' m), Rel.then_sh, List.length_drop]
      rw [show m + (R.length - m) = R.length by omega]
      cases (relP (R.drop m)).sh m (signsN (R.take m)) with
      | inl j => rfl
      | inr y =>
        obtain ⟨us, m'⟩ := y
        simp only [Rel.then]
        cases (relP x).sh R.length m' with
        | inl j => rfl
        | inr z => simp
theorem stepP_bl {c : UInt8} (h : isBl c) (y : List UInt8) : stepP (c :: y) = .blank := by
  unfold stepP
  dsimp only
  rw [dec_bl h]
  rcases h with rfl | rfl | rfl <;> rfl
theorem relP_bl {c : UInt8} (h : isBl c) (y : List UInt8) : relP (c :: y) = (relP y).sh 1 1 := by
  rw [relP_step (by simp), stepP_bl h]
  rfl
theorem relP_bls : ∀ (b y : List UInt8), (∀ c ∈ b, isBl c) → relP (b ++ y) = (relP y).sh b.length b.length
  | [], y, _ => by
    rw [List.nil_append]
    cases relP y with
    | inl j => simp [Rel.sh]
    | inr z =>
      obtain ⟨us, m⟩ := z
      have : us.map (Tok.sh 0 0) = us := by
        rw [show Tok.sh 0 0 = id by funext t; rfl, List.map_id]
      simp [Rel.sh, this]
  | c :: b, y, h => by
    rw [List.cons_append, relP_bl (h c (by simp)), relP_bls b y fun d hd => h d (by simp [hd]), Rel.sh_sh]
    simp [Nat.add_comm]
end Go.A
namespace Go.A
open Go.Proofs Go.Lib
set_option maxRecDepth 100000
set_option linter.unusedSimpArgs false
set_option linter.unusedVariables false

theorem signsN_pos {x : List UInt8} (h : x ≠ []) : 1 ≤ signsN x := by
  have hpos := List.length_pos_iff.2 h
  unfold signsN runeCount
  have e : (⟨⟨x⟩⟩ : ByteArray).size = x.length := rfl
  rw [e]
  obtain ⟨k, hk⟩ : ∃ k, x.length = k + 1 := ⟨x.length - 1, by omega⟩
  rw [hk]
  unfold runeCountFrom
  rw [if_pos (by rw [e]; omega)]
  omega
def Places (L : Nat) : Rel → Prop
  | .inl j => j < L
  | .inr (ts, m) => (ts.length ≤ m ∧ m ≤ L) ∧ (∀ t ∈ ts, t.col ≤ t.at' ∧ t.at' < L ∧ t.col < m) ∧ ts.Pairwise (fun t u => t.at' < u.at' ∧ t.col < u.col)
theorem Places.sh {L a c : Nat} {x : Rel} (h : Places L x) (hca : c ≤ a) : Places (a + L) (x.sh a c) := by
  cases x with
  | inl j => have : j < L := h; simp only [Rel.sh, Places]; omega
  | inr x =>
    obtain ⟨ts, m⟩ := x
    obtain ⟨h1, h2, h3⟩ := h
    refine ⟨⟨by simp; omega, by omega⟩, fun t ht => ?_, ?_⟩
    · obtain ⟨u, hu, rfl⟩ := List.mem_map.1 ht
      obtain ⟨g1, g2, g3⟩ := h2 u hu
      simp only [Tok.sh]
      omega
    · rw [List.pairwise_map]
      refine h3.imp fun h => ?_
      simp only [Tok.sh]
      omega
theorem rel_places : ∀ (n : Nat) (r : List UInt8), r.length ≤ n → Places r.length (relP r)
  | n, [], _ => by
    rw [relP_nil]
    exact ⟨⟨Nat.le_refl _, Nat.le_refl _⟩, fun t ht => (by cases ht), List.Pairwise.nil⟩
  | 0, _ :: _, h => by simp at h
  | n + 1, d :: r, h => by
    obtain ⟨R, hR⟩ : ∃ R, d :: r = R := ⟨_, rfl⟩
    rw [hR] at h ⊢
    have hne : R ≠ [] := by rw [← hR]; simp
    have hpos := List.length_pos_iff.2 hne
    obtain ⟨hf1, hf⟩ := stepP_fits R hne
    rw [relP_step hne]
    cases hs : stepP R with
    | bad j => exact hf1 j hs
    | blank =>
      have ih := (rel_places n (R.drop 1) (by rw [List.length_drop]; omega)).sh (Nat.le_refl 1)
      rw [List.length_drop, show 1 + (R.length - 1) = R.length by omega] at ih
      exact ih
    | tok kd t m =>
      obtain ⟨h1, h2⟩ := hf kd t m hs
      have hsl := signsN_le (R.take m)
      rw [List.length_take_of_le h2] at hsl
      have hsp := signsN_pos (x := R.take m) (by
        intro h
        have := congrArg List.length h
        rw [List.length_take_of_le h2] at this
        simp at this
        omega)
      have ih := (rel_places n (R.drop m) (by rw [List.length_drop]; omega)).sh hsl
      rw [List.length_drop, show m + (R.length - m) = R.length by omega] at ih
      obtain ⟨X, hX⟩ : ∃ X, relP (R.drop m) = X := ⟨_, rfl⟩
      dsimp only
      rw [hX] at ih ⊢
      cases X with
      | inl j => exact ih
      | inr x =>
        obtain ⟨us, k⟩ := x
        obtain ⟨g1, g2, g3⟩ := ih
        simp only [Rel.sh, Places] at g1 g2 g3 ⊢
        refine ⟨⟨?_, g1.2⟩, ?_, ?_⟩
        · have : us.length ≤ k := by
            have hx := rel_places n (R.drop m) (by rw [List.length_drop]; omega)
            rw [hX] at hx
            exact hx.1.1
          simp; omega
        · intro u hu
          rcases List.mem_cons.1 hu with rfl | hu
          · exact ⟨Nat.le_refl _, hpos, by show 0 < _; omega⟩
          · exact g2 u hu
        · refine List.Pairwise.cons ?_ g3
          intro u hu
          obtain ⟨v, hv, rfl⟩ := List.mem_map.1 hu
          simp only [Tok.sh]
          omega
/-- **Blanks around a text change nothing but places.** -/
theorem blanks_law {s b : List UInt8} (hs : s.length ≤ 300) (hb : ∀ c ∈ b, isBl c) (hbl : b.length ≤ 9) :
    (∃ j, j ≤ 300 ∧ lexP s = ([], j, 10) ∧ lexP (b ++ s ++ b) = ([], b.length + j, 10)) ∨
    (∃ ts E E', ts.length ≤ 300 ∧ (∀ t ∈ ts, t.col ≤ 300 ∧ t.at' ≤ 300) ∧ E.kind = 0 ∧ E'.kind = 0 ∧ E.text = [] ∧ E'.text = [] ∧ lexP s = (ts ++ [E], 0, 0) ∧ lexP (b ++ s ++ b) = (ts.map (Tok.sh b.length b.length) ++ [E'], 0, 0)) := by
  have hbx : BlH b := by
    cases b with
    | nil => exact .inl rfl
    | cons c y => exact .inr ⟨c, y, rfl, hb c (by simp)⟩
  have h0 := relP_bls b [] hb
  rw [List.append_nil, relP_nil] at h0
  have h1 : relP (b ++ s ++ b) = ((relP s).then s.length (relP b)).sh b.length b.length := by
    rw [List.append_assoc, relP_bls b _ hb, relP_app hbx _ s (Nat.le_refl _) (.inr hb)]
  have h2 := rel_places _ s (Nat.le_refl _)
  rw [lexP_rel (by omega), lexP_rel (by simp; omega), h1, h0]
  cases hr : relP s with
  | inl j =>
    rw [hr] at h2
    have h2 : j < s.length := h2
    refine .inl ⟨j, by omega, ?_, ?_⟩
    · simp [endOf]
    · simp [endOf, Rel.then, Rel.sh]
  | inr x =>
    obtain ⟨ts, m⟩ := x
    rw [hr] at h2
    obtain ⟨g1, g2, g3⟩ := h2
    have e0 : ts.map (Tok.sh 0 0) = ts := by
      rw [show Tok.sh 0 0 = id by funext t; rfl, List.map_id]
    refine .inr ⟨ts, ⟨0, [], s.length, m⟩, ⟨0, [], (b ++ s ++ b).length, b.length + (m + b.length)⟩, by omega, fun t ht => ?_, rfl, rfl, rfl, rfl, ?_, ?_⟩
    · have := g2 t ht; omega
    · simp [endOf, e0]
    · have e1 : (ts.map (Tok.sh b.length b.length)).map (Tok.sh 0 0) = ts.map (Tok.sh b.length b.length) := by
        rw [show Tok.sh 0 0 = id by funext t; rfl, List.map_id]
      simp only [endOf, Rel.then, Rel.sh, List.map_nil, List.append_nil, e1, List.nil_append, Nat.zero_add, Nat.add_zero]
end Go.A
