/- Plain: lists of spans; a span taken in; one list for one set of numbers. No program in sight. -/
import Derived.Handy
namespace Go.Vint
set_option linter.unusedSimpArgs false
set_option linter.unusedVariables false

/-- Spans that are not empty, that rise and do not touch. -/
def Norm : List (Int × Int) → Prop
  | [] => True
  | (a, b) :: r => a < b ∧ (∀ p ∈ r, b < p.1) ∧ Norm r
/-- A number lies in one of the spans. -/
def InS (L : List (Int × Int)) (x : Int) : Prop := ∃ p ∈ L, p.1 ≤ x ∧ x < p.2

theorem inS_cons (a b : Int) (r : List (Int × Int)) (x : Int) : InS ((a, b) :: r) x ↔ (a ≤ x ∧ x < b) ∨ InS r x := by
  simp [InS]
theorem inS_nil (x : Int) : ¬ InS [] x := by simp [InS]
theorem Norm.above {a b : Int} {r : List (Int × Int)} (h : Norm ((a, b) :: r)) {x : Int} (hx : InS r x) : b < x := by
  obtain ⟨p, hp, h1, h2⟩ := hx
  have := h.2.1 p hp
  omega
theorem norm_unique : ∀ {L M : List (Int × Int)}, Norm L → Norm M → (∀ x, InS L x ↔ InS M x) → L = M
  | [], [], _, _, _ => rfl
  | [], (c, d) :: s, _, hM, h => absurd ((h c).2 ((inS_cons c d s c).2 (.inl ⟨by omega, hM.1⟩))) (inS_nil c)
  | (a, b) :: r, [], hL, _, h => absurd ((h a).1 ((inS_cons a b r a).2 (.inl ⟨by omega, hL.1⟩))) (inS_nil a)
  | (a, b) :: r, (c, d) :: s, hL, hM, h => by
    have h1 := (inS_cons c d s a).1 ((h a).1 ((inS_cons a b r a).2 (.inl ⟨by omega, hL.1⟩)))
    have h2 := (inS_cons a b r c).1 ((h c).2 ((inS_cons c d s c).2 (.inl ⟨by omega, hM.1⟩)))
    have hab := hL.1
    have hcd := hM.1
    have e1 : a = c := by
      rcases h1 with h1 | h1 <;> rcases h2 with h2 | h2
      · omega
      · have := hL.above h2; omega
      · have := hM.above h1; omega
      · have := hL.above h2; have := hM.above h1; omega
    subst e1
    have e2 : b = d := by
      rcases Int.lt_trichotomy b d with hlt | he | hgt
      · have := (inS_cons a b r b).1 ((h b).2 ((inS_cons a d s b).2 (.inl ⟨by omega, hlt⟩)))
        rcases this with h3 | h3
        · omega
        · have := hL.above h3; omega
      · exact he
      · have := (inS_cons a d s d).1 ((h d).1 ((inS_cons a b r d).2 (.inl ⟨by omega, hgt⟩)))
        rcases this with h3 | h3
        · omega
        · have := hM.above h3; omega
    subst e2
    have e3 : r = s := norm_unique hL.2.2 hM.2.2 fun x => by
      constructor
      · intro hx
        have hb := hL.above hx
        rcases (inS_cons a b s x).1 ((h x).1 ((inS_cons a b r x).2 (.inr hx))) with h3 | h3
        · omega
        · exact h3
      · intro hx
        have hb := hM.above hx
        rcases (inS_cons a b r x).1 ((h x).2 ((inS_cons a b s x).2 (.inr hx))) with h3 | h3
        · omega
        · exact h3
    rw [e3]

/-- The span swallows what it meets. -/
def mergeW (f t : Int) : List (Int × Int) → List (Int × Int)
  | [] => [(f, t)]
  | (a, b) :: r => if a ≤ t then mergeW (min f a) (max t b) r else (f, t) :: (a, b) :: r
def withN (f t : Int) : List (Int × Int) → List (Int × Int)
  | [] => [(f, t)]
  | (a, b) :: r => if b < f then (a, b) :: withN f t r else mergeW f t ((a, b) :: r)
/-- A list with a span. -/
def withL (L : List (Int × Int)) (s : Int × Int) : List (Int × Int) := if s.1 < s.2 then withN s.1 s.2 L else L

theorem mergeW_norm : ∀ (L : List (Int × Int)) (f t q : Int), Norm L → f < t → q < f → (∀ p ∈ L, q < p.1) → Norm (mergeW f t L) ∧ ∀ p ∈ mergeW f t L, q < p.1
  | [], f, t, q, _, hft, hq, _ => by simp [mergeW, Norm]; omega
  | (a, b) :: r, f, t, q, hN, hft, hq, hlow => by
    have ha : q < a := hlow (a, b) (by simp)
    have hr : ∀ p ∈ r, q < p.1 := fun p hp => hlow p (by simp [hp])
    have hab := hN.1
    unfold mergeW
    split
    · exact mergeW_norm r _ _ q hN.2.2 (by omega) (by omega) hr
    · refine ⟨⟨hft, fun p hp => ?_, hN⟩, fun p hp => ?_⟩
      · rcases List.mem_cons.1 hp with rfl | hp
        · simp only; omega
        · have := hN.2.1 p hp; omega
      · rcases List.mem_cons.1 hp with rfl | hp
        · exact hq
        · exact hlow p hp
theorem mergeW_in : ∀ (L : List (Int × Int)) (f t x : Int), Norm L → f < t → (∀ p ∈ L, f ≤ p.2) → (InS (mergeW f t L) x ↔ (f ≤ x ∧ x < t) ∨ InS L x)
  | [], f, t, x, _, _, _ => by simp [mergeW, InS]
  | (a, b) :: r, f, t, x, hN, hft, hf => by
    have hab := hN.1
    have hfb : f ≤ b := hf (a, b) (by simp)
    have hr : ∀ p ∈ r, min f a ≤ p.2 := fun p hp => by have := hf p (by simp [hp]); omega
    unfold mergeW
    split
    · rw [mergeW_in r _ _ x hN.2.2 (by omega) hr, inS_cons]
      constructor
      · rintro (h | h)
        · by_cases h1 : f ≤ x ∧ x < t
          · exact .inl h1
          · exact .inr (.inl (by omega))
        · exact .inr (.inr h)
      · rintro (h | h | h)
        · exact .inl (by omega)
        · exact .inl (by omega)
        · exact .inr h
    · rw [inS_cons]
theorem withN_norm : ∀ (L : List (Int × Int)) (f t q : Int), Norm L → f < t → q < f → (∀ p ∈ L, q < p.1) → Norm (withN f t L) ∧ ∀ p ∈ withN f t L, q < p.1
  | [], f, t, q, _, hft, hq, _ => by simp [withN, Norm]; omega
  | (a, b) :: r, f, t, q, hN, hft, hq, hlow => by
    unfold withN
    split
    · rename_i hbf
      obtain ⟨h1, h2⟩ := withN_norm r f t b hN.2.2 hft hbf hN.2.1
      refine ⟨⟨hN.1, h2, h1⟩, fun p hp => ?_⟩
      rcases List.mem_cons.1 hp with rfl | hp
      · exact hlow (a, b) (by simp)
      · have := h2 p hp
        have := hlow (a, b) (by simp)
        have := hN.1
        simp only at *
        omega
    · exact mergeW_norm _ f t q hN hft hq hlow
theorem withN_in : ∀ (L : List (Int × Int)) (f t x : Int), Norm L → f < t → (InS (withN f t L) x ↔ (f ≤ x ∧ x < t) ∨ InS L x)
  | [], f, t, x, _, _ => by simp [withN, InS]
  | (a, b) :: r, f, t, x, hN, hft => by
    unfold withN
    split
    · rw [inS_cons, withN_in r f t x hN.2.2 hft, inS_cons]
      constructor
      · rintro (h | h | h)
        · exact .inr (.inl h)
        · exact .inl h
        · exact .inr (.inr h)
      · rintro (h | h | h)
        · exact .inr (.inl h)
        · exact .inl h
        · exact .inr (.inr h)
    · rename_i hbf
      refine mergeW_in _ f t x hN hft fun p hp => ?_
      rcases List.mem_cons.1 hp with rfl | hp
      · simp only; omega
      · have h1 := hN.2.1 p hp
        have h2 : p.1 < p.2 := norm_mem hN.2.2 hp
        omega
where
  norm_mem : ∀ {r : List (Int × Int)} {p : Int × Int}, Norm r → p ∈ r → p.1 < p.2
    | (a, b) :: r, p, h, hp => by
      rcases List.mem_cons.1 hp with rfl | hp
      · exact h.1
      · exact norm_mem h.2.2 hp
theorem withL_norm {L : List (Int × Int)} (s : Int × Int) (h : Norm L) (q : Int) (hq : ∀ p ∈ L, q < p.1) (hs : q < s.1) : Norm (withL L s) := by
  unfold withL
  split
  · rename_i hlt; exact (withN_norm L s.1 s.2 q h hlt hs hq).1
  · exact h
theorem withL_in {L : List (Int × Int)} (s : Int × Int) (h : Norm L) (x : Int) : InS (withL L s) x ↔ (s.1 ≤ x ∧ x < s.2) ∨ InS L x := by
  unfold withL
  split
  · rename_i hlt; exact withN_in L s.1 s.2 x h hlt
  · rename_i hlt
    constructor
    · exact .inr
    · rintro (h1 | h1)
      · omega
      · exact h1
/-- Every span is taken in. -/
def withAll (l : List (Int × Int)) : List (Int × Int) := l.foldl withL []

/-- Numbers of 64 bits. -/
def BdS (L : List (Int × Int)) : Prop := ∀ p ∈ L, (0 ≤ p.1 ∧ p.1 ≤ 18446744073709551615) ∧ (0 ≤ p.2 ∧ p.2 ≤ 18446744073709551615)
theorem BdS.tail {a : Int × Int} {r : List (Int × Int)} (h : BdS (a :: r)) : BdS r := fun p hp => h p (by simp [hp])
theorem BdS.drop {L : List (Int × Int)} (h : BdS L) (k : Nat) : BdS (L.drop k) := fun p hp => h p (List.mem_of_mem_drop hp)
theorem BdS.take {L : List (Int × Int)} (h : BdS L) (k : Nat) : BdS (L.take k) := fun p hp => h p (List.mem_of_mem_take hp)
theorem BdS.append {L M : List (Int × Int)} (h : BdS L) (k : BdS M) : BdS (L ++ M) := fun p hp => by
  rcases List.mem_append.1 hp with hp | hp
  · exact h p hp
  · exact k p hp
theorem mergeW_bd : ∀ (L : List (Int × Int)) (f t : Int), BdS L → BdS [(f, t)] → BdS (mergeW f t L)
  | [], f, t, _, h => h
  | (a, b) :: r, f, t, hL, h => by
    have h1 := h (f, t) (by simp)
    have h2 := hL (a, b) (by simp)
    simp only at h1 h2
    unfold mergeW
    split
    · refine mergeW_bd r _ _ hL.tail fun p hp => ?_
      simp at hp; subst hp; simp only; omega
    · exact BdS.append h hL
theorem withN_bd : ∀ (L : List (Int × Int)) (f t : Int), BdS L → BdS [(f, t)] → BdS (withN f t L)
  | [], f, t, _, h => h
  | (a, b) :: r, f, t, hL, h => by
    unfold withN
    split
    · exact BdS.append (L := [(a, b)]) (fun p hp => hL p (by simp at hp; simp [hp])) (withN_bd r f t hL.tail h)
    · exact mergeW_bd _ f t hL h
theorem withL_bd {L : List (Int × Int)} {s : Int × Int} (hL : BdS L) (h : BdS [s]) : BdS (withL L s) := by
  unfold withL
  split
  · exact withN_bd L s.1 s.2 hL h
  · exact hL
theorem mergeW_len : ∀ (L : List (Int × Int)) (f t : Int), (mergeW f t L).length ≤ L.length + 1
  | [], f, t => by simp [mergeW]
  | (a, b) :: r, f, t => by
    unfold mergeW
    split
    · have := mergeW_len r (min f a) (max t b); simp only [List.length_cons]; omega
    · simp
theorem withN_len : ∀ (L : List (Int × Int)) (f t : Int), (withN f t L).length ≤ L.length + 1
  | [], f, t => by simp [withN]
  | (a, b) :: r, f, t => by
    unfold withN
    split
    · have := withN_len r f t; simp only [List.length_cons]; omega
    · exact mergeW_len _ f t
theorem withL_len (L : List (Int × Int)) (s : Int × Int) : (withL L s).length ≤ L.length + 1 := by
  unfold withL
  split
  · exact withN_len L s.1 s.2
  · omega

theorem foldW {l : List (Int × Int)} (hl : BdS l) : ∀ (L : List (Int × Int)), Norm L → BdS L → Norm (l.foldl withL L) ∧ ∀ x, InS (l.foldl withL L) x ↔ InS l x ∨ InS L x := by
  induction l with
  | nil => intro L hN _; exact ⟨hN, fun x => by simp [InS]⟩
  | cons s r ih =>
    intro L hN hL
    have hs := hl s (by simp)
    have h1 := withL_norm s hN (-1) (fun p hp => by have := hL p hp; omega) (by omega)
    obtain ⟨h2, h3⟩ := ih hl.tail (withL L s) h1 (withL_bd hL fun p hp => by simp at hp; subst hp; exact hs)
    refine ⟨h2, fun x => ?_⟩
    rw [List.foldl_cons, h3 x, withL_in s hN x]
    have e : InS (s :: r) x ↔ (s.1 ≤ x ∧ x < s.2) ∨ InS r x := inS_cons s.1 s.2 r x
    rw [e]
    constructor
    · rintro (h | h | h)
      · exact .inl (.inr h)
      · exact .inl (.inl h)
      · exact .inr h
    · rintro ((h | h) | h)
      · exact .inr (.inl h)
      · exact .inl h
      · exact .inr (.inr h)
/-- In any order the same list: here, from behind. -/
theorem withAll_reverse {l : List (Int × Int)} (hl : BdS l) : withAll l.reverse = withAll l := by
  have hr : BdS l.reverse := fun p hp => hl p (by simpa using hp)
  obtain ⟨h1, h2⟩ := foldW hl [] trivial (fun p hp => by simp at hp)
  obtain ⟨h3, h4⟩ := foldW hr [] trivial (fun p hp => by simp at hp)
  refine norm_unique h3 h1 fun x => ?_
  unfold withAll
  rw [h4 x, h2 x]
  have : InS l.reverse x ↔ InS l x := by simp [InS]
  rw [this]

/-- How the walk sees it: those ahead are kept .. -/
theorem withN_take {f t : Int} : ∀ (i : Nat) (L : List (Int × Int)), (∀ p ∈ L.take i, p.2 < f) → withN f t L = L.take i ++ withN f t (L.drop i)
  | 0, L, _ => by simp
  | i + 1, [], _ => by simp
  | i + 1, (a, b) :: r, h => by
    have h1 := h (a, b) (by simp)
    simp only at h1
    rw [List.take_succ_cons, List.drop_succ_cons, withN, if_pos h1, withN_take i r fun p hp => h p (by simp [hp])]
    rfl
/-- .. the first that is not ahead begins what is swallowed .. -/
theorem withN_stop {f t : Int} {i : Nat} {L : List (Int × Int)} (h : ∀ p, L[i]? = some p → ¬ p.2 < f) : withN f t (L.drop i) = mergeW f t (L.drop i) := by
  cases hd : L.drop i with
  | nil => rfl
  | cons p r =>
    obtain ⟨a, b⟩ := p
    have hi : L[i]? = some (a, b) := by
      have := congrArg (fun l => l[0]?) hd
      simpa using this
    have := h _ hi
    rw [withN, if_neg this]
/-- .. one more is swallowed .. -/
theorem mergeW_step {f t : Int} {i : Nat} {L : List (Int × Int)} {p : Int × Int} (h : L[i]? = some p) (ht : p.1 ≤ t) : mergeW f t (L.drop i) = mergeW (min f p.1) (max t p.2) (L.drop (i + 1)) := by
  obtain ⟨hi, hp⟩ := List.getElem?_eq_some_iff.1 h
  obtain ⟨a, b⟩ := p
  rw [List.drop_eq_getElem_cons hi, hp, mergeW, if_pos ht]
/-- .. and the rest stays. -/
theorem mergeW_stop {f t : Int} {i : Nat} {L : List (Int × Int)} (h : ∀ p, L[i]? = some p → ¬ p.1 ≤ t) : mergeW f t (L.drop i) = (f, t) :: L.drop i := by
  cases hd : L.drop i with
  | nil => rfl
  | cons p r =>
    obtain ⟨a, b⟩ := p
    have hi : L[i]? = some (a, b) := by
      have := congrArg (fun l => l[0]?) hd
      simpa using this
    have := h _ hi
    rw [mergeW, if_neg this]
end Go.Vint
