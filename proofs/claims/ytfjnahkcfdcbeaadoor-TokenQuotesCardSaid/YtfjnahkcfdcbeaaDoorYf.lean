/- A text that is quoted is one Text. Plain. -/
import Derived.Test.YtfjnahkcfdcbeaaDoorYe
import Derived.Lib.Replace
namespace Go.A
open Go.Proofs Go.Lib
set_option maxRecDepth 100000
set_option linter.unusedSimpArgs false
set_option linter.unusedVariables false

def dbl (s : List UInt8) : List UInt8 := s.flatMap fun c => if c = 34 then [34, 34] else [c]
theorem dbl_nil : dbl [] = [] := rfl
theorem dbl_q (s : List UInt8) : dbl (34 :: s) = 34 :: 34 :: dbl s := by simp [dbl]
theorem dbl_o {c : UInt8} (h : c ≠ 34) (s : List UInt8) : dbl (c :: s) = c :: dbl s := by simp [dbl, h]
theorem dbl_app (u v : List UInt8) : dbl (u ++ v) = dbl u ++ dbl v := by simp [dbl]
theorem dbl_same : ∀ u : List UInt8, 34 ∉ u → dbl u = u
  | [], _ => rfl
  | c :: u, h => by
    simp only [List.mem_cons, not_or] at h
    rw [dbl_o (fun e => h.1 e.symm), dbl_same u h.2]
theorem rep_ne {c : UInt8} (hc : c ≠ 34) (new : List UInt8) : ∀ (k : Nat) (s : List UInt8), replaceK [34] new k (c :: s) = c :: replaceK [34] new k s
  | 0, s => rfl
  | k + 1, s => by
    have hp : ([34] : List UInt8).isPrefixOf (c :: s) = false := by
      simp [List.isPrefixOf]
      exact fun h => hc h.symm
    have hi : index (c :: s) [34] = if index s [34] == -1 then -1 else index s [34] + 1 := by
      rw [index, hp]
      simp
    unfold replaceK
    rw [hi]
    have hge := index_ge s [34]
    by_cases h : index s [34] = -1
    · have hb : (index s [34] == -1) = true := by rw [h]; rfl
      rw [if_pos hb, if_pos (by rfl), if_pos hb]
    · have hb : ¬ (index s [34] == -1) = true := by rw [beq_iff_eq]; exact h
      rw [if_neg hb, if_neg (by rw [beq_iff_eq]; omega), if_neg hb]
      have e : (index s [34] + 1).toNat = (index s [34]).toNat + 1 := by omega
      rw [e, List.take_succ_cons]
      simp only [List.length_cons, List.length_nil, List.cons_append]
      rw [show (index s [34]).toNat + 1 + (0 + 1) = ((index s [34]).toNat + (0 + 1)) + 1 by omega, List.drop_succ_cons]
theorem rep_eq (new : List UInt8) (k : Nat) (s : List UInt8) : replaceK [34] new (k + 1) (34 :: s) = new ++ replaceK [34] new k s := by
  have hi : index (34 :: s) [34] = 0 := by
    rw [index]
    simp [List.isPrefixOf]
  rw [replaceK, hi]
  simp
theorem rep_dbl : ∀ s : List UInt8, replaceK [34] [34, 34] (s.count 34) s = dbl s
  | [] => rfl
  | c :: s => by
    by_cases hc : c = 34
    · subst hc
      rw [List.count_cons_self, rep_eq, rep_dbl s, dbl_q]
      rfl
    · rw [List.count_cons_of_ne (by simpa using hc), rep_ne hc, rep_dbl s, dbl_o hc]
theorem replace_dbl (s : List UInt8) : replaceAll s [34] [34, 34] = dbl s := by
  unfold replaceAll replace replaceNum
  rw [if_neg (by decide), if_pos (.inl (by omega)), count_one, rep_dbl]
theorem dbl_len (s : List UInt8) : (dbl s).length ≤ 2 * s.length := by
  induction s with
  | nil => simp [dbl]
  | cons c s ih =>
    by_cases hc : c = 34
    · subst hc; rw [dbl_q]; simp; omega
    · rw [dbl_o hc]; simp; omega
/-- As far as the first quote. -/
theorem split_q : ∀ s : List UInt8, ∃ u v, s = u ++ v ∧ 34 ∉ u ∧ (v = [] ∨ ∃ v', v = 34 :: v')
  | [] => ⟨[], [], rfl, by simp, .inl rfl⟩
  | c :: s => by
    by_cases hc : c = 34
    · subst hc; exact ⟨[], 34 :: s, rfl, by simp, .inr ⟨s, rfl⟩⟩
    · obtain ⟨u, v, h1, h2, h3⟩ := split_q s
      refine ⟨c :: u, v, by rw [h1]; rfl, ?_, h3⟩
      simp only [List.mem_cons, not_or]
      exact ⟨fun e => hc e.symm, h2⟩
theorem stop_q {v : List UInt8} (h : v = [] ∨ ∃ v', v = 34 :: v') : Stop v := by
  intro c y e
  rcases h with rfl | ⟨v', rfl⟩
  · cases e
  · injection e with e1 _
    subst e1
    decide
theorem quoted_dbl : ∀ (n k : Nat) (s : List UInt8) (p : Nat) (acc : List UInt8), s.length ≤ n → (dbl s ++ [34]).length ≤ k →
    match sgP s with
    | some _ => quotedF k (dbl s ++ [34]) p acc = .tok 2 (acc ++ s) (p + (dbl s).length + 2)
    | none => ∃ j, quotedF k (dbl s ++ [34]) p acc = .bad j
  | n, 0, s, p, acc, _, h => by simp at h
  | n, k + 1, [], p, acc, _, _ => by
    rw [sgP_nil]
    simp only [dbl_nil, List.nil_append, List.append_nil, List.length_nil, Nat.add_zero]
    unfold quotedF
    rw [if_neg (by simp), dec_one 34 [] (by decide), if_neg (by decide), if_neg (by decide), if_neg (by simp)]
  | 0, _, _ :: _, _, _, h, _ => by simp at h
  | n + 1, k + 1, d :: s0, p, acc, hn, hk => by
    obtain ⟨s, hs⟩ : ∃ s, d :: s0 = s := ⟨_, rfl⟩
    rw [hs] at hn hk ⊢
    have hne : s ≠ [] := by rw [← hs]; simp
    have hw := decodeL_width s
    have hle := decodeL_le s hne
    by_cases hd : d = 34
    · subst hd
      have hdec : decodeL s = (34, 1) := by rw [← hs]; exact dec_one 34 s0 (by decide)
      have hdr : s.drop 1 = s0 := by rw [← hs]; rfl
      have hdb : dbl s ++ [34] = 34 :: 34 :: (dbl s0 ++ [34]) := by rw [← hs, dbl_q]; rfl
      have hl : s0.length ≤ n := by rw [← hs] at hn; simp at hn; exact hn
      have hdl : (dbl s).length = (dbl s0).length + 2 := by rw [← hs, dbl_q]; simp
      have ih := quoted_dbl n k s0 (p + 2) (acc ++ [34]) hl (by rw [hdb] at hk; simp at hk ⊢; omega)
      rw [sgP_step hne, hdec, if_neg (by decide), hdr, hdb]
      have hstep : quotedF (k + 1) (34 :: 34 :: (dbl s0 ++ [34])) p acc = quotedF k (dbl s0 ++ [34]) (p + 2) (acc ++ [34]) := by
        conv => lhs; unfold quotedF
        rw [if_neg (by simp), dec_one 34 _ (by decide), if_neg (by decide), if_neg (by decide), if_pos (by rfl)]
        rfl
      rw [hstep]
      cases hsg : sgP s0 with
      | none => rw [hsg] at ih; exact ih
      | some m =>
        rw [hsg] at ih
        simp only [Option.map_some]
        rw [ih, hdl, ← hs]
        simp
        omega
    · obtain ⟨u, v, huv, hu, hv⟩ := split_q s
      have hune : u ≠ [] := by
        rintro rfl
        rcases hv with rfl | ⟨v', rfl⟩
        · rw [huv] at hne; exact hne rfl
        · rw [← hs] at huv
          injection huv with h1 _
          exact hd h1
      have hdu : decodeL s = decodeL u := by rw [huv]; exact decode_local hune (stop_q hv)
      have hX : dbl s ++ [34] = u ++ (dbl v ++ [34]) := by rw [huv, dbl_app, dbl_same u hu, List.append_assoc]
      have hstop : Stop (dbl v ++ [34]) := by
        refine stop_q (.inr ?_)
        rcases hv with rfl | ⟨v', rfl⟩
        · exact ⟨[], rfl⟩
        · exact ⟨34 :: (dbl v' ++ [34]), by rw [dbl_q]; rfl⟩
      have hdX : decodeL (dbl s ++ [34]) = decodeL s := by rw [hX, hdu]; exact decode_local hune hstop
      have hule := decodeL_le u hune
      rw [← hdu] at hule
      have hXne : dbl s ++ [34] ≠ [] := by simp
      have h34 : (decodeL s).1 ≠ 34 := by
        intro h
        obtain ⟨c, t, h1, h2, _⟩ := dec_ascii hne (by omega)
        rw [← hs] at h1
        injection h1 with h1 _
        apply hd
        apply UInt8.toNat_inj.1
        rw [h1, h2, h]
        rfl
      have hsd : ∀ m, m ≤ u.length → s.drop m = u.drop m ++ v := fun m hm => by rw [huv]; exact List.drop_append_of_le_length hm
      have hXd : (dbl s ++ [34]).drop (decodeL s).2 = dbl (s.drop (decodeL s).2) ++ [34] := by
        rw [hX, hsd _ hule, dbl_app, dbl_same (u.drop _) (fun h => hu (List.mem_of_mem_drop h)), List.drop_append_of_le_length hule, List.append_assoc]
      have hstep : quotedF (k + 1) (dbl s ++ [34]) p acc = if decodeL s = (65533, 1) then .bad (1 + p) else quotedF k (dbl (s.drop (decodeL s).2) ++ [34]) (p + (decodeL s).2) (acc ++ s.take (decodeL s).2) := by
        conv => lhs; unfold quotedF
        rw [if_neg hXne, hdX]
        by_cases hbad : decodeL s = (65533, 1)
        · rw [if_pos hbad, if_pos hbad]
        · have henc := encode_decode s hne (by rintro ⟨h1, h2⟩; exact hbad (by rw [← h1, ← h2]))
          rw [if_neg hbad, if_neg hbad, if_pos h34, hXd, henc]
      have hlen : (dbl s).length = (decodeL s).2 + (dbl (s.drop (decodeL s).2)).length := by
        have h1 := congrArg List.length hXd
        rw [List.length_drop] at h1
        simp only [List.length_append, List.length_cons, List.length_nil] at h1
        have h2 := congrArg List.length hX
        simp only [List.length_append, List.length_cons, List.length_nil] at h2
        omega
      rw [sgP_step hne, hstep]
      by_cases hbad : decodeL s = (65533, 1)
      · rw [if_pos hbad, if_pos hbad]
        exact ⟨_, rfl⟩
      rw [if_neg hbad, if_neg hbad]
      have ih := quoted_dbl n k (s.drop (decodeL s).2) (p + (decodeL s).2) (acc ++ s.take (decodeL s).2) (by rw [List.length_drop]; omega) (by
        rw [← hXd, List.length_drop]
        omega)
      cases hsg : sgP (s.drop (decodeL s).2) with
      | none => rw [hsg] at ih; exact ih
      | some m =>
        rw [hsg] at ih
        simp only [Option.map_some]
        rw [ih, List.append_assoc, List.take_append_drop, hlen]
        congr 1
        omega
theorem quotes_law {s : List UInt8} (hs : s.length ≤ 400) :
    match sgP s with
    | some _ => ∃ E, lexP (34 :: dbl s ++ [34]) = ([⟨2, s, 0, 0⟩, E], 0, 0)
    | none => ∃ j, lexP (34 :: dbl s ++ [34]) = ([], j, 10) := by
  have hl := dbl_len s
  have hq : (34 :: dbl s ++ [34]) = 34 :: (dbl s ++ [34]) := rfl
  have hst : stepP (34 :: (dbl s ++ [34])) = quotedF (34 :: (dbl s ++ [34])).length (dbl s ++ [34]) 0 [] := by
    unfold stepP
    dsimp only
    rw [dec_one 34 _ (by decide)]
    rfl
  have law := quoted_dbl s.length (34 :: (dbl s ++ [34])).length s 0 [] (Nat.le_refl _) (by simp)
  rw [hq, lexP_rel (by simp; omega), relP_step (by simp), hst]
  cases hsg : sgP s with
  | none =>
    rw [hsg] at law
    obtain ⟨j, h⟩ := law
    rw [h]
    exact ⟨j, by simp [endOf]⟩
  | some m =>
    rw [hsg] at law
    have law : quotedF (34 :: (dbl s ++ [34])).length (dbl s ++ [34]) 0 [] = .tok 2 ([] ++ s) (0 + (dbl s).length + 2) := law
    rw [law]
    have hd : (34 :: (dbl s ++ [34])).drop (0 + (dbl s).length + 2) = [] := List.drop_eq_nil_of_le (by simp)
    dsimp only
    rw [hd, relP_nil]
    exact ⟨_, by simp [endOf, Rel.sh, Tok.sh]; rfl⟩
end Go.A
