/- The law VintFixed, walked. -/
import Derived.Test.YthkcifdjfoggeaaVintF
import Derived.Laws.IdiomStrings
set_option maxRecDepth 100000
set_option maxHeartbeats 400000
namespace Go.Vint
open Go.RowKit Go.BigFrame
theorem bytes_of {P : Program} {src dst e : TypeId} (hs : P.underlying src = some .string) (hd : P.underlying dst = some (.slice e)) (he : P.underlying e = some (.int .u8)) (w : World) (s : ByteArray) :
    ∃ cap w2, (convert src dst (.string s)).run P w = .ok (.slice (some ⟨w.heap.size, 0, none⟩) s.size cap) w2 ∧ CellsAt w2 w.heap.size s.data.toList ∧ Ext w w2 ∧ s.size ≤ cap := by
  refine ⟨_, _, run_bytes_of_string w src dst e s hs hd he, ⟨fun j c hj => ?_, fun j hj => ?_, ?_⟩, ((Ext.refl w).drew).alloc _, grownCap_ge _ _ _ _⟩
  · obtain ⟨hj, hc⟩ := List.getElem?_eq_some_iff.1 hj
    have hj2 : j < s.data.size := by simpa using hj
    have : w.heap.size = w.drew.heap.size := rfl
    rw [this, World.cell?_alloc_mark, bytesRow_at s _ j hj2, ← hc]
    rfl
  · have hj2 : j < s.data.size := by simpa using hj
    have hsz : s.data.size = s.size := rfl
    have h1 : (w.drew.alloc (.cells (bytesRow s (grownCap w s.size 0 e)) e ((bytesRow s (grownCap w s.size 0 e)).size, (bytesRow s (grownCap w s.size 0 e)).size + 1))).heap[w.heap.size]? = some (.cells (bytesRow s (grownCap w s.size 0 e)) e ((bytesRow s (grownCap w s.size 0 e)).size, (bytesRow s (grownCap w s.size 0 e)).size + 1)) := heap_alloc_new w.drew _
    have h2 : j < (bytesRow s (grownCap w s.size 0 e)).size := by simp [bytesRow]; omega
    have h3 : ∀ W : World, W.heap[w.heap.size]? = some (.cells (bytesRow s (grownCap w s.size 0 e)) e ((bytesRow s (grownCap w s.size 0 e)).size, (bytesRow s (grownCap w s.size 0 e)).size + 1)) → W.frozen? ⟨w.heap.size, j, none⟩ = false := by
      intro W hW
      unfold World.frozen?
      rw [hW]
      simp only [Bool.and_eq_false_iff, decide_eq_false_iff_not]
      omega
    exact h3 _ h1
  · simp
theorem putB_mid (LA r : List UInt8) (x0 x1 x2 x3 : UInt8) (u : Int) : putB (LA ++ (x0 :: x1 :: x2 :: x3 :: r)) LA.length u 4 = LA ++ (lowB u 4 ++ r) := by
  have h2 : u / 256 / 256 = u / 65536 := by omega
  have h3 : u / 65536 / 256 = u / 16777216 := by omega
  simp only [putB, lowB, h2, h3]
  simp [List.set_append_right]
theorem lowB_mod (v : Int) : lowB (v % 4294967296) 4 = lowB v 4 := by
  simp only [lowB]
  have e0 : v % 4294967296 % 256 = v % 256 := by omega
  have e1 : v % 4294967296 / 256 % 256 = v / 256 % 256 := by omega
  have e2 : v % 4294967296 / 256 / 256 % 256 = v / 256 / 256 % 256 := by omega
  have e3 : v % 4294967296 / 256 / 256 / 256 % 256 = v / 256 / 256 / 256 % 256 := by omega
  rw [e0, e1, e2, e3]
theorem lowB_eight (v : Int) : lowB v 8 = lowB v 4 ++ lowB (v / 4294967296) 4 := by
  have h : v / 256 / 256 / 256 / 256 = v / 4294967296 := by omega
  simp only [lowB, h, List.cons_append, List.nil_append]
theorem low4_sum (v : Int) : ((u8Of (v % 256)).toNat : Int) + 256 * (u8Of (v / 256 % 256)).toNat + 65536 * (u8Of (v / 256 / 256 % 256)).toNat + 16777216 * (u8Of (v / 256 / 256 / 256 % 256)).toNat = v % 4294967296 := by
  rw [u8Of_toNat (by omega) (by omega), u8Of_toNat (by omega) (by omega), u8Of_toNat (by omega) (by omega), u8Of_toNat (by omega) (by omega)]
  omega
theorem low4_get (LA R : List UInt8) (v : Int) {n : Nat} (hn : LA.length = n) : (LA ++ lowB v 4 ++ R)[n]? = some (u8Of (v % 256)) ∧ (LA ++ lowB v 4 ++ R)[n + 1]? = some (u8Of (v / 256 % 256)) ∧
    (LA ++ lowB v 4 ++ R)[n + 2]? = some (u8Of (v / 256 / 256 % 256)) ∧ (LA ++ lowB v 4 ++ R)[n + 3]? = some (u8Of (v / 256 / 256 / 256 % 256)) := by
  subst hn
  rw [List.append_assoc]
  generalize hx : v / 256 = x
  generalize hy : x / 256 = y
  generalize hz : y / 256 = z
  simp only [lowB, hx, hy, hz]
  refine ⟨?_, ?_, ?_, ?_⟩
  · rw [List.getElem?_append_right (by omega)]; simp
  · rw [List.getElem?_append_right (by omega), show LA.length + 1 - LA.length = 1 by omega]; rfl
  · rw [List.getElem?_append_right (by omega), show LA.length + 2 - LA.length = 2 by omega]; rfl
  · rw [List.getElem?_append_right (by omega), show LA.length + 3 - LA.length = 3 by omega]; rfl
theorem fixed4 (LA LC : List UInt8) (v : Int) : putB (LA ++ [49, 50, 51, 52, 53, 54, 55, 56] ++ LC) LA.length (v % 4294967296) 4 = LA ++ lowB v 4 ++ [53, 54, 55, 56] ++ LC := by
  rw [List.append_assoc]
  have := putB_mid LA ([53, 54, 55, 56] ++ LC) 49 50 51 52 (v % 4294967296)
  rw [lowB_mod] at this
  simpa using this
theorem fixed8 (LA LC : List UInt8) (v : Int) : putB (putB (LA ++ lowB v 4 ++ [53, 54, 55, 56] ++ LC) LA.length (v % 4294967296) 4) (LA.length + 4) (v / 4294967296) 4 = LA ++ lowB v 8 ++ LC := by
  have h1 := putB_mid LA ([53, 54, 55, 56] ++ LC) (u8Of (v % 256)) (u8Of (v / 256 % 256)) (u8Of (v / 256 / 256 % 256)) (u8Of (v / 256 / 256 / 256 % 256)) (v % 4294967296)
  have e1 : LA ++ lowB v 4 ++ [53, 54, 55, 56] ++ LC = LA ++ (u8Of (v % 256) :: u8Of (v / 256 % 256) :: u8Of (v / 256 / 256 % 256) :: u8Of (v / 256 / 256 / 256 % 256) :: ([53, 54, 55, 56] ++ LC)) := by simp [lowB]
  rw [e1, h1, lowB_mod]
  have h2 := putB_mid (LA ++ lowB v 4) LC 53 54 55 56 (v / 4294967296)
  rw [List.length_append, lowB_length] at h2
  rw [lowB_eight]
  simpa using h2
end Go.Vint
namespace Go.Proofs.Ythkcifdjfoggeaa
open Go.RowKit Go.BigFrame Go.Vint
theorem VintFixed_any (v : Int) (sa sb : ByteArray) (w : World) (h0 : 0 ≤ v) (hv : v ≤ 18446744073709551615) (ha : sa.size ≤ 9223372036854775807) (hb : sb.size ≤ 9223372036854775807) :
    Calls Try.prog 4 #[.int .u64 v, .string sa, .string sb] w fun e w' => e = .returned (.bool true) ∧ Ext w w' := by
  have has := cutS_size sa 20
  have hbs := cutS_size sb 20
  obtain ⟨a, hca⟩ : ∃ a, Hid (cutS sa 20 = a) := ⟨_, rfl⟩
  obtain ⟨c, hcc⟩ : ∃ c, Hid (cutS sb 20 = c) := ⟨_, rfl⟩
  rw [hca.out] at has
  rw [hcc.out] at hbs
  obtain ⟨cap, w2, hconv, hC, hE, hcap⟩ := bytes_of (P := Try.prog) Try.underlying9 Try.underlying23 Try.underlying5 w (a ++ ⟨#[49, 50, 51, 52, 53, 54, 55, 56]⟩ ++ c)
  have hS : (a ++ ⟨#[49, 50, 51, 52, 53, 54, 55, 56]⟩ ++ c).data.toList = a.data.toList ++ [49, 50, 51, 52, 53, 54, 55, 56] ++ c.data.toList := by simp
  have hSz : (a ++ ⟨#[49, 50, 51, 52, 53, 54, 55, 56]⟩ ++ c).size = a.size + 8 + c.size := by
    rw [← size_list, hS]; simp only [List.length_append, size_list, List.length_cons, List.length_nil]
  rw [hS] at hC
  obtain ⟨N, hN⟩ : ∃ N, (a ++ ⟨#[49, 50, 51, 52, 53, 54, 55, 56]⟩ ++ c).size = N := ⟨_, rfl⟩
  rw [hN] at hconv hSz hcap
  clear hN
  have hN1 : a.size + 8 ≤ N := by omega
  have hN2 : N ≤ 48 := by omega
  have HN := Lib.hid hSz; clear hSz
  have hcn : ¬ cap = a.size := by omega
  have HS := Lib.hid hS; clear hS
  have HC := Lib.hid hC; clear hC
  have hB : ∃ B, Hid (w.heap.size = B) := ⟨_, rfl⟩
  go_enter Try.func4, Try.ntmps4
  go_wp2_with fail
  refine (Cut_any sa 20 _ ha (by omega) (by omega)).mono ?_
  rw [show (20 : Int).toNat = 20 from rfl, hca.out]
  rintro e w1 ⟨rfl, rfl⟩
  go_wp2_with fail
  refine (Cut_any sb 20 _ hb (by omega) (by omega)).mono ?_
  rw [show (20 : Int).toNat = 20 from rfl, hcc.out]
  rintro e w1 ⟨rfl, rfl⟩
  go_wp2_with fail
  refine (PutU32_any w.heap.size a.size _ _ (v % 4294967296) _ w2 HC.out (by simp [size_list]) (by omega) (by omega) (by omega)).mono ?_
  rintro e w3 ⟨rfl, hC3, hO3⟩
  have hla : a.data.toList.length = a.size := size_list a
  have hf4 := fixed4 a.data.toList c.data.toList v
  rw [hla] at hf4
  rw [hf4] at hC3
  have hE3 : Ext w w3 := hO3.ext hE (Nat.le_refl _)
  obtain ⟨m4, hm4⟩ : ∃ m, Hid (bs (lowB v 4) = m) := ⟨_, rfl⟩
  have hm4s : m4.size ≤ 4 := by rw [← hm4.out, bs_size, lowB_length]; exact Nat.le_refl _
  have hback : ∀ x : Extra, (convert 23 9 (.slice (some ⟨w.heap.size, 0, none⟩) N cap)).run Try.prog (w3.more x) = .ok (.string (a ++ m4 ++ ⟨#[53, 54, 55, 56]⟩ ++ c)) (w3.more x) := fun x => by
    have h := run_convert_bytes_back (P := Try.prog) (w3.more x) 23 9 5 ⟨w.heap.size, 0, none⟩ cap (a.data.toList ++ lowB v 4 ++ [53, 54, 55, 56] ++ c.data.toList) Try.underlying23 Try.underlying5 Try.underlying9 (fun j hj => by
      rw [addr_add, Nat.zero_add]
      exact (hC3.ext ⟨x, rfl⟩).cell j _ (List.getElem?_eq_getElem hj))
    have hl : (a.data.toList ++ lowB v 4 ++ [53, 54, 55, 56] ++ c.data.toList).length = N := by
      rw [HN.out]; simp only [List.length_append, size_list, lowB_length, List.length_cons, List.length_nil]
    rw [hl] at h
    rw [h, ← hm4.out]
    have e : a ++ bs (lowB v 4) ++ ⟨#[53, 54, 55, 56]⟩ ++ c = bs (a.data.toList ++ lowB v 4 ++ [53, 54, 55, 56] ++ c.data.toList) := by
      conv => lhs; rw [← bs_of a, ← bs_of c, show (⟨#[53, 54, 55, 56]⟩ : ByteArray) = bs [53, 54, 55, 56] from rfl]
      simp only [bs_append]
    rw [e]; rfl
  have hg4 := low4_get a.data.toList ([53, 54, 55, 56] ++ c.data.toList) v hla
  rw [← List.append_assoc] at hg4
  have HU := Lib.hid (fun x : Extra => Calls.quiet_more (U32_eq w.heap.size a.size (N - a.size) (cap - a.size) _ _ _ _ _ (v % 4294967296) (w3.more x) (low4_sum v) (hC3.ext ⟨x, rfl⟩)
    hg4.1 hg4.2.1 hg4.2.2.1 hg4.2.2.2 (by omega)))
  have HLow : Hid (∀ x : Extra, Calls Try.prog 15 #[.int .u64 v, .int .i64 4] (w3.more x) fun e w'' => e = .returned (.string m4) ∧ ∃ y, w'' = w3.more y) := fun x => Calls.quiet_more (hm4.out ▸ Low_any v 4 (w3.more x) h0 hv (by omega))
  have HC3 := Lib.hid hC3; clear hC3
  have HBk := hback; clear hback
  go_wp2_with fail
  refine wp_region_more [0,1,2,3,4,5,6,7,8,9,10,11,12,13,14,15,16,17,18,19] (by kernel_rfl) (by kernel_rfl) ?_
  simp only [regPick, List.getElem?_cons_succ, List.getElem?_cons_zero]
  repeat go_big_quiet_step ((first | (go_at_call 16; with_reducible exact HU.out _) | (go_at_call 15; with_reducible exact HLow.out _)))
  refine wpQuiet_nil ?_
  intro y1
  go_wp2_with fail
  refine (PutU64_any w.heap.size a.size (N - a.size) (cap - a.size) v _ (w3.more y1) (HC3.out.ext ⟨y1, rfl⟩) (by simp only [List.length_append, size_list, lowB_length, List.length_cons, List.length_nil]; omega) (by omega) (by omega) h0 hv).mono ?_
  rintro e w5 ⟨rfl, hC5, hO5⟩
  have hf8 := fixed8 a.data.toList c.data.toList v
  rw [hla] at hf8
  rw [hf8] at hC5
  have hE5 : Ext w w5 := hO5.ext (hE3.more y1) (Nat.le_refl _)
  clear HBk HU HLow HC3 hO5 hf8 hg4 hf4
  obtain ⟨m8, hm8⟩ : ∃ m, Hid (bs (lowB v 8) = m) := ⟨_, rfl⟩
  have hm8s : m8.size ≤ 8 := by rw [← hm8.out, bs_size, lowB_length]; exact Nat.le_refl _
  have hback : ∀ x : Extra, (convert 23 9 (.slice (some ⟨w.heap.size, 0, none⟩) N cap)).run Try.prog (w5.more x) = .ok (.string (a ++ m8 ++ c)) (w5.more x) := fun x => by
    have h := run_convert_bytes_back (P := Try.prog) (w5.more x) 23 9 5 ⟨w.heap.size, 0, none⟩ cap (a.data.toList ++ lowB v 8 ++ c.data.toList) Try.underlying23 Try.underlying5 Try.underlying9 (fun j hj => by
      rw [addr_add, Nat.zero_add]
      exact (hC5.ext ⟨x, rfl⟩).cell j _ (List.getElem?_eq_getElem hj))
    have hl : (a.data.toList ++ lowB v 8 ++ c.data.toList).length = N := by
      rw [HN.out]; simp only [List.length_append, size_list, lowB_length]
    rw [hl] at h
    rw [h, ← hm8.out]
    have e : a ++ bs (lowB v 8) ++ c = bs (a.data.toList ++ lowB v 8 ++ c.data.toList) := by
      conv => lhs; rw [← bs_of a, ← bs_of c]
      simp only [bs_append]
    rw [e]; rfl
  have hg4 := low4_get a.data.toList (lowB (v / 4294967296) 4 ++ c.data.toList) v hla
  have hg8 := low4_get (a.data.toList ++ lowB v 4) c.data.toList (v / 4294967296) (n := a.size + 4) (by rw [List.length_append, hla, lowB_length])
  have hl8 : a.data.toList ++ lowB v 8 ++ c.data.toList = a.data.toList ++ lowB v 4 ++ (lowB (v / 4294967296) 4 ++ c.data.toList) := by rw [lowB_eight]; simp
  have hl8' : a.data.toList ++ lowB v 8 ++ c.data.toList = a.data.toList ++ lowB v 4 ++ lowB (v / 4294967296) 4 ++ c.data.toList := by rw [lowB_eight]; simp
  rw [← hl8] at hg4
  rw [← hl8'] at hg8
  have hval : v % 4294967296 + v / 4294967296 % 4294967296 * 4294967296 = v := by omega
  have HU : Hid (∀ x : Extra, Calls Try.prog 18 #[.slice (some ⟨w.heap.size, a.size, none⟩) (N - a.size) (cap - a.size)] (w5.more x) fun e w'' => e = .returned (.int .u64 v) ∧ ∃ y, w'' = w5.more y) := fun x => by
    have h := U64_any w.heap.size a.size (N - a.size) (cap - a.size) _ _ _ _ _ _ _ _ _ (v % 4294967296) (v / 4294967296 % 4294967296) (w5.more x) (low4_sum v) (low4_sum (v / 4294967296)) (hC5.ext ⟨x, rfl⟩)
      hg4.1 hg4.2.1 hg4.2.2.1 hg4.2.2.2 hg8.1 hg8.2.1 hg8.2.2.1 hg8.2.2.2 (by omega) (by omega)
    rw [hval] at h
    exact Calls.quiet_more h
  have HLow : Hid (∀ x : Extra, Calls Try.prog 15 #[.int .u64 v, .int .i64 8] (w5.more x) fun e w'' => e = .returned (.string m8) ∧ ∃ y, w'' = w5.more y) := fun x => Calls.quiet_more (hm8.out ▸ Low_any v 8 (w5.more x) h0 hv (by omega))
  have HAw : Hid (∀ x : Extra, Calls Try.prog 11 #[] (w5.more x) fun e w'' => e = .returned (.bool true) ∧ ∃ y, w'' = w5.more y) := fun x => Calls.quiet_more (awake_any (w5.more x))
  clear hval hl8 hl8' hg4 hg8 hC5
  go_wp2_with fail
  refine wp_region_more [0,1,2,3,4,5,6,7,8,9,10,11,12,13,14,15,16,17,18,19,20] (by kernel_rfl) (by kernel_rfl) ?_
  simp only [regPick, List.getElem?_cons_succ, List.getElem?_cons_zero]
  repeat go_big_quiet_step ((first | (go_at_call 18; with_reducible exact HU.out _) | (go_at_call 15; with_reducible exact HLow.out _) | (go_at_call 11; with_reducible exact HAw.out _)))
  refine wpQuiet_nil ?_
  intro y2
  go_wp2_with fail
  go_ret
  exact ⟨rfl, hE5.more y2⟩
end Go.Proofs.Ythkcifdjfoggeaa
