/- mailcoachlaw10.HuffWords: no byte's word in the code of few bits begins another byte's, and each has from 5 to 30 bits.
   Conditions: none. -/
import Derived.Test.YtmkmefdajbdceaaPHOx12
import Derived.Test.YtmkmefdajbdceaaMHc
namespace Go.Proofs.Ytmkmefdajbdceaa.Pure
open Go.RowKit Go.Proofs.Ytmkmefdajbdceaa.PHO Go.Proofs.YtmkmefdajbdceaaW.PrintWords Go.Proofs.YtmkmefdajbdceaaW.PrintLast

theorem bytes_one (a : Int) (ha : 0 ≤ a ∧ a < 256) : Bytes [a] := fun x hx => by simp at hx; omega
theorem words_prefix (a b : Int) (ha : 0 ≤ a ∧ a < 256) (hb : 0 ≤ b ∧ b < 256) (h : (huff_enc [b]).take (huff_enc [a]).length = huff_enc [a]) : a = b := by
  obtain ⟨rest, hr⟩ : ∃ rest, huff_enc [b] = huff_enc [a] ++ rest := ⟨(huff_enc [b]).drop (huff_enc [a]).length, by have := List.take_append_drop (huff_enc [a]).length (huff_enc [b]); rw [h] at this; exact this.symm⟩
  have h1 := huff_go_enc [b] [] [] (bytes_one b hb)
  rw [List.append_nil, hr, huff_go_enc [a] rest [] (bytes_one a ha)] at h1
  have h2 : huff_go rest 0 0 true ([] ++ [a]) = some (0, 0, true, [b]) := h1
  obtain ⟨s, m, g1, g2, g3, g4, g5⟩ := huff_go_back rest (fun y hy => huff_enc_01 [b] y (by rw [hr]; exact List.mem_append_right _ hy)) 0 0 true ([] ++ [a]) huff_Inv.zero rfl _ _ _ _ h2
  simp at g2
  exact g2.1.symm
theorem str_one (a : Int) (ha : 0 ≤ a ∧ a < 256) : bytesOf (strOfNums [a]) = [a] := bytesOf_strOfNums [a] (bytes_one a ha)
theorem enc_one (a : Int) (ha : 0 ≤ a ∧ a < 256) : ∃ n : Nat, (huff_enc [a]).length = n ∧ 5 ≤ n ∧ n ≤ 30 := by
  have h1 := huff_enc_length [a] (bytes_one a ha)
  have h2 := huff_sum_bd [a] (bytes_one a ha)
  refine ⟨_, rfl, ?_, ?_⟩ <;> (simp only [List.length_cons, List.length_nil] at h2; omega)
theorem words_same (a b : Int) (ha : 0 ≤ a ∧ a < 256) (hb : 0 ≤ b ∧ b < 256) (n m k : Nat) (hn : (huff_enc [a]).length = n) (hm : (huff_enc [b]).length = m) (hk : k = min n m) : ((huff_enc [a]).take k = (huff_enc [b]).take k) ↔ a = b := by
  constructor
  · intro h
    rcases Nat.le_total n m with hle | hle
    · rw [Nat.min_eq_left hle] at hk
      subst hk
      rw [List.take_of_length_le (by omega)] at h
      exact words_prefix a b ha hb (by rw [hn]; exact h.symm)
    · rw [Nat.min_eq_right hle] at hk
      subst hk
      rw [List.take_of_length_le (l := huff_enc [b]) (by omega)] at h
      exact (words_prefix b a hb ha (by rw [hm]; exact h)).symm
  · rintro rfl
    rfl
theorem words_f (k : Nat) (a b n m : Int) (x y : List Int) (q : Nat) (c : Bool) (e1 : mailcoachlaw10_eight.f k (strOfNums [a]) = some n) (e2 : mailcoachlaw10_eight.f k (strOfNums [b]) = some m)
    (b1 : mailcoachlaw10_bits.f k (strOfNums [a]) n = some x) (b2 : mailcoachlaw10_bits.f k (strOfNums [b]) m = some y) (al : mailcoachlaw10_alive.f k = some true)
    (h1 : n ≥ 5) (h2 : n ≤ 30) (h3 : (x.length : Int) = n) (h4 : (y.length : Int) = m) (hq : mn n m = (q : Int)) (h5 : (q : Int) ≤ x.length) (h6 : (q : Int) ≤ y.length)
    (hs : mailcoachlaw01_SameBytes.f k (x.take q) (y.take q) = some c) (hc : c = (a == b)) : mailcoachlaw10_HuffWords.f k a b = some true := by
  have h0 : (0 : Int) ≤ q := by omega
  unfold mailcoachlaw10_HuffWords.f
  rw [Option.bind_some, Option.bind_some, e1, Option.bind_some, e2, Option.bind_some, b1, Option.bind_some, b2, Option.bind_some, al, Option.bind_some, if_pos rfl, if_pos h1, if_pos h2, if_pos h3, if_pos h4, hq, if_pos h0, if_pos h5, if_pos h6, Int.toNat_natCast, hs, Option.bind_some, hc]
  simp
theorem HuffWords : mailcoachlaw10_HuffWords.Pure := by
  intro a b wa wb
  have ha := wf_u8 wa
  have hb := wf_u8 wb
  obtain ⟨k, hk⟩ : ∃ k, 100 ≤ k := ⟨_, Nat.le_refl _⟩
  refine ⟨k, ?_⟩
  obtain ⟨n, hn1, hn2, hn3⟩ := enc_one a ha
  obtain ⟨m, hm1, hm2, hm3⟩ := enc_one b hb
  have sa : (strOfNums [a]).size ≤ 4000 := by rw [strOfNums_size]; simp
  have sb : (strOfNums [b]).size ≤ 4000 := by rw [strOfNums_size]; simp
  have e1 := eight_at (strOfNums [a]) sa k (by omega) n (by rw [str_one a ha]; exact hn1)
  have e2 := eight_at (strOfNums [b]) sb k (by omega) m (by rw [str_one b hb]; exact hm1)
  have b1 := bits_at (strOfNums [a]) sa k n (by rw [str_one a ha]; exact hn1) (by omega)
  have b2 := bits_at (strOfNums [b]) sb k m (by rw [str_one b hb]; exact hm1) (by omega)
  rw [str_one a ha] at b1
  rw [str_one b hb] at b2
  have al := alive10_at k (by omega)
  obtain ⟨q, hq⟩ : ∃ q : Nat, q = min n m := ⟨_, rfl⟩
  have hmn : mn (n : Int) m = (q : Int) := by unfold mn; omega
  have hs := words_same a b ha hb n m q hn1 hm1 hq
  have hsm := same_f ((huff_enc [a]).take q) ((huff_enc [b]).take q) (by rw [List.length_take]; omega) k (by rw [List.length_take]; omega)
  refine words_f k a b n m _ _ q _ e1 e2 b1 b2 al (by omega) (by omega) (by rw [hn1]) (by rw [hm1]) hmn (by rw [hn1]; omega) (by rw [hm1]; omega) hsm ?_
  by_cases hab : a = b
  · rw [decide_eq_true (hs.2 hab), beq_iff_eq.2 hab]
  · rw [decide_eq_false (fun h => hab (hs.1 h)), beq_eq_false_iff_ne.2 hab]
end Go.Proofs.Ytmkmefdajbdceaa.Pure
