/- mailcoachlaw10.HuffJoins: the bits of two texts (2000 bytes at most each, else nothing is claimed), one behind the other, are the bits of both, as huff.Put makes them and huff.Len tells their number.
   Conditions: none. -/
import Derived.Test.YtmkmefdajbdceaaPHOx11
import Derived.Test.YtmkmefdajbdceaaMHc
namespace Go.Proofs.Ytmkmefdajbdceaa.Pure
open Go.RowKit Go.Proofs.Ytmkmefdajbdceaa.PHO Go.Proofs.YtmkmefdajbdceaaW.PrintWords Go.Proofs.YtmkmefdajbdceaaW.PrintLast

theorem head_HuffJoins (s t : ByteArray) (k : Nat) (hk : 50 ≤ k) : mailcoachlaw10_HuffJoins.f k s t = if (s.size : Int) > 2000 then mailcoachlaw10_HuffJoins.j0 k s t true else mailcoachlaw10_HuffJoins.j0 k s t (decide ((t.size : Int) > 2000)) := by
  have ha := alive10_at k (by omega)
  unfold mailcoachlaw10_HuffJoins.f
  rw [ha]
  simp only [Option.bind_some, if_true]
theorem HuffJoins : mailcoachlaw10_HuffJoins.Pure := by
  intro s t hs ht
  obtain ⟨k, hk⟩ : ∃ k, 300000 ≤ k := ⟨_, Nat.le_refl _⟩
  refine ⟨k + 1, ?_⟩
  rw [head_HuffJoins s t (k + 1) (by omega)]
  have far : mailcoachlaw10_HuffJoins.j0 (k + 1) s t true = some true := by
    simp only [mailcoachlaw10_HuffJoins.j0, if_true]
    rw [alive10_at k (by omega)]
    rfl
  by_cases h1 : (s.size : Int) > 2000
  · rw [if_pos h1]; exact far
  · rw [if_neg h1]
    by_cases h2 : (t.size : Int) > 2000
    · rw [decide_eq_true h2]; exact far
    · rw [decide_eq_false h2]
      obtain ⟨n, hn1, hn2⟩ := enc_nat s (by omega)
      obtain ⟨m, hm1, hm2⟩ := enc_nat t (by omega)
      have hst : bytesOf (s ++ t) = bytesOf s ++ bytesOf t := bytesOf_append s t
      have hsz : (s ++ t).size = s.size + t.size := ByteArray.size_append
      have henc : huff_enc (bytesOf (s ++ t)) = huff_enc (bytesOf s) ++ huff_enc (bytesOf t) := by rw [hst, huff_enc_append]
      have w1 : wrap64 ((n : Int) + m) = ((n + m : Nat) : Int) := by unfold wrap64; omega
      simp only [mailcoachlaw10_HuffJoins.j0]
      rw [if_neg (by simp)]
      rw [eight_at s (by omega) k (by omega) n hn1, eight_at t (by omega) k (by omega) m hm1]
      simp only [Option.bind_some]
      rw [if_pos (by omega), w1]
      have h3 : (huff_enc (bytesOf (s ++ t))).length = n + m := by rw [henc, List.length_append, hn1, hm1]
      rw [bits_at (s ++ t) (by omega) k (n + m) h3 (by clear w1; omega), henc]
      simp only [Option.bind_some]
      rw [if_pos (by rw [List.length_append, hn1, hm1]), eight_at (s ++ t) (by omega) k (by omega) (n + m) h3]
      simp only [Option.bind_some, if_true]
      rw [bits_at s (by omega) k n hn1 (by clear w1; omega), bits_at t (by omega) k m hm1 (by clear w1; omega)]
      simp only [Option.bind_some]
      rw [if_pos (by clear w1; omega)]
      have hlen : (huff_enc (bytesOf s) ++ huff_enc (bytesOf t)).length = n + m := by rw [List.length_append, hn1, hm1]
      rw [same_f _ _ (by rw [hlen]; clear w1; omega) k (by rw [hlen]; clear w1; omega), decide_eq_true rfl]
      rfl
end Go.Proofs.Ytmkmefdajbdceaa.Pure
