/- mailcoachlaw10.HuffBack: any text (2^20 bytes at most, else nothing is claimed) that huff.Put puts is got as it was by huff.Get, from as many bytes as huff.Len tells, between 5 and 30 bits a byte; a text of more than 65536 bytes is refused with ErrLimit.
   Conditions: none. -/
import Derived.Test.YtmkmefdajbdceaaPHOx9
import Derived.Test.YtmkmefdajbdceaaMHb
namespace Go.Proofs.Ytmkmefdajbdceaa.Pure
open Go.RowKit Go.Proofs.Ytmkmefdajbdceaa.PHO Go.Proofs.YtmkmefdajbdceaaW.PrintWords Go.Proofs.YtmkmefdajbdceaaW.PrintLast

theorem head_HuffBack (s : ByteArray) (k : Nat) (hk : 50 ≤ k) (hl : s.size ≤ 140737488351232) : mailcoachlaw10_HuffBack.f k s = mailcoachlaw10_HuffBack.j0 k s (decide (1048576 < s.size)) := by
  have hb := beyond_one s.size (by omega) k (by omega)
  have ha := alive10_at k (by omega)
  unfold mailcoachlaw10_HuffBack.f
  rw [ha]
  simp only [Option.bind_some, if_true]
  rw [hb]
  simp only [Option.bind_some]
theorem back_tests (n S z : Int) (h0 : 0 ≤ z) (hz : z ≤ 65536) (hn : n = (S + 7) / 8) (h1 : 5 * z ≤ S) (h2 : S ≤ 30 * z) :
    (if wrap64 (8 * n) ≥ wrap64 (5 * z) then some (decide (wrap64 (8 * n) ≤ wrap64 (wrap64 (30 * z) + 7))) else some false) = some true := by
  have a1 : 8 * n ≥ 5 * z := by omega
  have a2 : 8 * n ≤ 30 * z + 7 := by omega
  have a3 : 0 ≤ n := by omega
  have a4 : n ≤ 300000 := by omega
  have e : ∀ x : Int, 0 ≤ x → x ≤ 10000000 → wrap64 x = x := fun x hx hy => by unfold wrap64; omega
  have w1 := e (8 * n) (by omega) (by omega)
  have w2 := e (5 * z) (by omega) (by omega)
  have w3 := e (30 * z) (by omega) (by omega)
  have w4 := e (30 * z + 7) (by omega) (by omega)
  rw [w1, w2, w3, w4, if_pos a1, decide_eq_true a2]
theorem HuffBack : mailcoachlaw10_HuffBack.Pure := by
  intro s hm
  obtain ⟨k, hk⟩ : ∃ k, 50 ≤ k := ⟨50, Nat.le_refl _⟩
  refine ⟨k + 1, ?_⟩
  rw [head_HuffBack s (k + 1) (by omega) (by omega)]
  simp only [mailcoachlaw10_HuffBack.j0]
  by_cases hby : 1048576 < s.size
  · rw [if_pos (decide_eq_true hby), alive10_at k (by omega)]
    rfl
  · rw [if_neg (by simpa using hby)]
    simp only [huff_Put.f]
    by_cases hs : 65536 < s.size
    · rw [if_pos hs]
      have h30 : ¬ ((3 : Int) = 0) := by decide
      simp only [Option.bind_some, h30, if_false, if_true]
      rw [if_pos (by omega)]
      rfl
    · rw [if_neg hs]
      simp only [Option.bind_some, if_true]
      rw [huff_Get_Put s (by omega)]
      have hlen := huff_pack_len s
      have hsum := huff_sum_bd (bytesOf s) (man_bytesOf_bd s)
      rw [man_bytesOf_length] at hsum
      obtain ⟨n, hn⟩ : ∃ n, (huff_pack (huff_enc (bytesOf s)) 0 []).length = n := ⟨_, rfl⟩
      obtain ⟨S, hS⟩ : ∃ S, huff_sum (bytesOf s) = S := ⟨_, rfl⟩
      simp only [Option.bind_some, if_true, huff_Len.f, if_pos hm]
      rw [hn, hS] at hlen
      rw [hS] at hsum
      rw [hn, hS, if_pos hlen]
      exact back_tests n S s.size (by omega) (by omega) hlen hsum.1 hsum.2
end Go.Proofs.Ytmkmefdajbdceaa.Pure
