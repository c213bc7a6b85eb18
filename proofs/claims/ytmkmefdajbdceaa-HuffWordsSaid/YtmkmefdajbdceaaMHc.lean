/- Plain facts on the helpers of the laws of the code of few bits: eight times a text, and its bits one by one. -/
import Derived.Test.YtmkmefdajbdceaaPHOx10
import Derived.Test.YtmkmefdajbdceaaPHOx10
import Derived.Test.YtmkmefdajbdceaaMHb
import Derived.Laws.BitsAllLaws
namespace Go.Proofs.Ytmkmefdajbdceaa.Pure
open Go.RowKit Go.Proofs.Ytmkmefdajbdceaa.PHO Go.Proofs.YtmkmefdajbdceaaW.PrintWords Go.Proofs.YtmkmefdajbdceaaW.PrintLast
set_option linter.unusedVariables false
set_option linter.unusedSimpArgs false

/-- A bit of bytes. -/
def huff_bit (l : List Int) (i : Nat) : Int := rd l (i / 8 : Nat) % 4294967296 / 2 ^ (7 - i % 8) % 2
theorem huff_bits8_at : ∀ (l : List Int) (i : Nat), i < 8 * l.length → (huff_bits8 l)[i]? = some (huff_bit l i)
  | [], i, h => by simp at h
  | c :: r, i, h => by
    rw [huff_bits8, List.flatMap_cons]
    by_cases h8 : i < 8
    · rw [List.getElem?_append_left (by simp [huff_low]; exact h8)]
      rcases (show i = 0 ∨ i = 1 ∨ i = 2 ∨ i = 3 ∨ i = 4 ∨ i = 5 ∨ i = 6 ∨ i = 7 by omega) with rfl | rfl | rfl | rfl | rfl | rfl | rfl | rfl <;> rfl
    · rw [List.getElem?_append_right (by simp [huff_low]; omega)]
      have ih := huff_bits8_at r (i - 8) (by simp at h; omega)
      rw [huff_bits8] at ih
      have e : (huff_low c 8).length = 8 := rfl
      rw [e, ih]
      unfold huff_bit
      rw [show i % 8 = (i - 8) % 8 by omega]
      have e2 : rd (c :: r) (i / 8 : Nat) = rd r ((i - 8) / 8 : Nat) := by
        rw [show i / 8 = (i - 8) / 8 + 1 by omega]
        unfold rd
        rw [Int.toNat_natCast, Int.toNat_natCast]
        rfl
      rw [e2]
theorem huff_bits8_drop (l : List Int) (i : Nat) (h : i < 8 * l.length) : (huff_bits8 l).drop i = huff_bit l i :: (huff_bits8 l).drop (i + 1) := by
  rw [List.drop_eq_getElem_cons (by rw [huff_bits8_size]; exact h)]
  have := huff_bits8_at l i h
  rw [List.getElem?_eq_getElem (by rw [huff_bits8_size]; exact h)] at this
  rw [Option.some.inj this]
theorem huff_bit_bd2 (l : List Int) (i : Nat) : huff_bit l i = 0 ∨ huff_bit l i = 1 := by unfold huff_bit; omega
theorem bytesOf_append (a b : ByteArray) : bytesOf (a ++ b) = bytesOf a ++ bytesOf b := by
  unfold bytesOf
  rw [ByteArray.data_append, Array.toList_append, List.map_append]
theorem enc_nat (s : ByteArray) (hs : s.size ≤ 4000) : ∃ n : Nat, (huff_enc (bytesOf s)).length = n ∧ n ≤ 120000 := by
  refine ⟨_, rfl, ?_⟩
  have := huff_enc_length_le (bytesOf s) (man_bytesOf_bd s)
  rw [man_bytesOf_length] at this
  omega
theorem eight_l0 (s : ByteArray) (hs : s.size ≤ 4000) (d : Nat) : ∀ (k i : Nat) (x : ByteArray), i + d = 8 → d < k → x.size = i * s.size → huff_sum (bytesOf x) = i * huff_sum (bytesOf s) →
    mailcoachlaw10_eight.l0 k s x i = some (huff_sum (bytesOf s)) := by
  induction d with
  | zero =>
    intro k i x hi hk hx hsum
    obtain ⟨k, rfl⟩ : ∃ m, k = m + 1 := ⟨k - 1, by omega⟩
    obtain rfl : i = 8 := by omega
    simp only [mailcoachlaw10_eight.l0]
    rw [if_neg (by decide)]
    simp only [huff_Len.f]
    rw [if_pos (by rw [hx]; omega), hsum]
    simp only [Option.bind_some]
    congr 1
    generalize huff_sum (bytesOf s) = S
    omega
  | succ d ih =>
    intro k i x hi hk hx hsum
    obtain ⟨k, rfl⟩ : ∃ m, k = m + 1 := ⟨k - 1, by omega⟩
    have hle : i * s.size ≤ 8 * s.size := Nat.mul_le_mul_right _ (by omega)
    have e : wrap64 ((i : Int) + 1) = ((i + 1 : Nat) : Int) := by unfold wrap64; omega
    simp only [mailcoachlaw10_eight.l0]
    rw [if_pos (by omega), if_pos (by rw [hx]; omega), e]
    refine ih k (i + 1) (x ++ s) (by clear e; omega) (by clear e; omega) ?_ ?_
    · rw [ByteArray.size_append, hx, Nat.succ_mul]
    · rw [bytesOf_append, huff_sum_append, hsum, Int.natCast_add, Int.add_mul]
      simp
theorem eight_at (s : ByteArray) (hs : s.size ≤ 4000) (k : Nat) (hk : 20 ≤ k) (n : Nat) (hn : (huff_enc (bytesOf s)).length = n) : mailcoachlaw10_eight.f k s = some (n : Int) := by
  have h := eight_l0 s hs 8 k 0 ⟨#[]⟩ rfl (by omega) (by simp; rfl) (by simp [bytesOf, huff_sum])
  unfold mailcoachlaw10_eight.f
  rw [← huff_enc_length _ (bytesOf_bytes s), hn] at h
  exact h
theorem bit_law (l : List Int) (hl : Bytes l) (i : Nat) (h : i < 8 * l.length) (hlen : l.length ≤ 1048576) : Go.bits .and .u8 (shr .u8 (rd l (wrap64 (Int.tdiv (i : Int) 8))) (wrap64 (7 - (Int.tmod (i : Int) 8)))) 1 = huff_bit l i := by
  have e1 : Int.tdiv (i : Int) 8 = ((i / 8 : Nat) : Int) := by rw [Int.tdiv_eq_ediv_of_nonneg (by omega)]; omega
  have e2 : Int.tmod (i : Int) 8 = ((i % 8 : Nat) : Int) := by rw [Int.tmod_eq_emod_of_nonneg (by omega)]; omega
  have w1 : wrap64 ((i / 8 : Nat) : Int) = ((i / 8 : Nat) : Int) := by unfold wrap64; omega
  have w2 : wrap64 (7 - ((i % 8 : Nat) : Int)) = ((7 - i % 8 : Nat) : Int) := by unfold wrap64; omega
  rw [e1, e2, w1, w2]
  clear e1 e2 w1 w2
  have hq : i / 8 < l.length := by omega
  have hv : 0 ≤ rd l (i / 8 : Nat) ∧ rd l (i / 8 : Nat) < 256 := by
    apply hl
    unfold rd
    rw [Int.toNat_natCast, List.getD_eq_getElem?_getD, List.getElem?_eq_getElem hq]
    exact List.getElem_mem _
  have e3 : shr .u8 (rd l ((i / 8 : Nat) : Int)) ((7 - i % 8 : Nat) : Int) = rd l ((i / 8 : Nat) : Int) / 2 ^ (7 - i % 8) := by
    unfold shr
    rw [Int.toNat_natCast, Nat.min_eq_left (by show 7 - i % 8 ≤ 8; omega)]
  rw [e3]
  unfold huff_bit
  obtain ⟨c, hc⟩ : ∃ c, rd l ((i / 8 : Nat) : Int) = c := ⟨_, rfl⟩
  rw [hc] at hv ⊢
  have hp : (0 : Int) < 2 ^ (7 - i % 8) := Int.pow_pos (by decide)
  have hq0 : 0 ≤ c / 2 ^ (7 - i % 8) := Int.ediv_nonneg hv.1 (by omega)
  have hq1 : c / 2 ^ (7 - i % 8) ≤ c := Int.ediv_le_self _ hv.1
  rw [Int.emod_eq_of_lt hv.1 (by omega)]
  exact bits_mask .u8 8 (by decide) (fun n h₀ h₁ => by rw [IntKind.wrap_u8]; omega) 1 (by decide) _ hq0 (by omega)
theorem bits_l0 (l : List Int) (hl : Bytes l) (hlen : l.length ≤ 1048576) (n : Nat) (hn : n ≤ 8 * l.length) (d : Nat) : ∀ (k i : Nat), i + d = n → d < k →
    mailcoachlaw10_bits.l0 k (n : Int) l ((huff_bits8 l).take i) i = some ((huff_bits8 l).take n) := by
  induction d with
  | zero =>
    intro k i hi hk
    obtain ⟨k, rfl⟩ : ∃ m, k = m + 1 := ⟨k - 1, by omega⟩
    obtain rfl : i = n := by omega
    simp only [mailcoachlaw10_bits.l0]
    by_cases h : (i : Int) < wrap64 (8 * (l.length : Int))
    · rw [if_pos h, if_neg (by clear h; omega)]
    · rw [if_neg h]
  | succ d ih =>
    intro k i hi hk
    obtain ⟨k, rfl⟩ : ∃ m, k = m + 1 := ⟨k - 1, by omega⟩
    have hil : i < 8 * l.length := by omega
    have htl : ((huff_bits8 l).take i).length < 140737488355328 := by rw [List.length_take]; omega
    have hts : (huff_bits8 l).take (i + 1) = (huff_bits8 l).take i ++ [huff_bit l i] := by
      rw [List.take_add_one, huff_bits8_at l i hil]
      rfl
    have hlaw := bit_law l hl i hil hlen
    have c1 : (i : Int) < (n : Int) := by omega
    have c2 : (i : Int) < 8 * (l.length : Int) := by omega
    have q0 : (0 : Int) ≤ ((i / 8 : Nat) : Int) := by omega
    have q1 : ((i / 8 : Nat) : Int) < (l.length : Int) := by omega
    have q2 : (0 : Int) ≤ ((7 - i % 8 : Nat) : Int) := by omega
    have hd1 : i + 1 + d = n := by omega
    have hd2 : d < k := by omega
    have w0 : wrap64 (8 * (l.length : Int)) = 8 * (l.length : Int) := by unfold wrap64; omega
    have e1 : Int.tdiv (i : Int) 8 = ((i / 8 : Nat) : Int) := by rw [Int.tdiv_eq_ediv_of_nonneg (by omega)]; omega
    have e2 : Int.tmod (i : Int) 8 = ((i % 8 : Nat) : Int) := by rw [Int.tmod_eq_emod_of_nonneg (by omega)]; omega
    have w1 : wrap64 ((i / 8 : Nat) : Int) = ((i / 8 : Nat) : Int) := by clear w0 hlaw; unfold wrap64; omega
    have w2 : wrap64 (7 - ((i % 8 : Nat) : Int)) = ((7 - i % 8 : Nat) : Int) := by clear w0 w1 hlaw; unfold wrap64; omega
    have w3 : wrap64 ((i : Int) + 1) = ((i + 1 : Nat) : Int) := by clear w0 w1 w2 hlaw; unfold wrap64; omega
    simp only [mailcoachlaw10_bits.l0]
    rw [hlaw, w0, if_pos c2, if_pos c1, e1, e2, w1, w2, if_pos q0, if_pos q1, if_pos q2, if_pos htl, w3, ← hts]
    exact ih k (i + 1) hd1 hd2
theorem bits_at (s : ByteArray) (hs : s.size ≤ 4000) (k n : Nat) (hn : (huff_enc (bytesOf s)).length = n) (hk : n < k) : mailcoachlaw10_bits.f k s n = some (huff_enc (bytesOf s)) := by
  obtain ⟨h1, h2, h3⟩ := huff_pack_all (huff_enc (bytesOf s)) (huff_enc_01 (bytesOf s))
  have hl := huff_enc_length_le (bytesOf s) (man_bytesOf_bd s)
  rw [man_bytesOf_length] at hl
  rw [hn] at h1 h3 hl
  unfold mailcoachlaw10_bits.f huff_Put.f
  rw [if_neg (by omega)]
  simp only [Option.bind_some]
  have := bits_l0 _ h2 (by rw [h3]; omega) n (by rw [h3]; omega) n k 0 (by omega) hk
  rw [List.take_zero] at this
  refine this.trans ?_
  rw [h1, List.take_append_of_le_length (by omega), List.take_of_length_le (by omega)]
end Go.Proofs.Ytmkmefdajbdceaa.Pure
