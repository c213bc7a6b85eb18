/- Plain facts on texts in few bytes: what was put is got again; of fewer bytes, none; what is got is put in as many bytes at most. -/
import Derived.Test.YtmkmefdajbdceaaPTXx21
import Derived.Test.YtmkmefdajbdceaaPTXx1
import Derived.Test.YtmkmefdajbdceaaPTXx15
import Derived.Test.YtmkmefdajbdceaaPTXx20
import Derived.Test.YtmkmefdajbdceaaPTXx6
import Derived.Test.YtmkmefdajbdceaaMTb
namespace Go.Proofs.Ytmkmefdajbdceaa.Pure
open Go.RowKit Go.Proofs.Ytmkmefdajbdceaa.PTX Go.Proofs.YtmkmefdajbdceaaW.PrintWords Go.Proofs.YtmkmefdajbdceaaW.PrintLast
set_option linter.unusedVariables false
set_option linter.unusedSimpArgs false

theorem same_l0 (x0 x1 : List Int) (hl : x0.length = x1.length) (hn : x0.length ≤ 9223372036854775806) (d : Nat) : ∀ (k i : Nat), i + d = x0.length → d < k → x0.take i = x1.take i →
    mailcoachlaw01_SameBytes.l0 k x0 x1 i = some (decide (x0 = x1)) := by
  induction d with
  | zero =>
    intro k i hi hk he
    obtain ⟨k, rfl⟩ : ∃ m, k = m + 1 := ⟨k - 1, by omega⟩
    have h1 : x0.take i = x0 := List.take_of_length_le (by omega)
    have h2 : x1.take i = x1 := List.take_of_length_le (by omega)
    rw [h1, h2] at he
    simp only [mailcoachlaw01_SameBytes.l0]
    rw [if_neg (by omega)]
    simp [he]
  | succ d ih =>
    intro k i hi hk he
    obtain ⟨k, rfl⟩ : ∃ m, k = m + 1 := ⟨k - 1, by omega⟩
    have c1 : (i : Int) < x0.length := by omega
    have c2 : (0 : Int) ≤ i := by omega
    have c3 : (i : Int) < x1.length := by omega
    have q0 : rd x0 i = x0[i]'(by omega) := by simp [rd, List.getD_eq_getElem?_getD, List.getElem?_eq_getElem (show i < x0.length by omega)]
    have q1 : rd x1 i = x1[i]'(by omega) := by simp [rd, List.getD_eq_getElem?_getD, List.getElem?_eq_getElem (show i < x1.length by omega)]
    have e2 : wrap64 ((i : Int) + 1) = ((i + 1 : Nat) : Int) := by unfold wrap64; omega
    simp only [mailcoachlaw01_SameBytes.l0]
    rw [if_pos c1, if_pos c2, if_pos c3]
    by_cases hq : rd x0 i = rd x1 i
    · rw [if_pos hq, e2]
      refine ih k (i + 1) (by clear e2; omega) (by clear e2; omega) ?_
      rw [List.take_succ_eq_append_getElem (by clear e2; omega), List.take_succ_eq_append_getElem (by clear e2; omega), he, ← q0, ← q1, hq]
    · rw [if_neg hq]
      have hne : x0 ≠ x1 := fun h => hq (by rw [h])
      simp [hne]
theorem same_f (a b : List Int) (ha : a.length ≤ 9223372036854775806) (k : Nat) (hk : a.length < k) : mailcoachlaw01_SameBytes.f k a b = some (decide (a = b)) := by
  unfold mailcoachlaw01_SameBytes.f
  by_cases hl : (a.length : Int) = (b.length : Int)
  · rw [if_pos hl]
    exact same_l0 a b (by omega) ha a.length k 0 (by omega) hk (by simp)
  · rw [if_neg hl]
    have hne : a ≠ b := fun h => hl (by rw [h])
    simp [hne]
theorem alive11_true : mailcoachlaw11_alive.f 40 = some true := by decide +kernel
theorem alive11_at (k : Nat) (hk : 40 ≤ k) : mailcoachlaw11_alive.f k = some true := at_rounds (mailcoachlaw11_alive.mono) hk alive11_true
theorem beyond_one (n : Nat) (hn : n ≤ 9223372036854775807) (k : Nat) (hk : 2 ≤ k) : mailcoachlaw01_Beyond.f k [(n : Int)] = some (decide (1048576 < n)) := by
  refine at_rounds (mailcoachlaw01_Beyond.mono _) hk ?_
  have e : wrap64 (0 + rd [(n : Int)] 0) = n := by simp only [rd, wrap64]; simp; omega
  unfold mailcoachlaw01_Beyond.f
  simp only [mailcoachlaw01_Beyond.l0]
  rw [if_pos (by simp), if_pos (by simp), e]
  by_cases h : 1048576 < n
  · rw [if_pos (by omega)]; simp [h]
  · rw [if_neg (by omega)]
    have e1 : wrap64 (0 + 1) = 1 := by unfold wrap64; omega
    rw [e1, if_neg (by simp)]
    simp [h]
theorem beyond_two (n m : Nat) (hn : n ≤ 4611686018427387903) (hm : m ≤ 4611686018427387903) (k : Nat) (hk : 3 ≤ k) : mailcoachlaw01_Beyond.f k [(n : Int), (m : Int)] = some (decide (1048576 < n + m)) := by
  refine at_rounds (mailcoachlaw01_Beyond.mono _) hk ?_
  have e : wrap64 (0 + rd [(n : Int), (m : Int)] 0) = n := by simp only [rd, wrap64]; simp; omega
  have e2 : wrap64 ((n : Int) + rd [(n : Int), (m : Int)] 1) = ((n + m : Nat) : Int) := by simp only [rd, wrap64]; simp; omega
  have e1 : wrap64 (0 + 1) = 1 := by unfold wrap64; omega
  have e3 : wrap64 (1 + 1) = 2 := by unfold wrap64; omega
  unfold mailcoachlaw01_Beyond.f
  simp only [mailcoachlaw01_Beyond.l0]
  rw [if_pos (by simp), if_pos (by simp), e]
  by_cases h : 1048576 < n
  · rw [if_pos (by clear e e1 e2 e3; omega), decide_eq_true (by clear e e1 e2 e3; omega)]
  · rw [if_neg (by clear e e1 e2 e3; omega), e1, if_pos (by simp), if_pos (by simp), e2]
    by_cases h2 : 1048576 < n + m
    · rw [if_pos (by clear e e1 e2 e3; omega), decide_eq_true h2]
    · rw [if_neg (by clear e e1 e2 e3; omega), e3, if_neg (by simp), decide_eq_false h2]
/-- How many bytes a number takes behind the highest bits of a byte. -/
def pfLen (a n : Int) : Nat := if n < varint_GetPrefix.M a then 1 else 1 + (varint_sevens.L 9 (n - varint_GetPrefix.M a)).length
theorem pput_out (x a n : Int) (h1 : 1 ≤ a) (h8 : a ≤ 8) (x0 : 0 ≤ x) (x1 : x < 256) (hm : x % 2 ^ a.toNat = 0) (n0 : 0 ≤ n) (n1 : n ≤ 4611686018427387903) : ∃ pf, varint_PutPrefix.f x a n = some (pf, 0) ∧ pf.length = pfLen a n ∧ pf = (if n < varint_GetPrefix.M a then [x + n] else (x + varint_GetPrefix.M a) :: varint_sevens.L 9 (n - varint_GetPrefix.M a)) := by
  rcases pput_cases x a n x0 x1 n0 with h | ⟨_, ⟨hl, h⟩ | ⟨hl, h⟩⟩
  · unfold varint_PutPrefix.f at h
    rw [if_neg (by omega), if_neg (by omega), if_neg (by rw [hm]; simp)] at h
    split at h <;> simp at h
  · exact ⟨_, h, by rw [pfLen, if_pos hl]; rfl, by rw [if_pos hl]⟩
  · exact ⟨_, h, by rw [pfLen, if_neg (by omega), List.length_cons]; omega, by rw [if_neg (by omega)]⟩
theorem pfLen_le (a n : Int) (h1 : 1 ≤ a) (h8 : a ≤ 8) (n0 : 0 ≤ n) (n1 : n ≤ 65536) : pfLen a n ≤ 4 := by
  obtain ⟨m1, m2, m3⟩ := M_bd a h1 h8
  unfold pfLen
  split
  · omega
  · have := L_len 2 9 (n - varint_GetPrefix.M a) (by omega) (by simp only [Nat.reduceAdd, Nat.reduceMul, Int.reducePow]; omega)
    omega
/-- What was got stood in as many bytes as it, or a lesser number, is put in, or in more. -/
theorem getp_min (a : Int) (l : List Int) (hl : Bytes l) (x n k : Int) (h : varint_GetPrefix.f a l = some (x, n, k, 0)) (n' : Int) (h0 : 0 ≤ n') (h1 : n' ≤ n) : (pfLen a n' : Int) ≤ k := by
  unfold varint_GetPrefix.f at h
  by_cases c1 : a < 1 ∨ 8 < a
  · rw [if_pos c1] at h; simp at h
  · rw [if_neg c1] at h
    by_cases c0 : l.length = 0
    · rw [if_pos c0] at h; simp at h
    · rw [if_neg c0, if_pos (ok_of_bytes hl)] at h
      obtain ⟨m1, m2, m3⟩ := M_bd a (by omega) (by omega)
      by_cases hlt : rd l 0 % 2 ^ a.toNat < varint_GetPrefix.M a
      · rw [if_pos hlt] at h
        simp only [Option.some.injEq, Prod.mk.injEq] at h
        obtain ⟨_, g2, g3, _⟩ := h
        unfold pfLen
        rw [if_pos (by omega)]
        omega
      · rw [if_neg hlt] at h
        have hS := S_tells (l.drop 1) (varint_GetPrefix.M a) (rd l 0 - rd l 0 % 2 ^ a.toNat) (by omega) 10 0 0 rfl (by omega) (by decide) x n k 0 (Option.some.inj h)
        rcases hS with ⟨_, _, _, g⟩ | ⟨_, _, j, T, g3, g4, g5, g6, g7, _, _⟩
        · exact absurd rfl g
        · unfold pfLen
          split
          · omega
          · have := L_len j 9 (n' - varint_GetPrefix.M a) (by omega) (by omega)
            omega
theorem dbl (a : Int) (h1 : 2 ≤ a) : (2 : Int) ^ a.toNat = 2 * 2 ^ (a - 1).toNat := by
  rw [show a.toNat = (a - 1).toNat + 1 by omega, Int.pow_succ]; omega
theorem flag_set (x p : Int) (hp : 1 ≤ p) (h : x % (2 * p) = 0) : x / p % 2 = 0 ∧ (x + p) / p % 2 = 1 ∧ x % p = 0 ∧ (x + p) % p = 0 := by
  obtain ⟨q, rfl⟩ : ∃ q, x = 2 * p * q := ⟨x / (2 * p), by have := Int.emod_add_mul_ediv x (2 * p); omega⟩
  have e1 : 2 * p * q = p * (2 * q) := by rw [Int.mul_comm 2 p, Int.mul_assoc]
  have e2 : 2 * p * q + p = p * (2 * q + 1) := by rw [e1, Int.mul_add, Int.mul_one]
  rw [e2, e1, Int.mul_ediv_cancel_left _ (by omega), Int.mul_ediv_cancel_left _ (by omega)]
  exact ⟨by omega, by omega, Int.mul_emod_right _ _, Int.mul_emod_right _ _⟩
theorem flag_back (x p : Int) (hp : 1 ≤ p) (h : x % p = 0) : (x / p % 2 = 0 → x % (2 * p) = 0) ∧ (x / p % 2 ≠ 0 → (x - p) % (2 * p) = 0) := by
  obtain ⟨q, rfl⟩ : ∃ q, x = p * q := ⟨x / p, by have := Int.emod_add_mul_ediv x p; omega⟩
  rw [Int.mul_ediv_cancel_left _ (by omega)]
  constructor
  · intro hq
    obtain ⟨r, rfl⟩ : ∃ r, q = 2 * r := ⟨q / 2, by omega⟩
    rw [show p * (2 * r) = 2 * p * r by rw [← Int.mul_assoc, Int.mul_comm p 2], Int.mul_emod_right]
  · intro hq
    obtain ⟨r, rfl⟩ : ∃ r, q = 2 * r + 1 := ⟨q / 2, by omega⟩
    rw [show p * (2 * r + 1) - p = 2 * p * r by rw [Int.mul_add, Int.mul_one, ← Int.mul_assoc, Int.mul_comm p 2]; omega, Int.mul_emod_right]
theorem pow_ge (j : Nat) : (1 : Int) ≤ 2 ^ j := Int.pow_pos (by decide)
/-- A text that was put: its number of bytes, its bytes, and how they are told. -/
structure TextOut (x a : Int) (s : ByteArray) (out : List Int) (pf b : List Int) (first : Int) : Prop where
  a2 : 2 ≤ a
  a8 : a ≤ 8
  x0 : 0 ≤ x
  xm : x % 2 ^ a.toNat = 0
  size : s.size ≤ 65536
  out : out = pf ++ b
  put : varint_PutPrefix.f first (a - 1) b.length = some (pf, 0)
  f0 : 0 ≤ first
  f1 : first < 256
  bytes : Bytes b
  len : b.length ≤ s.size
  pflen : pf.length ≤ 4
  way : (first = x ∧ b = bytesOf s ∧ (s.size : Int) ≤ (huff_sum (bytesOf s) + 7) / 8) ∨ (first = x + 2 ^ (a - 1).toNat ∧ b = huff_pack (huff_enc (bytesOf s)) 0 [])
theorem text_put_cases (x a : Int) (s : ByteArray) (x0 : 0 ≤ x) (x1 : x < 256) : text_Put.f x a s = some ([], 1) ∨ (text_Put.f x a s = some ([], 3) ∧ 65536 < s.size) ∨ ∃ out pf b first, text_Put.f x a s = some (out, 0) ∧ TextOut x a s out pf b first := by
  unfold text_Put.f
  by_cases hb : a < 2 ∨ 8 < a
  · rw [if_pos hb]; exact .inl rfl
  · rw [if_neg hb, if_neg (by omega)]
    by_cases hm : x % 2 ^ a.toNat ≠ 0
    · rw [if_pos hm]; exact .inl rfl
    · rw [if_neg hm]
      by_cases hs : 65536 < s.size
      · rw [if_pos hs]; exact .inr (.inl ⟨rfl, hs⟩)
      · rw [if_neg hs]
        right; right
        have hm0 : x % 2 ^ a.toNat = 0 := by omega
        have hd := dbl a (by omega)
        have hp1 := pow_ge (a - 1).toNat
        obtain ⟨p, hp⟩ : ∃ p : Int, 2 ^ (a - 1).toNat = p := ⟨_, rfl⟩
        rw [hp] at hd hp1
        have hf := flag_set x p hp1 (by rw [← hd]; exact hm0)
        have hplus := (text_Put.arith a x (by omega) (by omega) x0 x1).2 hm0
        rw [hp] at hplus ⊢
        by_cases hl : (huff_sum (bytesOf s) + 7) / 8 < s.size
        · rw [if_pos hl]
          have hpl := huff_pack_len s
          have hby := (huff_pack_all (huff_enc (bytesOf s)) (huff_enc_01 (bytesOf s))).2.1
          obtain ⟨b, hbb⟩ : ∃ b, huff_pack (huff_enc (bytesOf s)) 0 [] = b := ⟨_, rfl⟩
          rw [hbb] at hpl hby ⊢
          obtain ⟨pf, g1, g2, g3⟩ := pput_out (x + p) (a - 1) b.length (by omega) (by omega) (by omega) hplus.2.1 (by rw [hp]; exact hf.2.2.2) (by omega) (by omega)
          refine ⟨_, pf, b, x + p, rfl, by omega, by omega, x0, hm0, by omega, by rw [text_Put.out, g3], g1, by omega, hplus.2.1, hby, by omega, ?_, .inr ⟨by rw [hp], hbb.symm⟩⟩
          rw [g2]; exact pfLen_le _ _ (by omega) (by omega) (by omega) (by omega)
        · rw [if_neg hl]
          obtain ⟨pf, g1, g2, g3⟩ := pput_out x (a - 1) (bytesOf s).length (by omega) (by omega) x0 x1 (by rw [hp]; exact hf.2.2.1) (by omega) (by rw [man_bytesOf_length]; omega)
          refine ⟨_, pf, bytesOf s, x, rfl, by omega, by omega, x0, hm0, by omega, by rw [text_Put.out, g3], g1, x0, x1, bytesOf_bytes s, by rw [man_bytesOf_length]; omega, ?_, .inl ⟨rfl, rfl, by omega⟩⟩
          rw [g2]; exact pfLen_le _ _ (by omega) (by omega) (by omega) (by rw [man_bytesOf_length]; omega)
/-- What was put is got, whatever stands behind. -/
theorem text_get_put {x a : Int} {s : ByteArray} {out pf b : List Int} {first : Int} (h : TextOut x a s out pf b first) (more : List Int) (hm : Bytes more) (hl : (out ++ more).length ≤ 140737488355328) : text_Get.f a (out ++ more) = some (x, s, (out.length : Int), 0) := by
  obtain ⟨a2, a8, x0, xm, size, ho, put, f0, f1, bytes, len, pflen, way⟩ := h
  subst ho
  have hg := (pput_get first (a - 1) b.length pf f0 f1 (by omega) put (b ++ more) (bytes_append bytes hm)).1
  have hd := dbl a a2
  have hp1 := pow_ge (a - 1).toNat
  unfold text_Get.f text_Get.flag
  obtain ⟨p, hp⟩ : ∃ p : Int, 2 ^ (a - 1).toNat = p := ⟨_, rfl⟩
  rw [hp] at hd hp1 way ⊢
  have hf := flag_set x p hp1 (by rw [← hd]; exact xm)
  rw [if_neg (by omega), List.append_assoc, hg]
  simp only [Option.bind_some]
  have hlen : (pf ++ (b ++ more)).length = pf.length + (b.length + more.length) := by simp
  rw [List.append_assoc] at hl
  rw [hlen] at hl ⊢
  rw [if_neg (by simp), if_neg (by omega), if_neg (by omega), if_neg (by omega)]
  have hcut : ((pf ++ (b ++ more)).take (((pf.length : Nat) : Int) + ((b.length : Nat) : Int)).toNat).drop (((pf.length : Nat) : Int)).toNat = b := by
    rw [show (((pf.length : Nat) : Int) + ((b.length : Nat) : Int)).toNat = pf.length + b.length by omega, Int.toNat_natCast, ← List.append_assoc, List.take_append_of_le_length (by simp), List.take_of_length_le (by simp), List.drop_left]
  rw [hcut]
  have hsum : (((pf ++ b).length : Nat) : Int) = (pf.length : Int) + (b.length : Int) := by simp
  rw [hsum]
  rcases way with ⟨rfl, rfl, _⟩ | ⟨rfl, rfl⟩
  · rw [if_pos hf.1, strOfNums_bytesOf]
  · rw [if_neg (by rw [hf.2.1]; decide), huff_Get_Put s size]
    simp only [Option.bind_some]
    rw [if_neg (by simp), if_neg (by omega), show x + p - p = x by omega]
/-- Of fewer bytes, none. -/
theorem text_get_short {x a : Int} {s : ByteArray} {out pf b : List Int} {first : Int} (h : TextOut x a s out pf b first) (j : Nat) (hj : j < out.length) : text_Get.f a (out.take j) = some (0, ⟨#[]⟩, 0, 4) := by
  obtain ⟨a2, a8, x0, xm, size, ho, put, f0, f1, bytes, len, pflen, way⟩ := h
  subst ho
  unfold text_Get.f
  rw [if_neg (by omega)]
  by_cases hjp : j < pf.length
  · rw [List.take_append_of_le_length (by omega), pput_short first (a - 1) b.length pf f0 f1 (by omega) put j hjp]
    simp only [Option.bind_some]
    rw [if_pos (by decide)]
  · have e : (pf ++ b).take j = pf ++ b.take (j - pf.length) := by rw [List.take_append, List.take_of_length_le (by omega)]
    have hg := (pput_get first (a - 1) b.length pf f0 f1 (by omega) put (b.take (j - pf.length)) (fun y hy => bytes y (List.mem_of_mem_take hy))).1
    have hlen : (pf ++ b.take (j - pf.length)).length = j := by rw [List.length_append, List.length_take]; simp at hj; omega
    rw [e, hg]
    simp only [Option.bind_some]
    simp at hj
    rw [hlen, if_neg (by simp), if_neg (by omega), if_neg (by omega), if_pos (by omega)]
end Go.Proofs.Ytmkmefdajbdceaa.Pure
