/- mailcoachlaw01.VarintPrefixes: a number's bytes behind the bits of a byte are the document's. (Under way: see NOTES.) -/
import Derived.Test.YtmkmefdajbdceaaDoorPVQx10
import Derived.Test.YtmkmefdajbdceaaDoorPVQx1
import Derived.Test.YtmkmefdajbdceaaDoorPVQx8
namespace Go.Proofs.YtmkmefdajbdceaaDoor.Pure
open Go.RowKit Go.Proofs.YtmkmefdajbdceaaDoor.PVQ Go.Proofs.YtmkmefdajbdceaaDoorW.PrintWords Go.Proofs.YtmkmefdajbdceaaDoorW.PrintLast Go.Proofs.YtmkmefdajbdceaaDoorW.PrintMore
set_option linter.unusedVariables false
set_option linter.unusedSimpArgs false

theorem same_l0 (x0 x1 : List Int) (hl : x0.length = x1.length) (hn : x0.length ≤ 9223372036854775806) (d : Nat) : ∀ (k i : Nat), i + d = x0.length → d < k → x0.take i = x1.take i →
    mailcoachlaw01_SameBytes.l0 k x0 x1 i = some (decide (x0 = x1)) := by
  induction d with
  | zero =>
    intro k i hi hk he
    obtain ⟨k, rfl⟩ : ∃ m, k = m + 1 := ⟨k - 1, by omega⟩
    have h1 : x0.take i = x0 := List.take_of_length_le (by omega)
    have h2 : x1.take i = x1 := List.take_of_length_le (by omega)
    rw [h1, h2] at he
    simp only [mailcoachlaw01_SameBytes.l0]
    rw [if_neg (by omega)]
    simp [he]
  | succ d ih =>
    intro k i hi hk he
    obtain ⟨k, rfl⟩ : ∃ m, k = m + 1 := ⟨k - 1, by omega⟩
    have c1 : (i : Int) < x0.length := by omega
    have c2 : (0 : Int) ≤ i := by omega
    have c3 : (i : Int) < x1.length := by omega
    have q0 : rd x0 i = x0[i]'(by omega) := by simp [rd, List.getD_eq_getElem?_getD, List.getElem?_eq_getElem (show i < x0.length by omega)]
    have q1 : rd x1 i = x1[i]'(by omega) := by simp [rd, List.getD_eq_getElem?_getD, List.getElem?_eq_getElem (show i < x1.length by omega)]
    have e2 : wrap64 ((i : Int) + 1) = ((i + 1 : Nat) : Int) := by unfold wrap64; omega
    simp only [mailcoachlaw01_SameBytes.l0]
    rw [if_pos c1, if_pos c2, if_pos c3]
    by_cases hq : rd x0 i = rd x1 i
    · rw [if_pos hq, e2]
      refine ih k (i + 1) (by clear e2; omega) (by clear e2; omega) ?_
      rw [List.take_succ_eq_append_getElem (by clear e2; omega), List.take_succ_eq_append_getElem (by clear e2; omega), he, ← q0, ← q1, hq]
    · rw [if_neg hq]
      have hne : x0 ≠ x1 := fun h => hq (by rw [h])
      simp [hne]
theorem same_f (a b : List Int) (ha : a.length ≤ 9223372036854775806) (k : Nat) (hk : a.length < k) : mailcoachlaw01_SameBytes.f k a b = some (decide (a = b)) := by
  unfold mailcoachlaw01_SameBytes.f
  by_cases hl : (a.length : Int) = (b.length : Int)
  · rw [if_pos hl]
    exact same_l0 a b (by omega) ha a.length k 0 (by omega) hk (by simp)
  · rw [if_neg hl]
    have hne : a ≠ b := fun h => hl (by rw [h])
    simp [hne]
theorem ref_l0 : ∀ (j i k : Nat) (x : Int) (acc : List Int), 0 ≤ x → x < 128 * 128 ^ j → x < 18446744073709551616 → j ≤ i → j < k → acc.length + j ≤ 1000 → mailcoachref01_PutPrefix.l0 k x acc = some (acc ++ varint_sevens.L i x, 0) := by
  intro j
  induction j with
  | zero =>
    intro i k x acc h0 h1 h2 hi hk hl
    obtain ⟨k, rfl⟩ : ∃ m, k = m + 1 := ⟨k - 1, by omega⟩
    simp only [mailcoachref01_PutPrefix.l0]
    rw [if_neg (by omega), if_pos (by omega)]
    have e : x % 256 = x := by omega
    cases i with
    | zero => rw [varint_sevens.L]
    | succ i => rw [varint_sevens.L, if_neg (by omega), e]
  | succ j ih =>
    intro i k x acc h0 h1 h2 hi hk hl
    obtain ⟨k, rfl⟩ : ∃ m, k = m + 1 := ⟨k - 1, by omega⟩
    obtain ⟨i, rfl⟩ : ∃ m, i = m + 1 := ⟨i - 1, by omega⟩
    simp only [mailcoachref01_PutPrefix.l0]
    rw [varint_sevens.L]
    by_cases hx : 128 ≤ x
    · rw [if_pos (by omega), if_pos (by omega), if_pos hx]
      rw [Int.tmod_eq_emod_of_nonneg h0, Int.tdiv_eq_ediv_of_nonneg h0, show IntKind.u64.wrap (x / 128) = x / 128 by rw [IntKind.wrap_u64]; omega, show (x % 128 % 256 + 128) % 256 = x % 128 + 128 by omega]
      rw [Int.pow_succ] at h1
      rw [ih i k (x / 128) _ (by omega) (by omega) (by omega) (by omega) (by omega) (by rw [List.length_append]; simp; omega)]
      simp
    · rw [if_neg (by omega), if_pos (by omega), if_neg hx, show x % 256 = x by omega]
theorem most_f (b : Int) (h1 : 1 ≤ b) (h8 : b ≤ 8) : mailcoachref01_most.f 12 b = some (varint_GetPrefix.M b) := by
  rcases (show b = 1 ∨ b = 2 ∨ b = 3 ∨ b = 4 ∨ b = 5 ∨ b = 6 ∨ b = 7 ∨ b = 8 by omega) with rfl | rfl | rfl | rfl | rfl | rfl | rfl | rfl <;> decide +kernel
theorem and_M : ∀ b : Nat, b < 9 → ∀ n : Nat, n < 256 → Go.bits .and .u64 (n : Int) (varint_GetPrefix.M (b : Int)) = (n : Int) % 2 ^ b := by decide +kernel
theorem or_M : ∀ b : Nat, b < 9 → ∀ n : Nat, n < 256 → n % 2 ^ b = 0 → ∀ x : Nat, x < 2 ^ b → Go.bits .or .u8 (n : Int) (x : Int) = (n : Int) + x := by decide +kernel
theorem L_le : ∀ (i : Nat) (x : Int), (varint_sevens.L i x).length ≤ i + 1
  | 0, x => by simp [varint_sevens.L]
  | i + 1, x => by
    rw [varint_sevens.L]
    split
    · have := L_le i (x / 128); simp; omega
    · simp
theorem pput_eq (a b c : Int) (a0 : 0 ≤ a) (a1 : a < 256) (c0 : 0 ≤ c) : ∃ l e, varint_PutPrefix.f a b c = some (l, e) ∧ mailcoachref01_PutPrefix.f 13 a b c = some (l, e) ∧ l.length ≤ 11 := by
  unfold varint_PutPrefix.f mailcoachref01_PutPrefix.f
  by_cases h1 : b < 1
  · rw [if_pos (by omega), if_pos h1]; exact ⟨_, _, rfl, by simp [mailcoachref01_PutPrefix.j0], by simp⟩
  · rw [if_neg h1]
    by_cases h2 : b > 8
    · rw [if_pos (by omega), if_pos h2]; exact ⟨_, _, rfl, by simp [mailcoachref01_PutPrefix.j0], by simp⟩
    · rw [if_neg h2]
      by_cases h3 : c > 4611686018427387903
      · rw [if_pos (by omega)]; exact ⟨_, _, rfl, by simp [mailcoachref01_PutPrefix.j0, h3], by simp⟩
      · rw [if_neg (by omega), if_neg (by omega), decide_eq_false h3]
        simp only [mailcoachref01_PutPrefix.j0]
        rw [if_neg (show ¬ (false = true) by simp), most_f b (by omega) (by omega)]
        obtain ⟨n, rfl⟩ := Int.eq_ofNat_of_zero_le a0
        obtain ⟨m, rfl⟩ := Int.eq_ofNat_of_zero_le (show 0 ≤ b by omega)
        have hand := and_M m (by omega) n (by omega)
        rw [show IntKind.u64.wrap (n : Int) = n by rw [IntKind.wrap_u64]; omega]
        simp only [Option.bind_some, hand, Int.toNat_natCast]
        by_cases hm : (n : Int) % 2 ^ m = 0
        · have hmn : n % 2 ^ m = 0 := by exact_mod_cast hm
          have hM : varint_GetPrefix.M (m : Int) = ((2 ^ m - 1 : Nat) : Int) ∧ 2 ^ m ≤ 256 ∧ 1 ≤ 2 ^ m := by
            rcases (show m = 1 ∨ m = 2 ∨ m = 3 ∨ m = 4 ∨ m = 5 ∨ m = 6 ∨ m = 7 ∨ m = 8 by omega) with rfl | rfl | rfl | rfl | rfl | rfl | rfl | rfl <;> decide +kernel
          obtain ⟨x, rfl⟩ := Int.eq_ofNat_of_zero_le c0
          rw [if_neg (by simp [hm]), if_pos hm, hM.1]
          by_cases hc : (x : Int) < ((2 ^ m - 1 : Nat) : Int)
          · rw [if_pos hc, if_pos hc, show (x : Int) % 256 = x by omega, or_M m (by omega) n (by omega) hmn x (by omega)]
            exact ⟨_, _, rfl, rfl, by simp⟩
          · rw [if_neg hc, if_neg hc, show ((2 ^ m - 1 : Nat) : Int) % 256 = ((2 ^ m - 1 : Nat) : Int) by omega, or_M m (by omega) n (by omega) hmn (2 ^ m - 1) (by omega), IntKind.wrap_u64, Int.emod_eq_of_lt (by omega) (by omega)]
            rw [ref_l0 9 9 12 _ _ (by omega) (by simp only [Int.reducePow, Int.reduceMul]; omega) (by omega) (by omega) (by omega) (by simp)]
            refine ⟨_, _, rfl, rfl, ?_⟩
            have := L_le 9 ((x : Int) - ((2 ^ m - 1 : Nat) : Int))
            simp only [List.length_cons]
            omega
        · rw [if_pos (by simpa using hm), if_neg hm]; exact ⟨_, _, rfl, rfl, by simp⟩
theorem VarintPrefixes (a b c : Int) (ha : (Lit.int .u8 a).wf = true) (hb : (Lit.int .i64 b).wf = true) (hc : (Lit.int .u64 c).wf = true) : ∃ k k2 l e, varint_PutPrefix.f a b c = some (l, e) ∧ mailcoachref01_PutPrefix.f k a b c = some (l, e) ∧ mailcoachlaw01_SameBytes.f k2 l l = some true ∧ l.length ≤ 100000000 := by
  have a2 : 0 ≤ a ∧ a < 256 := by
    simp [Lit.wf, IntKind.min, IntKind.max, IntKind.signed, IntKind.bits] at ha
    omega
  have c2 : 0 ≤ c := by
    simp [Lit.wf, IntKind.min, IntKind.max, IntKind.signed, IntKind.bits] at hc
    omega
  obtain ⟨l, e, h1, h2, h3⟩ := pput_eq a b c a2.1 a2.2 c2
  exact ⟨13, 12, l, e, h1, h2, by rw [same_f l l (by omega) 12 (by omega)]; simp, by omega⟩
end Go.Proofs.YtmkmefdajbdceaaDoor.Pure
