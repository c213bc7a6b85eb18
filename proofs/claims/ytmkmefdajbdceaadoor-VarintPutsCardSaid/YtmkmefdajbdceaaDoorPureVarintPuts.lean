/- mailcoachlaw01.VarintPuts: a number's bytes are the document's. -/
import Derived.Test.YtmkmefdajbdceaaDoorPVPx3
import Derived.Test.YtmkmefdajbdceaaDoorPVPx4
import Derived.Test.YtmkmefdajbdceaaDoorPVPx1
namespace Go.Proofs.YtmkmefdajbdceaaDoor.Pure
open Go.RowKit Go.Proofs.YtmkmefdajbdceaaDoor.PVP Go.Proofs.YtmkmefdajbdceaaDoorW.PrintWords Go.Proofs.YtmkmefdajbdceaaDoorW.PrintLast Go.Proofs.YtmkmefdajbdceaaDoorW.PrintMore
set_option linter.unusedVariables false
set_option linter.unusedSimpArgs false

theorem same_l0 (x0 x1 : List Int) (hl : x0.length = x1.length) (hn : x0.length ≤ 9223372036854775806) (d : Nat) : ∀ (k i : Nat), i + d = x0.length → d < k → x0.take i = x1.take i →
    mailcoachlaw01_SameBytes.l0 k x0 x1 i = some (decide (x0 = x1)) := by
  induction d with
  | zero =>
    intro k i hi hk he
    obtain ⟨k, rfl⟩ : ∃ m, k = m + 1 := ⟨k - 1, by omega⟩
    have h1 : x0.take i = x0 := List.take_of_length_le (by omega)
    have h2 : x1.take i = x1 := List.take_of_length_le (by omega)
    rw [h1, h2] at he
    simp only [mailcoachlaw01_SameBytes.l0]
    rw [if_neg (by omega)]
    simp [he]
  | succ d ih =>
    intro k i hi hk he
    obtain ⟨k, rfl⟩ : ∃ m, k = m + 1 := ⟨k - 1, by omega⟩
    have c1 : (i : Int) < x0.length := by omega
    have c2 : (0 : Int) ≤ i := by omega
    have c3 : (i : Int) < x1.length := by omega
    have q0 : rd x0 i = x0[i]'(by omega) := by simp [rd, List.getD_eq_getElem?_getD, List.getElem?_eq_getElem (show i < x0.length by omega)]
    have q1 : rd x1 i = x1[i]'(by omega) := by simp [rd, List.getD_eq_getElem?_getD, List.getElem?_eq_getElem (show i < x1.length by omega)]
    have e2 : wrap64 ((i : Int) + 1) = ((i + 1 : Nat) : Int) := by unfold wrap64; omega
    simp only [mailcoachlaw01_SameBytes.l0]
    rw [if_pos c1, if_pos c2, if_pos c3]
    by_cases hq : rd x0 i = rd x1 i
    · rw [if_pos hq, e2]
      refine ih k (i + 1) (by clear e2; omega) (by clear e2; omega) ?_
      rw [List.take_succ_eq_append_getElem (by clear e2; omega), List.take_succ_eq_append_getElem (by clear e2; omega), he, ← q0, ← q1, hq]
    · rw [if_neg hq]
      have hne : x0 ≠ x1 := fun h => hq (by rw [h])
      simp [hne]
theorem same_f (a b : List Int) (ha : a.length ≤ 9223372036854775806) (k : Nat) (hk : a.length < k) : mailcoachlaw01_SameBytes.f k a b = some (decide (a = b)) := by
  unfold mailcoachlaw01_SameBytes.f
  by_cases hl : (a.length : Int) = (b.length : Int)
  · rw [if_pos hl]
    exact same_l0 a b (by omega) ha a.length k 0 (by omega) hk (by simp)
  · rw [if_neg hl]
    have hne : a ≠ b := fun h => hl (by rw [h])
    simp [hne]
theorem or_at : ∀ c : Nat, c < 64 → Go.bits .or .u8 (c : Int) 64 = 64 + c ∧ Go.bits .or .u8 (c : Int) 128 = 128 + c ∧ Go.bits .or .u8 (c : Int) 192 = 192 + c := by decide +kernel
theorem or_int (c : Int) (h0 : 0 ≤ c) (h1 : c < 64) : Go.bits .or .u8 c 64 = 64 + c ∧ Go.bits .or .u8 c 128 = 128 + c ∧ Go.bits .or .u8 c 192 = 192 + c := by
  obtain ⟨n, rfl⟩ := Int.eq_ofNat_of_zero_le h0
  exact or_at n (by omega)
theorem p8 : (2 : Int) ^ min 8 IntKind.u64.bits = 256 := by decide
theorem p16 : (2 : Int) ^ min 16 IntKind.u64.bits = 65536 := by decide
theorem p24 : (2 : Int) ^ min 24 IntKind.u64.bits = 16777216 := by decide
theorem p32 : (2 : Int) ^ min 32 IntKind.u64.bits = 4294967296 := by decide
theorem p40 : (2 : Int) ^ min 40 IntKind.u64.bits = 1099511627776 := by decide
theorem p48 : (2 : Int) ^ min 48 IntKind.u64.bits = 281474976710656 := by decide
theorem p56 : (2 : Int) ^ min 56 IntKind.u64.bits = 72057594037927936 := by decide
theorem put_eq (a : Int) (a0 : 0 ≤ a) : ∃ l e, varint_Put.f a = some (l, e) ∧ mailcoachref01_Put.f 12 a = some (l, e) ∧ l.length ≤ 8 := by
  unfold varint_Put.f mailcoachref01_Put.f mailcoachref01_Size.f
  by_cases h1 : 4611686018427387903 < a
  · rw [if_pos h1, if_pos (by omega)]; exact ⟨_, _, rfl, rfl, by simp⟩
  · rw [if_neg h1, if_neg (by omega), if_neg (show ¬ a > 4611686018427387903 by omega)]
    by_cases h2 : a < 64
    · rw [if_pos h2, if_pos h2]
      refine ⟨_, _, rfl, ?_, by simp⟩
      simp [mailcoachref01_Put.l0, wrap64, shr]
      omega
    · rw [if_neg h2, if_neg h2]
      by_cases h3 : a < 16384
      · rw [if_pos h3, if_pos h3]
        refine ⟨_, _, rfl, ?_, by simp⟩
        simp [mailcoachref01_Put.l0, wrap64, shr, rd]
        rw [p8, show a / 256 % 256 = a / 256 by omega, (or_int (a / 256) (by omega) (by omega)).1]
      · rw [if_neg h3, if_neg h3]
        by_cases h4 : a < 1073741824
        · rw [if_pos h4, if_pos h4]
          refine ⟨_, _, rfl, ?_, by simp⟩
          simp [mailcoachref01_Put.l0, wrap64, shr, rd]
          rw [p24, p16, p8, show a / 16777216 % 256 = a / 16777216 by omega, (or_int (a / 16777216) (by omega) (by omega)).2.1]
          exact ⟨rfl, rfl, rfl⟩
        · rw [if_neg h4, if_neg h4]
          refine ⟨_, _, rfl, ?_, by simp⟩
          simp [mailcoachref01_Put.l0, wrap64, shr, rd]
          rw [p56, p48, p40, p32, p24, p16, p8, show a / 72057594037927936 % 256 = a / 72057594037927936 by omega, (or_int (a / 72057594037927936) (by omega) (by omega)).2.2]
          exact ⟨rfl, rfl, rfl, rfl, rfl, rfl, rfl⟩
theorem VarintPuts (a : Int) (ha : (Lit.int .u64 a).wf = true) : ∃ k k2 l e, varint_Put.f a = some (l, e) ∧ mailcoachref01_Put.f k a = some (l, e) ∧ mailcoachlaw01_SameBytes.f k2 l l = some true ∧ l.length ≤ 100000000 := by
  have a0 : 0 ≤ a := by
    simp [Lit.wf, IntKind.min, IntKind.max, IntKind.signed, IntKind.bits] at ha
    omega
  obtain ⟨l, e, h1, h2, h3⟩ := put_eq a a0
  exact ⟨12, 9, l, e, h1, h2, by rw [same_f l l (by omega) 9 (by omega)]; simp, by omega⟩
end Go.Proofs.YtmkmefdajbdceaaDoor.Pure
