/- Plain facts on what the laws of the code of few bits ask: SameBytes, alive, Beyond. -/
import Derived.Test.YtmkmefdajbdceaaPHOx7
import Derived.Test.YtmkmefdajbdceaaPHOx1
import Derived.Test.YtmkmefdajbdceaaPHOx4
import Derived.Test.YtmkmefdajbdceaaMHa
namespace Go.Proofs.Ytmkmefdajbdceaa.Pure
open Go.RowKit Go.Proofs.Ytmkmefdajbdceaa.PHO Go.Proofs.YtmkmefdajbdceaaW.PrintWords Go.Proofs.YtmkmefdajbdceaaW.PrintLast
set_option linter.unusedVariables false
set_option linter.unusedSimpArgs false

theorem wf_u8 {x : Int} (h : (Lit.int .u8 x).wf = true) : 0 ≤ x ∧ x < 256 := by
  simp [Lit.wf, IntKind.min, IntKind.max, IntKind.signed, IntKind.bits] at h
  omega
theorem same_l0 (x0 x1 : List Int) (hl : x0.length = x1.length) (hn : x0.length ≤ 9223372036854775806) (d : Nat) : ∀ (k i : Nat), i + d = x0.length → d < k → x0.take i = x1.take i →
    mailcoachlaw01_SameBytes.l0 k x0 x1 i = some (decide (x0 = x1)) := by
  induction d with
  | zero =>
    intro k i hi hk he
    obtain ⟨k, rfl⟩ : ∃ m, k = m + 1 := ⟨k - 1, by omega⟩
    have h1 : x0.take i = x0 := List.take_of_length_le (by omega)
    have h2 : x1.take i = x1 := List.take_of_length_le (by omega)
    rw [h1, h2] at he
    simp only [mailcoachlaw01_SameBytes.l0]
    rw [if_neg (by omega)]
    simp [he]
  | succ d ih =>
    intro k i hi hk he
    obtain ⟨k, rfl⟩ : ∃ m, k = m + 1 := ⟨k - 1, by omega⟩
    have c1 : (i : Int) < x0.length := by omega
    have c2 : (0 : Int) ≤ i := by omega
    have c3 : (i : Int) < x1.length := by omega
    have q0 : rd x0 i = x0[i]'(by omega) := by simp [rd, List.getD_eq_getElem?_getD, List.getElem?_eq_getElem (show i < x0.length by omega)]
    have q1 : rd x1 i = x1[i]'(by omega) := by simp [rd, List.getD_eq_getElem?_getD, List.getElem?_eq_getElem (show i < x1.length by omega)]
    have e2 : wrap64 ((i : Int) + 1) = ((i + 1 : Nat) : Int) := by unfold wrap64; omega
    simp only [mailcoachlaw01_SameBytes.l0]
    rw [if_pos c1, if_pos c2, if_pos c3]
    by_cases hq : rd x0 i = rd x1 i
    · rw [if_pos hq, e2]
      refine ih k (i + 1) (by clear e2; omega) (by clear e2; omega) ?_
      rw [List.take_succ_eq_append_getElem (by clear e2; omega), List.take_succ_eq_append_getElem (by clear e2; omega), he, ← q0, ← q1, hq]
    · rw [if_neg hq]
      have hne : x0 ≠ x1 := fun h => hq (by rw [h])
      simp [hne]
theorem same_f (a b : List Int) (ha : a.length ≤ 9223372036854775806) (k : Nat) (hk : a.length < k) : mailcoachlaw01_SameBytes.f k a b = some (decide (a = b)) := by
  unfold mailcoachlaw01_SameBytes.f
  by_cases hl : (a.length : Int) = (b.length : Int)
  · rw [if_pos hl]
    exact same_l0 a b (by omega) ha a.length k 0 (by omega) hk (by simp)
  · rw [if_neg hl]
    have hne : a ≠ b := fun h => hl (by rw [h])
    simp [hne]
theorem alive10_true : mailcoachlaw10_alive.f 40 = some true := by decide +kernel
theorem alive10_at (k : Nat) (hk : 40 ≤ k) : mailcoachlaw10_alive.f k = some true := at_rounds (mailcoachlaw10_alive.mono) hk alive10_true
theorem beyond_one (n : Nat) (hn : n ≤ 9223372036854775807) (k : Nat) (hk : 2 ≤ k) : mailcoachlaw01_Beyond.f k [(n : Int)] = some (decide (1048576 < n)) := by
  refine at_rounds (mailcoachlaw01_Beyond.mono _) hk ?_
  have e : wrap64 (0 + rd [(n : Int)] 0) = n := by simp only [rd, wrap64]; simp; omega
  unfold mailcoachlaw01_Beyond.f
  simp only [mailcoachlaw01_Beyond.l0]
  rw [if_pos (by simp), if_pos (by simp), e]
  by_cases h : 1048576 < n
  · rw [if_pos (by omega)]; simp [h]
  · rw [if_neg (by omega)]
    have e1 : wrap64 (0 + 1) = 1 := by unfold wrap64; omega
    rw [e1, if_neg (by simp)]
    simp [h]
theorem huff_Get_cases (l : List Int) (h : l.length ≤ 1048576) : huff_Get.f l = some (⟨#[]⟩, 5) ∨ ∃ s, huff_Get.f l = some (s, 0) := by
  unfold huff_Get.f
  rw [if_neg (by omega)]
  cases huff_go (huff_bits8 l) 0 0 true [] with
  | none => exact .inl rfl
  | some r =>
    obtain ⟨x, n, o, out⟩ := r
    by_cases hc : 8 ≤ n ∨ o = false
    · left; simp only [hc, if_true]
    · right; exact ⟨strOfNums out, by simp only [hc, if_false]⟩
end Go.Proofs.Ytmkmefdajbdceaa.Pure
