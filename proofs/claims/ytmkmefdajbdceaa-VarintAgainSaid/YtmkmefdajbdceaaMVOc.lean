/- Plain facts: bytes as one number. -/
import Derived.Test.YtmkmefdajbdceaaMVOa
namespace Go.Proofs.Ytmkmefdajbdceaa.Pure
open Go.RowKit Go.Proofs.Ytmkmefdajbdceaa.PVO Go.Proofs.YtmkmefdajbdceaaW.PrintWords Go.Proofs.YtmkmefdajbdceaaW.PrintLast
set_option linter.unusedVariables false
set_option linter.unusedSimpArgs false

def V : List Int → Int
  | [] => 0
  | c :: l => c * 256 ^ l.length + V l
theorem pow256 (j : Nat) : (256 : Int) ^ (j + 1) = 256 * 256 ^ j := by rw [Int.pow_succ, Int.mul_comm]
theorem pow256_pos (j : Nat) : (0 : Int) < 256 ^ j := Int.pow_pos (by decide)
theorem V_bd : ∀ (l : List Int), Bytes l → 0 ≤ V l ∧ V l < 256 ^ l.length
  | [], _ => by simp [V]
  | c :: l, h => by
    have hc := h c (by simp)
    have ih := V_bd l (fun x hx => h x (by simp [hx]))
    have hp := pow256_pos l.length
    simp only [V, List.length_cons, pow256]
    have h1 : c * 256 ^ l.length ≤ 255 * 256 ^ l.length := Int.mul_le_mul_of_nonneg_right (by omega) (by omega)
    have h2 : 0 ≤ c * 256 ^ l.length := Int.mul_nonneg hc.1 (by omega)
    omega
theorem lp_V : ∀ (d : List Int) (a : Int), Bytes d → 0 ≤ a → (a + 1) * 256 ^ d.length ≤ 4611686018427387904 → varint_Get.lp a d = a * 256 ^ d.length + V d
  | [], a, _, _, _ => by show a = _; simp [V]
  | c :: d, a, h, h0, h1 => by
    have hc := h c (by simp)
    have hp := pow256_pos d.length
    have hpow : (256 : Int) ^ (c :: d).length = 256 * 256 ^ d.length := by rw [List.length_cons, pow256]
    rw [hpow] at h1 ⊢
    have ha : (a + 1) * 256 ≤ 4611686018427387904 := by
      have h2 : (a + 1) * 256 * 1 ≤ (a + 1) * 256 * 256 ^ d.length := Int.mul_le_mul_of_nonneg_left (by omega) (by omega)
      rw [Int.mul_assoc (a + 1)] at h2
      rw [Int.mul_assoc (a + 1)] at h2
      omega
    have hst := get_st a c h0 (by omega) hc.1 hc.2
    have hle : (256 * a + c + 1) * 256 ^ d.length ≤ (a + 1) * (256 * 256 ^ d.length) := by
      have h2 : (256 * a + c + 1) * 256 ^ d.length ≤ ((a + 1) * 256) * 256 ^ d.length := Int.mul_le_mul_of_nonneg_right (by omega) (by omega)
      rw [Int.mul_assoc] at h2
      exact h2
    show varint_Get.lp (varint_Get.st a c) d = _
    rw [hst, lp_V d (256 * a + c) (fun x hx => h x (by simp [hx])) (by omega) (by omega)]
    simp only [V]
    rw [Int.add_mul, Int.mul_comm 256 a, Int.mul_assoc]
    omega
theorem p7 (j : Nat) (hj : j ≤ 7) : (256 : Int) ^ j ≤ 72057594037927936 := by
  rcases (show j = 0 ∨ j = 1 ∨ j = 2 ∨ j = 3 ∨ j = 4 ∨ j = 5 ∨ j = 6 ∨ j = 7 by omega) with rfl | rfl | rfl | rfl | rfl | rfl | rfl | rfl <;> simp only [Int.reducePow] <;> decide
/-- The number of a first byte c and the bytes d behind it, and all as one number. -/
theorem V_of (c : Int) (d : List Int) (h : Bytes (c :: d)) (hd : d.length ≤ 7) : V (c :: d) = c / 64 * 64 * 256 ^ d.length + varint_Get.lp (c % 64) d ∧ 0 ≤ varint_Get.lp (c % 64) d ∧ varint_Get.lp (c % 64) d < 64 * 256 ^ d.length := by
  have hc := h c (by simp)
  have hdb : Bytes d := fun x hx => h x (by simp [hx])
  have hp := pow256_pos d.length
  have h7 := p7 d.length hd
  have hm : (c % 64 + 1) * 256 ^ d.length ≤ 64 * 256 ^ d.length := Int.mul_le_mul_of_nonneg_right (by omega) (by omega)
  have hv := V_bd d hdb
  have h0 : 0 ≤ c % 64 * 256 ^ d.length := Int.mul_nonneg (by omega) (by omega)
  have e := lp_V d (c % 64) hdb (by omega) (by omega)
  refine ⟨?_, by omega, ?_⟩
  · rw [e]
    simp only [V]
    have hc2 : c = c / 64 * 64 + c % 64 := by omega
    have : c * 256 ^ d.length = (c / 64 * 64 + c % 64) * 256 ^ d.length := by rw [← hc2]
    rw [this, Int.add_mul]
    omega
  · rw [e]
    rw [Int.add_mul] at hm
    omega
/-- Bytes of one length compare as their numbers. -/
theorem V_lt (a b : Int) (x y : List Int) (hl : x.length = y.length) (hx : Bytes x) (hy : Bytes y) (hab : a < b) : V (a :: x) < V (b :: y) := by
  have h1 := V_bd x hx
  have h2 := V_bd y hy
  have hp := pow256_pos y.length
  simp only [V]
  rw [hl] at h1 ⊢
  have : (a + 1) * 256 ^ y.length ≤ b * 256 ^ y.length := Int.mul_le_mul_of_nonneg_right (by omega) (by omega)
  rw [Int.add_mul] at this
  omega
end Go.Proofs.Ytmkmefdajbdceaa.Pure
