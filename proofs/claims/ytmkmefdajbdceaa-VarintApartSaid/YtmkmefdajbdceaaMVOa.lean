/- Plain facts on the numbers of few bytes: what was put is got again; of fewer bytes, none; what is got is put in as many bytes at most. -/
import Derived.Test.YtmkmefdajbdceaaPVOx8
import Derived.Test.YtmkmefdajbdceaaPVOx1
import Derived.Laws.BitsAllLaws
namespace Go.Proofs.Ytmkmefdajbdceaa.Pure
open Go.RowKit Go.Proofs.Ytmkmefdajbdceaa.PVO Go.Proofs.YtmkmefdajbdceaaW.PrintWords Go.Proofs.YtmkmefdajbdceaaW.PrintLast
set_option linter.unusedVariables false
set_option linter.unusedSimpArgs false

def Bytes (l : List Int) : Prop := ∀ x ∈ l, 0 ≤ x ∧ x < 256
theorem wf_u8 {x : Int} (h : (Lit.int .u8 x).wf = true) : 0 ≤ x ∧ x < 256 := by
  simp [Lit.wf, IntKind.min, IntKind.max, IntKind.signed, IntKind.bits] at h
  omega
theorem wf_u64 {x : Int} (h : (Lit.int .u64 x).wf = true) : 0 ≤ x ∧ x < 18446744073709551616 := by
  simp [Lit.wf, IntKind.min, IntKind.max, IntKind.signed, IntKind.bits] at h
  omega
theorem ok_of_bytes {l : List Int} (h : Bytes l) : varint_GetPrefix.ok l = true := List.all_eq_true.2 fun x hx => by simpa using h x hx
theorem bytes_of_ok {l : List Int} (h : varint_GetPrefix.ok l = true) : Bytes l := fun x hx => by simpa using List.all_eq_true.1 h x hx
theorem bytes_append {a b : List Int} (ha : Bytes a) (hb : Bytes b) : Bytes (a ++ b) := fun x hx => by
  rcases List.mem_append.1 hx with h | h
  · exact ha x h
  · exact hb x h
theorem rd_bd {l : List Int} (hl : Bytes l) (i : Nat) (hi : i < l.length) : 0 ≤ rd l i ∧ rd l i < 256 := by
  apply hl
  unfold rd
  rw [List.getD_eq_getElem?_getD, List.getElem?_eq_getElem (by simpa using hi)]
  exact List.getElem_mem _
theorem get_st (n c : Int) (h0 : 0 ≤ n) (h1 : n < 72057594037927936) (c0 : 0 ≤ c) (c1 : c < 256) : varint_Get.st n c = 256 * n + c := by
  unfold varint_Get.st
  rw [IntKind.wrap_u64, IntKind.wrap_u64, Int.emod_eq_of_lt (by omega) (by omega), Int.emod_eq_of_lt (by omega) (by omega)]
  have := or_join 8 n c h0 c0 (by omega) (by omega)
  simp only [show (2 : Int) ^ 8 = 256 from rfl] at this
  rw [this]; omega
/-! ### 1. Get -/
/-- What is got of a list that begins with c, the bytes behind it being d. -/
theorem get_of (c : Int) (d more : List Int) (c0 : 0 ≤ c) (c1 : c < 256) (s : Nat) (hs : varint_Get.sz c = s) (hl : d.length + 1 = s) :
    varint_Get.f (c :: d ++ more) = some (varint_Get.lp (c % 64) d, (s : Int), 0) := by
  unfold varint_Get.f
  have e0 : rd (c :: d ++ more) 0 = c := by simp [rd]
  have e1 : ((c :: d ++ more).take s).drop 1 = d := by
    rw [← hl]
    simp
  rw [if_neg (by simp), e0, if_pos ⟨c0, c1⟩, hs, if_neg (by simp; omega), e1]
theorem get_short (c : Int) (d : List Int) (c0 : 0 ≤ c) (c1 : c < 256) (hl : d.length + 1 < varint_Get.sz c) : varint_Get.f (c :: d) = some (0, 0, 4) := by
  unfold varint_Get.f
  have e0 : rd (c :: d) 0 = c := by simp [rd]
  rw [if_neg (by simp), e0, if_pos ⟨c0, c1⟩, if_pos (by simp; omega)]
theorem lp1 (n a : Int) : varint_Get.lp n [a] = varint_Get.st n a := rfl
theorem lp3 (n a b c : Int) : varint_Get.lp n [a, b, c] = varint_Get.st (varint_Get.st (varint_Get.st n a) b) c := rfl
theorem lp7 (n a b c d e f g : Int) : varint_Get.lp n [a, b, c, d, e, f, g] = varint_Get.st (varint_Get.st (varint_Get.st (varint_Get.st (varint_Get.st (varint_Get.st (varint_Get.st n a) b) c) d) e) f) g := rfl
theorem sz1 {c : Int} (h : c / 64 = 0) : varint_Get.sz c = 1 := by unfold varint_Get.sz; rw [if_pos h]
theorem sz2 {c : Int} (h : c / 64 = 1) : varint_Get.sz c = 2 := by unfold varint_Get.sz; rw [if_neg (by omega), if_pos h]
theorem sz4 {c : Int} (h : c / 64 = 2) : varint_Get.sz c = 4 := by unfold varint_Get.sz; rw [if_neg (by omega), if_neg (by omega), if_pos h]
theorem sz8 {c : Int} (h : c / 64 = 3) : varint_Get.sz c = 8 := by unfold varint_Get.sz; rw [if_neg (by omega), if_neg (by omega), if_neg (by omega)]
/-- What Put makes of a number: a first byte c and the bytes d behind it. -/
theorem put_form (n : Int) (h0 : 0 ≤ n) (h1 : n ≤ 4611686018427387903) : ∃ c d s, varint_Put.f n = some (c :: d, 0) ∧ (0 ≤ c ∧ c < 256) ∧ Bytes (c :: d) ∧ varint_Get.sz c = s ∧ d.length + 1 = s ∧ varint_Get.lp (c % 64) d = n ∧
    ((s = 1 ∧ n < 64) ∨ (s = 2 ∧ 64 ≤ n ∧ n < 16384) ∨ (s = 4 ∧ 16384 ≤ n ∧ n < 1073741824) ∨ (s = 8 ∧ 1073741824 ≤ n)) := by
  unfold varint_Put.f
  rw [if_neg (by omega), if_neg (by omega)]
  by_cases a1 : n < 64
  · refine ⟨n, [], 1, by rw [if_pos a1], by omega, ?_, sz1 (by omega), rfl, ?_, .inl ⟨rfl, a1⟩⟩
    · intro x hx; simp at hx; omega
    · show n % 64 = n; omega
  · by_cases a2 : n < 16384
    · refine ⟨64 + n / 256, [n % 256], 2, by rw [if_neg a1, if_pos a2], by omega, ?_, sz2 (by omega), rfl, ?_, .inr (.inl ⟨rfl, by omega, a2⟩)⟩
      · intro x hx; simp at hx; omega
      · rw [lp1, get_st _ _ (by omega) (by omega) (by omega) (by omega)]; omega
    · by_cases a3 : n < 1073741824
      · refine ⟨128 + n / 16777216, [n / 65536 % 256, n / 256 % 256, n % 256], 4, by rw [if_neg a1, if_neg a2, if_pos a3], by omega, ?_, sz4 (by omega), rfl, ?_, .inr (.inr (.inl ⟨rfl, by omega, a3⟩))⟩
        · intro x hx; simp at hx; omega
        · have e1 : varint_Get.st ((128 + n / 16777216) % 64) (n / 65536 % 256) = n / 65536 := by rw [get_st _ _ (by omega) (by omega) (by omega) (by omega)]; omega
          have e2 : varint_Get.st (n / 65536) (n / 256 % 256) = n / 256 := by rw [get_st _ _ (by omega) (by omega) (by omega) (by omega)]; omega
          have e3 : varint_Get.st (n / 256) (n % 256) = n := by rw [get_st _ _ (by omega) (by omega) (by omega) (by omega)]; omega
          rw [lp3, e1, e2, e3]
      · refine ⟨192 + n / 72057594037927936, [n / 281474976710656 % 256, n / 1099511627776 % 256, n / 4294967296 % 256, n / 16777216 % 256, n / 65536 % 256, n / 256 % 256, n % 256], 8, by rw [if_neg a1, if_neg a2, if_neg a3], by omega, ?_, sz8 (by omega), rfl, ?_, .inr (.inr (.inr ⟨rfl, by omega⟩))⟩
        · intro x hx; simp at hx; omega
        · have e1 : varint_Get.st ((192 + n / 72057594037927936) % 64) (n / 281474976710656 % 256) = n / 281474976710656 := by rw [get_st _ _ (by omega) (by omega) (by omega) (by omega)]; omega
          have e2 : varint_Get.st (n / 281474976710656) (n / 1099511627776 % 256) = n / 1099511627776 := by rw [get_st _ _ (by omega) (by omega) (by omega) (by omega)]; omega
          have e3 : varint_Get.st (n / 1099511627776) (n / 4294967296 % 256) = n / 4294967296 := by rw [get_st _ _ (by omega) (by omega) (by omega) (by omega)]; omega
          have e4 : varint_Get.st (n / 4294967296) (n / 16777216 % 256) = n / 16777216 := by rw [get_st _ _ (by omega) (by omega) (by omega) (by omega)]; omega
          have e5 : varint_Get.st (n / 16777216) (n / 65536 % 256) = n / 65536 := by rw [get_st _ _ (by omega) (by omega) (by omega) (by omega)]; omega
          have e6 : varint_Get.st (n / 65536) (n / 256 % 256) = n / 256 := by rw [get_st _ _ (by omega) (by omega) (by omega) (by omega)]; omega
          have e7 : varint_Get.st (n / 256) (n % 256) = n := by rw [get_st _ _ (by omega) (by omega) (by omega) (by omega)]; omega
          rw [lp7, e1, e2, e3, e4, e5, e6, e7]
theorem put_great (n : Int) (h1 : 4611686018427387903 < n) : varint_Put.f n = some ([], 1) := by unfold varint_Put.f; rw [if_pos h1]

/-! ### 2. SameBytes, alive, Beyond -/
theorem same_l0 (x0 x1 : List Int) (hl : x0.length = x1.length) (hn : x0.length ≤ 9223372036854775806) (d : Nat) : ∀ (k i : Nat), i + d = x0.length → d < k → x0.take i = x1.take i →
    mailcoachlaw01_SameBytes.l0 k x0 x1 i = some (decide (x0 = x1)) := by
  induction d with
  | zero =>
    intro k i hi hk he
    obtain ⟨k, rfl⟩ : ∃ m, k = m + 1 := ⟨k - 1, by omega⟩
    have h1 : x0.take i = x0 := List.take_of_length_le (by omega)
    have h2 : x1.take i = x1 := List.take_of_length_le (by omega)
    rw [h1, h2] at he
    simp only [mailcoachlaw01_SameBytes.l0]
    rw [if_neg (by omega)]
    simp [he]
  | succ d ih =>
    intro k i hi hk he
    obtain ⟨k, rfl⟩ : ∃ m, k = m + 1 := ⟨k - 1, by omega⟩
    have c1 : (i : Int) < x0.length := by omega
    have c2 : (0 : Int) ≤ i := by omega
    have c3 : (i : Int) < x1.length := by omega
    have q0 : rd x0 i = x0[i]'(by omega) := by simp [rd, List.getD_eq_getElem?_getD, List.getElem?_eq_getElem (show i < x0.length by omega)]
    have q1 : rd x1 i = x1[i]'(by omega) := by simp [rd, List.getD_eq_getElem?_getD, List.getElem?_eq_getElem (show i < x1.length by omega)]
    have e2 : wrap64 ((i : Int) + 1) = ((i + 1 : Nat) : Int) := by unfold wrap64; omega
    simp only [mailcoachlaw01_SameBytes.l0]
    rw [if_pos c1, if_pos c2, if_pos c3]
    by_cases hq : rd x0 i = rd x1 i
    · rw [if_pos hq, e2]
      refine ih k (i + 1) (by clear e2; omega) (by clear e2; omega) ?_
      rw [List.take_succ_eq_append_getElem (by clear e2; omega), List.take_succ_eq_append_getElem (by clear e2; omega), he, ← q0, ← q1, hq]
    · rw [if_neg hq]
      have hne : x0 ≠ x1 := fun h => hq (by rw [h])
      simp [hne]
theorem same_f (a b : List Int) (ha : a.length ≤ 9223372036854775806) (k : Nat) (hk : a.length < k) : mailcoachlaw01_SameBytes.f k a b = some (decide (a = b)) := by
  unfold mailcoachlaw01_SameBytes.f
  by_cases hl : (a.length : Int) = (b.length : Int)
  · rw [if_pos hl]
    exact same_l0 a b (by omega) ha a.length k 0 (by omega) hk (by simp)
  · rw [if_neg hl]
    have hne : a ≠ b := fun h => hl (by rw [h])
    simp [hne]
theorem alive_true : mailcoachlaw01_alive.f 40 = some true := by decide +kernel
theorem alive_at (k : Nat) (hk : 40 ≤ k) : mailcoachlaw01_alive.f k = some true := at_rounds (mailcoachlaw01_alive.mono) hk alive_true
theorem beyond_one (n : Nat) (hn : n ≤ 9223372036854775807) (k : Nat) (hk : 2 ≤ k) : mailcoachlaw01_Beyond.f k [(n : Int)] = some (decide (1048576 < n)) := by
  refine at_rounds (mailcoachlaw01_Beyond.mono _) hk ?_
  have e : wrap64 (0 + rd [(n : Int)] 0) = n := by simp only [rd, wrap64]; simp; omega
  unfold mailcoachlaw01_Beyond.f
  simp only [mailcoachlaw01_Beyond.l0]
  rw [if_pos (by simp), if_pos (by simp), e]
  by_cases h : 1048576 < n
  · rw [if_pos (by omega)]; simp [h]
  · rw [if_neg (by omega)]
    have e1 : wrap64 (0 + 1) = 1 := by unfold wrap64; omega
    rw [e1, if_neg (by simp)]
    simp [h]
end Go.Proofs.Ytmkmefdajbdceaa.Pure
