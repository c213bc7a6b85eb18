/- mailcoachlaw01.VarintGets: for any bytes (2^20 at most, else it claims nothing) varint.Get of a copy with spare room answers just what mailcoachref01.Get answers, and the copy is as it was, its spare room too.
   Conditions: none. -/
import Derived.Test.YtmkmefdajbdceaaPVGx1
import Derived.Laws.BitsAllLaws
namespace Go.Proofs.Ytmkmefdajbdceaa.Pure
open Go.RowKit Go.Proofs.Ytmkmefdajbdceaa.PVG Go.Proofs.YtmkmefdajbdceaaW.PrintWords Go.Proofs.YtmkmefdajbdceaaW.PrintLast

theorem or_join (i : Nat) (a c : Int) (h0 : 0 ≤ a) (c0 : 0 ≤ c) (c1 : c < 2 ^ i) (h1 : a * 2 ^ i + c < 18446744073709551616) : bits .or .u64 (a * 2 ^ i) c = a * 2 ^ i + c := by
  obtain ⟨a, rfl⟩ := Int.eq_ofNat_of_zero_le h0
  obtain ⟨c, rfl⟩ := Int.eq_ofNat_of_zero_le c0
  have e : (a : Int) * 2 ^ i = ((2 ^ i * a : Nat) : Int) := by rw [Int.natCast_mul, Int.natCast_pow, Int.mul_comm]; rfl
  rw [e] at h1 ⊢
  have hc : c < 2 ^ i := by
    have : ((2 ^ i : Nat) : Int) = 2 ^ i := by rw [Int.natCast_pow]; rfl
    omega
  rw [u64_or_nat _ _ (by omega) (by omega), ← Nat.two_pow_add_eq_or_of_lt hc]
  omega

theorem get_st (n c : Int) (h0 : 0 ≤ n) (h1 : n < 72057594037927936) (c0 : 0 ≤ c) (c1 : c < 256) : varint_Get.st n c = 256 * n + c := by
  unfold varint_Get.st
  rw [IntKind.wrap_u64, IntKind.wrap_u64, Int.emod_eq_of_lt (by omega) (by omega), Int.emod_eq_of_lt (by omega) (by omega)]
  have := or_join 8 n c h0 c0 (by omega) (by omega)
  simp only [show (2 : Int) ^ 8 = 256 from rfl] at this
  rw [this]; omega

theorem wf_u8 {x : Int} (h : (Lit.int .u8 x).wf = true) : 0 ≤ x ∧ x < 256 := by
  simp [Lit.wf, IntKind.min, IntKind.max, IntKind.signed, IntKind.bits] at h
  omega
theorem rd_bd {l : List Int} (hl : ∀ x ∈ l, 0 ≤ x ∧ x < 256) (i : Nat) (hi : i < l.length) : 0 ≤ rd l i ∧ rd l i < 256 := by
  apply hl
  unfold rd
  rw [List.getD_eq_getElem?_getD, List.getElem?_eq_getElem (by simpa using hi)]
  exact List.getElem_mem _
def gbd : Nat → Int
  | 0 => 64
  | j + 1 => 256 * gbd j
theorem gbd_s (j : Nat) : gbd (j + 1) = 256 * gbd j := by simp only [gbd]
theorem gbd_le (j : Nat) (h : j ≤ 6) : gbd j ≤ 18014398509481984 := by
  rcases (show j = 0 ∨ j = 1 ∨ j = 2 ∨ j = 3 ∨ j = 4 ∨ j = 5 ∨ j = 6 by omega) with rfl | rfl | rfl | rfl | rfl | rfl | rfl <;> simp [gbd]
theorem get_l1 (x0 : List Int) (hl : ∀ x ∈ x0, 0 ≤ x ∧ x < 256) (s : Nat) (hs : s ≤ x0.length) (hs8 : s ≤ 8) (d : Nat) : ∀ (k i : Nat) (n : Int), 1 ≤ i → i + d = s → d < k → 0 ≤ n → n < gbd (i - 1) →
    mailcoachref01_Get.l1 k x0 s n i = some (varint_Get.lp n ((x0.take s).drop i), (s : Int), 0) := by
  induction d with
  | zero =>
    intro k i n hi hd hk h0 h1
    obtain ⟨k, rfl⟩ : ∃ m, k = m + 1 := ⟨k - 1, by omega⟩
    simp only [mailcoachref01_Get.l1]
    rw [if_neg (by omega)]
    have e : (x0.take s).drop i = [] := by simp; omega
    rw [e]; rfl
  | succ d ih =>
    intro k i n hi hd hk h0 h1
    obtain ⟨k, rfl⟩ : ∃ m, k = m + 1 := ⟨k - 1, by omega⟩
    have hb := rd_bd hl i (by omega)
    have c1 : (i : Int) < s := by omega
    have c2 : (0 : Int) ≤ i := by omega
    have c3 : (i : Int) < x0.length := by omega
    have hp := gbd_le (i - 1) (by omega)
    have hst := get_st n (rd x0 i) h0 (by omega) hb.1 hb.2
    have hps : gbd (i + 1 - 1) = 256 * gbd (i - 1) := by
      obtain ⟨j, rfl⟩ : ∃ j, i = j + 1 := ⟨i - 1, by omega⟩
      simp only [Nat.add_sub_cancel, gbd_s]
    have q1 : 0 ≤ varint_Get.st n (rd x0 i) := by rw [hst]; omega
    have q2 : varint_Get.st n (rd x0 i) < gbd (i + 1 - 1) := by rw [hst, hps]; omega
    have hih := ih k (i + 1) _ (by omega) (by omega) (by omega) q1 q2
    have e1 : IntKind.u64.wrap (IntKind.u64.wrap (256 * n) + IntKind.u64.wrap (rd x0 i)) = varint_Get.st n (rd x0 i) := by
      rw [hst, IntKind.wrap_u64, IntKind.wrap_u64, IntKind.wrap_u64]
      omega
    have e2 : wrap64 ((i : Int) + 1) = ((i + 1 : Nat) : Int) := by unfold wrap64; omega
    have e3 : (x0.take s).drop i = rd x0 i :: (x0.take s).drop (i + 1) := by
      clear e1 e2
      rw [List.drop_eq_getElem_cons (by simp; omega)]
      simp [rd, List.getD_eq_getElem?_getD, List.getElem?_eq_getElem (show i < x0.length by omega)]
    simp only [mailcoachref01_Get.l1]
    rw [if_pos c1, if_pos c2, if_pos c3, e1, e2, hih, e3]
    rfl
theorem ref_l0 (k : Nat) (x0 : List Int) (x5 x6 : Int) (h0 : 0 < (x0.length : Int)) : mailcoachref01_Get.l0 (k + 1) x0 x5 x6 = if x6 < wrap64 (rd x0 0 / 64) then mailcoachref01_Get.l0 k x0 (wrap64 (2 * x5)) (wrap64 (x6 + 1)) else if (x0.length : Int) < x5 then some (0, 0, 4) else mailcoachref01_Get.l1 k x0 x5 (IntKind.u64.wrap (Go.bits .and .u8 (rd x0 0) 63)) 1 := by
  simp only [mailcoachref01_Get.l0]
  rw [if_pos h0]
theorem w64 {n : Int} (h0 : -9223372036854775808 ≤ n) (h1 : n ≤ 9223372036854775807) : wrap64 n = n := by unfold wrap64; omega
theorem ref_head (k : Nat) (x0 : List Int) (h0 : 0 < (x0.length : Int)) (c : Int) (hc : rd x0 0 / 64 = c) (s : Int) (hs : (c = 0 ∧ s = 1) ∨ (c = 1 ∧ s = 2) ∨ (c = 2 ∧ s = 4) ∨ (c = 3 ∧ s = 8)) :
    ∃ k', k ≤ k' ∧ mailcoachref01_Get.l0 (k + 4) x0 1 0 = if (x0.length : Int) < s then some (0, 0, 4) else mailcoachref01_Get.l1 k' x0 s (IntKind.u64.wrap (Go.bits .and .u8 (rd x0 0) 63)) 1 := by
  rcases hs with ⟨rfl, rfl⟩ | ⟨rfl, rfl⟩ | ⟨rfl, rfl⟩ | ⟨rfl, rfl⟩
  · refine ⟨k + 3, by omega, ?_⟩
    rw [ref_l0 _ _ _ _ h0, hc, w64 (n := 0) (by omega) (by omega), if_neg (by omega)]
  · refine ⟨k + 2, by omega, ?_⟩
    rw [ref_l0 _ _ _ _ h0, hc, w64 (n := 1) (by omega) (by omega), if_pos (by omega), w64 (n := 2 * 1) (by omega) (by omega), w64 (n := 0 + 1) (by omega) (by omega), ref_l0 _ _ _ _ h0, hc, w64 (n := 1) (by omega) (by omega), if_neg (by omega)]
    rfl
  · refine ⟨k + 1, by omega, ?_⟩
    rw [ref_l0 _ _ _ _ h0, hc, w64 (n := 2) (by omega) (by omega), if_pos (by omega), w64 (n := 2 * 1) (by omega) (by omega), w64 (n := 0 + 1) (by omega) (by omega), ref_l0 _ _ _ _ h0, hc, w64 (n := 2) (by omega) (by omega), if_pos (by omega), w64 (n := 2 * (2 * 1)) (by omega) (by omega), w64 (n := 0 + 1 + 1) (by omega) (by omega), ref_l0 _ _ _ _ h0, hc, w64 (n := 2) (by omega) (by omega), if_neg (by omega)]
    rfl
  · refine ⟨k, by omega, ?_⟩
    rw [ref_l0 _ _ _ _ h0, hc, w64 (n := 3) (by omega) (by omega), if_pos (by omega), w64 (n := 2 * 1) (by omega) (by omega), w64 (n := 0 + 1) (by omega) (by omega), ref_l0 _ _ _ _ h0, hc, w64 (n := 3) (by omega) (by omega), if_pos (by omega), w64 (n := 2 * (2 * 1)) (by omega) (by omega), w64 (n := 0 + 1 + 1) (by omega) (by omega), ref_l0 _ _ _ _ h0, hc, w64 (n := 3) (by omega) (by omega), if_pos (by omega), w64 (n := 2 * (2 * (2 * 1))) (by omega) (by omega), w64 (n := 0 + 1 + 1 + 1) (by omega) (by omega), ref_l0 _ _ _ _ h0, hc, w64 (n := 3) (by omega) (by omega), if_neg (by omega)]
    rfl
theorem VarintGets : mailcoachlaw01_VarintGets.Pure := by
  intro l0 hn hw
  have hl : ∀ x ∈ l0, 0 ≤ x ∧ x < 256 := fun x hx => wf_u8 (hw x hx)
  by_cases h0 : l0.length = 0
  · exact ⟨0, (0, 0, 4), by unfold varint_Get.f; rw [if_pos h0], by unfold mailcoachref01_Get.f; rw [if_pos (by omega)]⟩
  · have hb : 0 ≤ rd l0 0 ∧ rd l0 0 < 256 := rd_bd hl 0 (by omega)
    obtain ⟨hs, hc⟩ := varint_Get.sz_cases _ hb
    obtain ⟨s, hse⟩ : ∃ s, varint_Get.sz (rd l0 0) = s := ⟨_, rfl⟩
    rw [hse] at hs hc
    obtain ⟨k', hk', hr⟩ := ref_head 10 l0 (by omega) _ rfl s (by omega)
    refine ⟨14, if (l0.length : Int) < s then (0, 0, 4) else (varint_Get.lp (rd l0 0 % 64) ((l0.take s).drop 1), (s : Int), 0), ?_, ?_⟩
    · unfold varint_Get.f
      rw [if_neg h0, if_pos hb, hse]
      split <;> rfl
    · unfold mailcoachref01_Get.f
      rw [if_neg (by omega), hr]
      split
      · rfl
      · rename_i hlt
        rw [u8_and63 _ hb.1 hb.2, IntKind.wrap_u64, Int.emod_eq_of_lt (by omega) (by omega)]
        exact get_l1 l0 hl s (by omega) (by omega) (s - 1) k' 1 _ (by omega) (by omega) (by omega) (by omega) (by simp [gbd]; omega)

end Go.Proofs.Ytmkmefdajbdceaa.Pure
