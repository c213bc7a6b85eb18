/- mailcoachlaw01.VarintAgain: what varint.Get and varint.GetPrefix get of any bytes (2^20 at most, else nothing is claimed) is got again when it is put, from as many bytes at most; where there is an error all else is 0.
   Conditions: none. -/
import Derived.Test.YtmkmefdajbdceaaPVOx11
import Derived.Test.YtmkmefdajbdceaaMVOb
import Derived.Test.YtmkmefdajbdceaaMVOc
namespace Go.Proofs.Ytmkmefdajbdceaa.Pure
open Go.RowKit Go.Proofs.Ytmkmefdajbdceaa.PVO Go.Proofs.YtmkmefdajbdceaaW.PrintWords Go.Proofs.YtmkmefdajbdceaaW.PrintLast

theorem again_prefix (a0 : Int) (l1 : List Int) (hb : Bytes l1) (hn : l1.length ≤ 1048576) (k : Nat) : mailcoachlaw01_VarintAgain.j1 (k + 1) a0 l1 = some true := by
  simp only [mailcoachlaw01_VarintAgain.j1]
  unfold varint_GetPrefix.f
  by_cases h1 : a0 < 1 ∨ 8 < a0
  · rw [if_pos h1]; rfl
  · rw [if_neg h1]
    by_cases h0 : l1.length = 0
    · rw [if_pos h0]; rfl
    · rw [if_neg h0, if_pos (ok_of_bytes hb)]
      obtain ⟨m1, m2, m3⟩ := M_bd a0 (by omega) (by omega)
      have hr := rd_bd hb 0 (by omega)
      have hr0 : 0 ≤ rd l1 0 := hr.1
      have hr1 : rd l1 0 < 256 := hr.2
      have hq : (0 : Int) < 2 ^ a0.toNat := Int.pow_pos (by decide)
      have hk0 : 0 ≤ rd l1 0 % 2 ^ a0.toNat := Int.emod_nonneg _ (by omega)
      have hkle : rd l1 0 % 2 ^ a0.toNat ≤ rd l1 0 := by
        have h3 := Int.mul_ediv_add_emod (rd l1 0) (2 ^ a0.toNat)
        have h4 : 0 ≤ 2 ^ a0.toNat * (rd l1 0 / 2 ^ a0.toNat) := Int.mul_nonneg (Int.le_of_lt hq) (Int.ediv_nonneg hr0 (Int.le_of_lt hq))
        omega
      have hB : (rd l1 0 - rd l1 0 % 2 ^ a0.toNat) % 2 ^ a0.toNat = 0 := by
        have h3 := Int.mul_ediv_add_emod (rd l1 0) (2 ^ a0.toNat)
        have : rd l1 0 - rd l1 0 % 2 ^ a0.toNat = 2 ^ a0.toNat * (rd l1 0 / 2 ^ a0.toNat) := by omega
        rw [this, Int.mul_emod_right]
      by_cases hl : rd l1 0 % 2 ^ a0.toNat < varint_GetPrefix.M a0
      · rw [if_pos hl]
        simp only [Option.bind_some]
        unfold varint_PutPrefix.f
        rw [if_pos trivial, if_neg (by omega), if_neg (by omega), if_neg (by omega), if_pos hl]
        simp only [Option.bind_some]
        rw [if_pos trivial, if_pos (by simp), if_pos (by omega)]
        simp
      · rw [if_neg hl]
        obtain ⟨⟨r1, r2, r3, r4⟩, hS⟩ : ∃ R, varint_GetPrefix.S (l1.drop 1) (varint_GetPrefix.M a0) (rd l1 0 - rd l1 0 % 2 ^ a0.toNat) 10 0 0 = R := ⟨_, rfl⟩
        rw [hS]
        simp only [Option.bind_some]
        rcases S_tells _ _ _ (by omega) 10 0 0 (by omega) (by omega) (by simp) r1 r2 r3 r4 hS with ⟨rfl, rfl, rfl, h4⟩ | ⟨rfl, rfl, j, T, rfl, hT0, hT1, hT2, rfl, hj, hj9⟩
        · rw [if_neg h4]; rfl
        · rw [if_pos rfl]
          unfold varint_PutPrefix.f
          rw [if_neg (by omega), if_neg (by omega), if_neg (by omega), if_neg (by omega)]
          simp only [Option.bind_some]
          have hlen := L_len j 9 T hT0 hT2
          rw [List.length_drop] at hj
          rw [show T + varint_GetPrefix.M a0 - varint_GetPrefix.M a0 = T by omega, if_pos trivial, if_pos (by simp only [List.length_cons]; omega), if_pos (by omega)]
          simp
          omega
theorem head_VarintAgain (k : Nat) (hk : 40 ≤ k) (a0 : Int) (l1 : List Int) (h : l1.length ≤ 140737488351232) : mailcoachlaw01_VarintAgain.f k a0 l1 = mailcoachlaw01_VarintAgain.j0 k a0 l1 (decide (1048576 < l1.length)) := by
  have hb := beyond_one l1.length (by omega) k (by omega)
  unfold mailcoachlaw01_VarintAgain.f
  rw [alive_at k hk]
  simp only [Option.bind_some, if_true]
  rw [hb]
  simp only [Option.bind_some]
theorem far_VarintAgain (k : Nat) (hk : 40 ≤ k) (a0 : Int) (l1 : List Int) : mailcoachlaw01_VarintAgain.j0 (k + 1) a0 l1 true = some true := by
  simp only [mailcoachlaw01_VarintAgain.j0, if_true]
  rw [alive_at k hk]
  rfl
theorem VarintAgain : mailcoachlaw01_VarintAgain.Pure := by
  intro a0 l1 _ _ hsz hwb
  have hb : Bytes l1 := fun x hx => wf_u8 (hwb x hx)
  obtain ⟨k, hk60⟩ : ∃ k : Nat, 100 ≤ k := ⟨100, Nat.le_refl _⟩
  refine ⟨k + 1 + 1, ?_⟩
  rw [head_VarintAgain (k + 1 + 1) (by omega) a0 l1 (by omega)]
  by_cases hby : 1048576 < l1.length
  · rw [decide_eq_true hby]
    exact far_VarintAgain (k + 1) (by omega) a0 l1
  · rw [decide_eq_false hby]
    simp only [mailcoachlaw01_VarintAgain.j0]
    rw [if_neg (by decide)]
    have hpre := again_prefix a0 l1 hb (by omega) k
    cases l1 with
    | nil =>
      rw [show varint_Get.f [] = some (0, 0, 4) by simp [varint_Get.f]]
      exact hpre
    | cons c r =>
      have hc := hb c (by simp)
      obtain ⟨hs8, hsc⟩ := varint_Get.sz_cases c hc
      obtain ⟨s, hs⟩ : ∃ s, varint_Get.sz c = s := ⟨_, rfl⟩
      rw [hs] at hs8 hsc
      by_cases hlt : r.length + 1 < s
      · rw [get_short c r hc.1 hc.2 (by rw [hs]; exact hlt)]
        exact hpre
      · obtain ⟨d, more, rfl, hd⟩ : ∃ d more, r = d ++ more ∧ d.length + 1 = s := ⟨r.take (s - 1), r.drop (s - 1), (List.take_append_drop _ _).symm, by rw [List.length_take]; omega⟩
        have hcd : Bytes (c :: d) := fun x hx => hb x (by simp only [List.mem_cons, List.mem_append] at hx ⊢; rcases hx with h | h; exact .inl h; exact .inr (.inl h))
        obtain ⟨_, n0, n1⟩ := V_of c d hcd (by omega)
        obtain ⟨n, hn⟩ : ∃ n, varint_Get.lp (c % 64) d = n := ⟨_, rfl⟩
        have hget := get_of c d more hc.1 hc.2 s hs hd
        rw [hn] at n0 n1 hget
        rw [List.cons_append] at hget
        rw [hget]
        simp only [Option.bind_some]
        rw [if_pos trivial]
        have hnb : (s = 1 ∧ n < 64) ∨ (s = 2 ∧ n < 16384) ∨ (s = 4 ∧ n < 1073741824) ∨ (s = 8 ∧ n < 4611686018427387904) := by
          rcases hsc with ⟨_, rfl⟩ | ⟨_, rfl⟩ | ⟨_, rfl⟩ | ⟨_, rfl⟩
          · rw [show d.length = 0 by omega] at n1; exact .inl ⟨rfl, by simpa using n1⟩
          · rw [show d.length = 1 by omega] at n1; exact .inr (.inl ⟨rfl, by simpa using n1⟩)
          · rw [show d.length = 3 by omega] at n1; exact .inr (.inr (.inl ⟨rfl, by simpa using n1⟩))
          · rw [show d.length = 7 by omega] at n1; exact .inr (.inr (.inr ⟨rfl, by simpa using n1⟩))
        obtain ⟨c', d', s', hp', hc', hcd', hs', hl', hlp', hk'⟩ := put_form n n0 (by omega)
        rw [hp']
        simp only [Option.bind_some]
        have hget' := get_of c' d' [] hc'.1 hc'.2 s' hs' hl'
        rw [List.append_nil, hlp'] at hget'
        have hlen' : (c' :: d').length = s' := by simpa using hl'
        rw [hget']
        simp only [Option.bind_some, if_true]
        rw [hlen', if_pos rfl, if_neg (by omega), if_neg (by simp only [List.length_cons, List.length_append]; omega)]
        exact hpre

end Go.Proofs.Ytmkmefdajbdceaa.Pure
