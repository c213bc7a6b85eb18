/- mailcoachlaw10.HuffGets: for any bytes (2^21 at most, else it claims nothing) huff.Get of a copy with spare room answers just what mailcoachref10.Get answers, and the copy is as it was, its spare room too.
   Conditions: none. -/
import Derived.Test.YtmkmefdajbdceaaPHGx
namespace Go.Proofs.Ytmkmefdajbdceaa.Pure
open Go.RowKit Go.Proofs.Ytmkmefdajbdceaa.PHG Go.Proofs.YtmkmefdajbdceaaW.PrintWords Go.Proofs.YtmkmefdajbdceaaW.PrintLast

theorem huff_low_01 (c : Int) : ∀ j, ∀ b ∈ huff_low c j, b = 0 ∨ b = 1
  | 0, b, h => by cases h
  | j + 1, b, h => by
    rw [huff_low] at h
    rcases List.mem_cons.1 h with rfl | h
    · omega
    · exact huff_low_01 c j b h
theorem huff_bits8_01 (l : List Int) : ∀ b ∈ huff_bits8 l, b = 0 ∨ b = 1 := by
  intro b h
  obtain ⟨c, _, hc⟩ := List.mem_flatMap.1 h
  exact huff_low_01 c 8 b hc
theorem take_drop_snoc (B : List Int) (i a : Nat) (b : Int) (bs : List Int) (h : B.drop i = b :: bs) (ha : a ≤ i) : (B.take (i + 1)).drop a = (B.take i).drop a ++ [b] := by
  have hi : i < B.length := by
    rcases Nat.lt_or_ge i B.length with h1 | h1
    · exact h1
    · rw [List.drop_eq_nil_of_le h1] at h; cases h
  rw [List.drop_eq_getElem_cons hi] at h
  injection h with h1 h2
  rw [List.take_succ_eq_append_getElem hi, List.drop_append_of_le_length (by rw [List.length_take]; omega), h1]
theorem huff_agree (B : List Int) (hB : ∀ b ∈ B, b = 0 ∨ b = 1) : ∀ (bs : List Int) (i : Nat) (x : Int) (n at_ : Nat) (o : Bool) (out : List Int), B.drop i = bs → i ≤ B.length → huff_Inv x n → at_ + n = i → o = ((B.take i).drop at_).all (· == 1) →
    (huff_go bs x n o out = none ∧ ref10_go bs i x n at_ out = some none) ∨ ∃ (x' : Int) (n' at' : Nat) (o' : Bool) (out' : List Int), huff_go bs x n o out = some (x', (n' : Int), o', out') ∧ ref10_go bs i x n at_ out = some (some (at', out')) ∧ at' + n' = B.length ∧ o' = (B.drop at').all (· == 1)
  | [], i, x, n, at_, o, out, hd, hi, hv, ha, ho => by
    have hl : B.length ≤ i := by
      have := congrArg List.length hd
      simp at this
      omega
    obtain rfl : i = B.length := by omega
    rw [List.take_of_length_le (Nat.le_refl _)] at ho
    exact .inr ⟨x, n, at_, o, out, rfl, rfl, ha, ho⟩
  | b :: bs, i, x, n, at_, o, out, hd, hi, hv, ha, ho => by
    have hi2 : i < B.length := by
      rcases Nat.lt_or_ge i B.length with h1 | h1
      · exact h1
      · rw [List.drop_eq_nil_of_le h1] at hd; cases hd
    have hb : b = 0 ∨ b = 1 := hB b (List.mem_of_mem_drop (i := i) (by rw [hd]; exact List.mem_cons_self))
    have hd2 : B.drop (i + 1) = bs := by
      rw [List.drop_eq_getElem_cons hi2] at hd
      injection hd
    have hts := take_drop_snoc B i at_ b bs hd (by omega)
    obtain ⟨n0, n1, n2⟩ := hv.next b hb
    have hp := huff_pow_le (n + 1) (by have := hv.n30; omega)
    have hn30 := hv.n30
    have e1 : x * 2 % 4294967296 + b = 2 * x + b := by have := hv.x0; omega
    have e2 : 2 * x % 4294967296 + b = 2 * x + b := by have := hv.x0; omega
    have e3 : ((n : Int) + 1) % 256 = ((n + 1 : Nat) : Int) := by omega
    rw [huff_go_cons, ref10_go, e1, e2, e3, if_pos hn30, huff_find_look (n + 1) (by omega)]
    rw [huff_find_look (n + 1) (by omega)] at n2
    cases hf : huff_find 257 (2 * x + b, ((n + 1 : Nat) : Int)) with
    | none =>
      rw [hf] at n2
      refine huff_agree B hB bs (i + 1) (2 * x + b) (n + 1) at_ (o && b == 1) out hd2 (by omega) (n2 rfl) (by omega) ?_
      rw [hts, List.all_append, ho]
      simp
    | some k =>
      simp only [Option.map_some]
      by_cases hk : k = 256
      · subst hk
        exact .inl ⟨by simp, by simp⟩
      · have hk2 : ¬ ((k : Int) = 256) := by omega
        simp only [hk, hk2, if_false]
        refine huff_agree B hB bs (i + 1) 0 0 (i + 1) true (out ++ [(k : Int) % 256]) hd2 (by omega) huff_Inv.zero (by omega) ?_
        rw [List.drop_eq_nil_of_le (by rw [List.length_take]; omega)]
        rfl
theorem huff_Get_same (l : List Int) : ∃ r, huff_Get.f l = some r ∧ mailcoachref10_Get.f l = some r := by
  unfold huff_Get.f mailcoachref10_Get.f
  by_cases hbig : (1048576 : Int) < l.length
  · rw [if_pos hbig, if_pos hbig]
    exact ⟨_, rfl, rfl⟩
  · rw [if_neg hbig, if_neg hbig]
    have hlen := huff_bits8_length l
    rcases huff_agree (huff_bits8 l) (huff_bits8_01 l) (huff_bits8 l) 0 0 0 0 true [] rfl (by omega) huff_Inv.zero rfl rfl with ⟨h1, h2⟩ | ⟨x', n', at', o', out', h1, h2, h3, h4⟩
    · have h1' : huff_go (huff_bits8 l) 0 0 true [] = none := h1
      rw [h1', h2]
      exact ⟨_, rfl, rfl⟩
    · have h1' : huff_go (huff_bits8 l) 0 0 true [] = some (x', (n' : Int), o', out') := h1
      rw [h1', h2]
      have h9 : ¬ 8 * l.length < at' := by omega
      simp only [Option.bind_some, h9, if_false]
      by_cases h8 : at' + 8 ≤ 8 * l.length
      · rw [if_pos h8, if_pos (Or.inl (by omega))]
        exact ⟨_, rfl, rfl⟩
      · rw [if_neg h8, ← h4]
        cases o' with
        | true => rw [if_neg (show ¬ (8 ≤ (n' : Int) ∨ true = false) from fun h => by rcases h with h | h; exact h8 (by omega); cases h), if_pos rfl]; exact ⟨_, rfl, rfl⟩
        | false => rw [if_pos (Or.inr rfl), if_neg (by simp)]; exact ⟨_, rfl, rfl⟩
theorem HuffGets : mailcoachlaw10_HuffGets.Pure := fun l _ _ => huff_Get_same l
end Go.Proofs.Ytmkmefdajbdceaa.Pure
