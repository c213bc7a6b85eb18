/- mailcoachlaw11.TextAgain: a text that text.Get gets out of any bytes (2^20 at most, else nothing is claimed), put again by text.Put behind what stood ahead of it, is got as it was, with the same ahead of it, from as many bytes at most; where none is got all is zero.
   Conditions: none. -/
import Derived.Test.YtmkmefdajbdceaaPTXx25
import Derived.Test.YtmkmefdajbdceaaMTc
namespace Go.Proofs.Ytmkmefdajbdceaa.Pure
open Go.RowKit Go.Proofs.Ytmkmefdajbdceaa.PTX Go.Proofs.YtmkmefdajbdceaaW.PrintWords Go.Proofs.YtmkmefdajbdceaaW.PrintLast

theorem head_TextAgain (a : Int) (l : List Int) (k : Nat) (hk : 50 ≤ k) (hl : l.length ≤ 140737488355328) : mailcoachlaw11_TextAgain.f k a l = mailcoachlaw11_TextAgain.j0 k a l (decide (1048576 < l.length)) := by
  have hb := beyond_one l.length (by omega) k (by omega)
  have ha := alive11_at k (by omega)
  unfold mailcoachlaw11_TextAgain.f
  rw [ha]
  simp only [Option.bind_some, if_true]
  rw [hb]
  simp only [Option.bind_some]
/-- What was got can be put, in as many bytes at most. -/
theorem text_get_cases (a : Int) (l : List Int) (hl : Bytes l) (hlen : l.length ≤ 1048576) : (∃ e, text_Get.f a l = some (0, ⟨#[]⟩, 0, e) ∧ e ≠ 0) ∨
    ∃ x s n out pf b first, text_Get.f a l = some (x, s, n, 0) ∧ n ≤ l.length ∧ 0 ≤ x ∧ x < 256 ∧ text_Put.f x a s = some (out, 0) ∧ TextOut x a s out pf b first ∧ (out.length : Int) ≤ n := by
  unfold text_Get.f
  by_cases hb : a < 2 ∨ 8 < a
  · rw [if_pos hb]; exact .inl ⟨1, rfl, by decide⟩
  · rw [if_neg hb]
    obtain ⟨x, n, m, e, hg, hc⟩ := getp_cases (a - 1) l hl
    rw [hg]
    simp only [Option.bind_some]
    rcases hc with ⟨rfl, rfl, rfl, he⟩ | ⟨rfl, _, _, x0, x1, xm, n0, n1, m1, m2, m3⟩
    · rw [if_pos he]; exact .inl ⟨e, rfl, he⟩
    · rw [if_neg (by simp)]
      by_cases hn : 65536 < n
      · rw [if_pos hn]; exact .inl ⟨3, rfl, by decide⟩
      · rw [if_neg hn, if_neg (by omega)]
        by_cases hs : (l.length : Int) - m < n
        · rw [if_pos hs]; exact .inl ⟨4, rfl, by decide⟩
        · rw [if_neg hs]
          have hmin := fun n' h0 h1 => getp_min (a - 1) l hl x n m hg n' h0 h1
          have hcl : ((l.take (m + n).toNat).drop m.toNat).length = n.toNat := by rw [List.length_drop, List.length_take]; omega
          have hcb : Bytes ((l.take (m + n).toNat).drop m.toNat) := fun y hy => hl y (List.mem_of_mem_take (List.mem_of_mem_drop hy))
          obtain ⟨c, hc⟩ : ∃ c, (l.take (m + n).toNat).drop m.toNat = c := ⟨_, rfl⟩
          rw [hc] at hcl hcb ⊢
          have hd := dbl a (by omega)
          have hp1 := pow_ge (a - 1).toNat
          unfold text_Get.flag
          have fin : ∀ (x' : Int) (s : ByteArray), 0 ≤ x' → x' < 256 → x' % 2 ^ a.toNat = 0 → s.size ≤ 65536 → (bytesOf s = c ∨ huff_pack (huff_enc (bytesOf s)) 0 [] = c) →
              ∃ out pf b first, text_Put.f x' a s = some (out, 0) ∧ TextOut x' a s out pf b first ∧ (out.length : Int) ≤ m + n := by
            intro x' s h0 h1 hm hz hw
            rcases text_put_cases x' a s h0 h1 with h | ⟨_, h⟩ | ⟨out, pf, b, first, h, ht⟩
            · unfold text_Put.f at h
              rw [if_neg hb, if_neg (by omega), if_neg (by rw [hm]; simp), if_neg (by omega)] at h
              split at h <;> simp at h
            · omega
            · refine ⟨out, pf, b, first, h, ht, ?_⟩
              have hbl : (b.length : Int) ≤ n := by
                have hpl := huff_pack_len s
                have hlen2 := ht.len
                rcases ht.way with ⟨_, rfl, hw2⟩ | ⟨_, rfl⟩
                · rcases hw with hw | hw
                  · rw [hw]; omega
                  · rw [hw] at hpl
                    rw [man_bytesOf_length]
                    omega
                · rcases hw with hw | hw
                  · have := congrArg List.length hw; rw [man_bytesOf_length] at this; omega
                  · rw [hw]; omega
              have hpf := hmin b.length (by omega) hbl
              obtain ⟨pf', g1, g2, _⟩ := pput_out first (a - 1) b.length (by omega) (by omega) ht.f0 ht.f1 (by
                rcases pput_cases first (a - 1) (b.length : Int) ht.f0 ht.f1 (by omega) with g | ⟨⟨_, _, _, g⟩, _⟩
                · rw [ht.put] at g; simp at g
                · exact g) (by omega) (by omega)
              rw [ht.put] at g1
              simp only [Option.some.injEq, Prod.mk.injEq, and_true] at g1
              rw [ht.out, List.length_append, g1, g2]
              omega
          obtain ⟨p, hp⟩ : ∃ p : Int, 2 ^ (a - 1).toNat = p := ⟨_, rfl⟩
          rw [hp] at hd hp1 xm ⊢
          have hfb := flag_back x p hp1 xm
          by_cases hf : x / p % 2 = 0
          · rw [if_pos hf]
            obtain ⟨out, pf, b, first, q1, q2, q3⟩ := fin x (strOfNums c) x0 x1 (by rw [hd]; exact hfb.1 hf) (by rw [strOfNums_size]; omega) (.inl (bytesOf_strOfNums c hcb))
            exact .inr ⟨x, _, _, out, pf, b, first, rfl, by omega, x0, x1, q1, q2, q3⟩
          · rw [if_neg hf]
            have hpx : p ≤ x := by
              rcases Int.lt_or_le x p with h1 | h1
              · rw [Int.ediv_eq_zero_of_lt x0 h1] at hf; exact absurd rfl hf
              · exact h1
            obtain ⟨⟨s, e3⟩, hh, _⟩ := huff_Get_same c
            rw [hh]
            simp only [Option.bind_some]
            by_cases he3 : e3 ≠ 0
            · rw [if_pos he3]; exact .inl ⟨e3, rfl, he3⟩
            · rw [if_neg he3]
              obtain rfl : e3 = 0 := by omega
              by_cases hbig : 65536 < s.size
              · rw [if_pos hbig]; exact .inl ⟨3, rfl, by decide⟩
              · rw [if_neg hbig]
                obtain ⟨out, pf, b, first, q1, q2, q3⟩ := fin (x - p) s (by omega) (by omega) (by rw [hd]; exact hfb.2 hf) (by omega) (.inr (huff_Put_Get c hcb s hh))
                exact .inr ⟨x - p, s, _, out, pf, b, first, rfl, by omega, by omega, by omega, q1, q2, q3⟩
theorem TextAgain : mailcoachlaw11_TextAgain.Pure := by
  intro a l wa hm hl hw
  have hB : Bytes l := fun y hy => wf_u8 (hw y hy)
  obtain ⟨k, hk⟩ : ∃ k, 50 ≤ k := ⟨_, Nat.le_refl _⟩
  refine ⟨k + 1, ?_⟩
  rw [head_TextAgain a l (k + 1) (by omega) (by omega)]
  simp only [mailcoachlaw11_TextAgain.j0]
  by_cases hby : 1048576 < l.length
  · rw [if_pos (decide_eq_true hby), alive11_at k (by omega)]
    rfl
  · rw [if_neg (by simpa using hby)]
    rcases text_get_cases a l hB (by omega) with ⟨e, h, he⟩ | ⟨x, s, n, out, pf, b, first, h, hn, x0, x1, hp, ht, ho⟩
    · rw [h]
      simp only [Option.bind_some]
      rw [if_neg he]
      simp
    · rw [h]
      simp only [Option.bind_some, if_true]
      rw [hp]
      have hg := text_get_put ht [] (fun y hy => by cases hy) (by rw [List.append_nil]; omega)
      rw [List.append_nil] at hg
      simp only [Option.bind_some, if_true]
      rw [hg]
      simp only [Option.bind_some, if_true]
      rw [if_pos hn, decide_eq_true ho]
end Go.Proofs.Ytmkmefdajbdceaa.Pure
