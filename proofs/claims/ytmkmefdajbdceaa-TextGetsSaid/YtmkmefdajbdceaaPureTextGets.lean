/- mailcoachlaw11.TextGets: for any bits and any bytes (2^20 at most, else it claims nothing) text.Get of a copy with spare room answers just what mailcoachref11.Get answers, and the copy is as it was, its spare room too.
   Conditions: none. -/
import Derived.Test.YtmkmefdajbdceaaPTXx15
import Derived.Test.YtmkmefdajbdceaaMTb
namespace Go.Proofs.Ytmkmefdajbdceaa.Pure
open Go.RowKit Go.Proofs.Ytmkmefdajbdceaa.PTX Go.Proofs.YtmkmefdajbdceaaW.PrintWords Go.Proofs.YtmkmefdajbdceaaW.PrintLast

theorem TextGets : mailcoachlaw11_TextGets.Pure := by
  refine ⟨fun b => ?_, ?_⟩
  · obtain ⟨r, h1, h2⟩ := huff_Get_same b
    rw [h1, h2]
  · intro a0 l wa hlen hw
    have hl : Bytes l := fun x hx => wf_u8 (hw x hx)
    unfold text_Get.f
    by_cases hb : a0 < 2 ∨ 8 < a0
    · rw [if_pos hb]; exact ⟨_, rfl⟩
    · rw [if_neg hb]
      obtain ⟨x, n, m, e, hg, hc⟩ := getp_cases (a0 - 1) l hl
      rw [hg]
      simp only [Option.bind_some]
      rcases hc with ⟨rfl, rfl, rfl, he⟩ | ⟨rfl, _, _, x0, x1, xm, n0, n1, m1, m2, m3⟩
      · rw [if_pos he]
        exact ⟨_, rfl⟩
      · rw [if_neg (by simp)]
        by_cases hn : 65536 < n
        · rw [if_pos hn]; exact ⟨_, rfl⟩
        · rw [if_neg hn, if_neg (by omega)]
          by_cases hs : (l.length : Int) - m < n
          · rw [if_pos hs]; exact ⟨_, rfl⟩
          · rw [if_neg hs]
            by_cases hf : text_Get.flag a0 x = 0
            · rw [if_pos hf]; exact ⟨_, rfl⟩
            · rw [if_neg hf]
              obtain ⟨⟨s, e3⟩, hh, _⟩ := huff_Get_same ((l.take (m + n).toNat).drop m.toNat)
              rw [hh]
              simp only [Option.bind_some]
              by_cases he3 : e3 ≠ 0
              · rw [if_pos he3]; exact ⟨_, rfl⟩
              · rw [if_neg he3]
                by_cases hbig : 65536 < s.size
                · rw [if_pos hbig]; exact ⟨_, rfl⟩
                · rw [if_neg hbig]; exact ⟨_, rfl⟩
end Go.Proofs.Ytmkmefdajbdceaa.Pure
