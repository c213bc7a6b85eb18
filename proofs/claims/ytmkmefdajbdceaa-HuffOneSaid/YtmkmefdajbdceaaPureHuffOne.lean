/- mailcoachlaw10.HuffOne: any bytes (2^20 at most, else nothing is claimed) that huff.Get takes as a text are exactly what huff.Put makes of that text; others are refused with ErrForm.
   Conditions: none. -/
import Derived.Test.YtmkmefdajbdceaaPHOx8
import Derived.Test.YtmkmefdajbdceaaMHb
namespace Go.Proofs.Ytmkmefdajbdceaa.Pure
open Go.RowKit Go.Proofs.Ytmkmefdajbdceaa.PHO Go.Proofs.YtmkmefdajbdceaaW.PrintWords Go.Proofs.YtmkmefdajbdceaaW.PrintLast

theorem head_HuffOne (l : List Int) (k : Nat) (hk : 50 ≤ k) (hl : l.length ≤ 140737488351232) : mailcoachlaw10_HuffOne.f k l = mailcoachlaw10_HuffOne.j0 k l (decide (1048576 < l.length)) := by
  have hb := beyond_one l.length (by omega) k (by omega)
  have ha := alive10_at k (by omega)
  unfold mailcoachlaw10_HuffOne.f
  rw [ha]
  simp only [Option.bind_some, if_true]
  rw [hb]
  simp only [Option.bind_some]
theorem HuffOne : mailcoachlaw10_HuffOne.Pure := by
  intro l hm hl hw
  have hb : Bytes l := fun x hx => wf_u8 (hw x hx)
  obtain ⟨k, hk⟩ : ∃ k, k = l.length + 50 := ⟨_, rfl⟩
  refine ⟨k + 1, ?_⟩
  rw [head_HuffOne l (k + 1) (by omega) (by omega)]
  simp only [mailcoachlaw10_HuffOne.j0]
  by_cases hby : 1048576 < l.length
  · rw [if_pos (decide_eq_true hby), alive10_at k (by omega)]
    rfl
  · rw [if_neg (by simpa using hby)]
    rcases huff_Get_cases l (by omega) with h | ⟨s, h⟩
    · rw [h]
      simp only [Option.bind_some]
      rw [if_neg (by decide)]
      simp
    · rw [h]
      simp only [Option.bind_some, if_true, huff_Put.f]
      by_cases hs : 65536 < s.size
      · rw [if_pos hs]
        simp only [Option.bind_some, if_true]
        rw [decide_eq_true (by omega)]
      · rw [if_neg hs]
        have h03 : ¬ ((0 : Int) = 3) := by decide
        simp only [Option.bind_some, h03, if_false, if_true]
        rw [huff_Put_Get l hb s h, same_f l l (by omega) k (by omega), decide_eq_true rfl]
        rfl
end Go.Proofs.Ytmkmefdajbdceaa.Pure
