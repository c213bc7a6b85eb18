/- mailcoachlaw11.TextBack: any text that text.Put puts behind what stands in any byte is got again by text.Get, with what stands ahead of it, whatever bytes stand behind (2^20 bytes in all at most, else nothing is claimed), from as many bytes as it was put in: at most four more than it has; others are refused.
   Conditions: none. -/
import Derived.Test.YtmkmefdajbdceaaPTXx22
import Derived.Test.YtmkmefdajbdceaaMTc
namespace Go.Proofs.Ytmkmefdajbdceaa.Pure
open Go.RowKit Go.Proofs.Ytmkmefdajbdceaa.PTX Go.Proofs.YtmkmefdajbdceaaW.PrintWords Go.Proofs.YtmkmefdajbdceaaW.PrintLast

theorem head_TextBack (x a : Int) (s : ByteArray) (l : List Int) (k : Nat) (hk : 50 ≤ k) (hs : s.size ≤ 140737488355328) (hl : l.length ≤ 140737488355328) : mailcoachlaw11_TextBack.f k x a s l = mailcoachlaw11_TextBack.j0 k s l (decide (1048576 < s.size + l.length)) x a := by
  have hb := beyond_two s.size l.length (by omega) (by omega) k (by omega)
  have ha := alive11_at k (by omega)
  unfold mailcoachlaw11_TextBack.f
  rw [ha]
  simp only [Option.bind_some, if_true]
  rw [hb]
  simp only [Option.bind_some]
theorem TextBack (x a : Int) (s : ByteArray) (l : List Int) (hx : (Lit.int .u8 x).wf = true) (_ : (Lit.int .i64 a).wf = true) (hs : s.size ≤ 140737488351232) (_ : l.length ≤ maxLen) (hl : l.length * 1 ≤ 140737488351232) (hb : ∀ y ∈ l, (Lit.int .u8 y).wf = true) : ∃ k, mailcoachlaw11_TextBack.f k x a s l = some true := by
  have hB : Bytes l := fun y hy => wf_u8 (hb y hy)
  obtain ⟨x0, x1⟩ := wf_u8 hx
  obtain ⟨k, hk⟩ : ∃ k, 50 ≤ k := ⟨_, Nat.le_refl _⟩
  refine ⟨k + 1, ?_⟩
  rw [head_TextBack x a s l (k + 1) (by omega) (by omega) (by omega)]
  simp only [mailcoachlaw11_TextBack.j0]
  by_cases hby : 1048576 < s.size + l.length
  · rw [if_pos (decide_eq_true hby), alive11_at k (by omega)]
    rfl
  · rw [if_neg (by simpa using hby)]
    rcases text_put_cases x a s x0 x1 with h | ⟨h, hbig⟩ | ⟨out, pf, b, first, h, ht⟩
    · rw [h]
      simp only [Option.bind_some]
      rw [if_neg (by decide), if_pos trivial]
      rfl
    · rw [h]
      simp only [Option.bind_some]
      rw [if_neg (by decide), if_neg (by decide), if_pos trivial, if_pos (by omega)]
      rfl
    · rw [h]
      have hol : out.length ≤ s.size + 4 := by rw [ht.out, List.length_append]; have := ht.len; have := ht.pflen; omega
      have hsz := ht.size
      simp only [Option.bind_some, if_true]
      rw [if_pos (by omega), text_get_put ht l hB (by rw [List.length_append]; omega)]
      simp only [Option.bind_some, if_true]
      have w1 : wrap64 ((s.size : Int) + 4) = (s.size : Int) + 4 := by unfold wrap64; omega
      rw [w1, decide_eq_true (by clear w1; omega)]
end Go.Proofs.Ytmkmefdajbdceaa.Pure
