/- PrioTexts: prio.Text and prio.Parse say what the document's own say. -/
import Derived.Test.YtjjignoocaejiaaDoorMPa
import Derived.Test.YtjjignoocaejiaaDoorMPc
import Derived.Test.YtjjignoocaejiaaDoorPPRx15
namespace Go.Proofs.YtjjignoocaejiaaDoor.Pure
open Go.RowKit Go.Proofs.YtjjignoocaejiaaDoor.PPR Go.Proofs.YtjjignoocaejiaaDoorW.PrintWords Go.Proofs.YtjjignoocaejiaaDoorW.PrintLast
set_option linter.unusedVariables false
set_option linter.unusedSimpArgs false
theorem text_eq8 : ∀ n : Nat, n < 8 → ∀ sh : Bool, mailcoachref23_Text.f (n : Int) sh = prio_Text.f (n : Int) sh := by decide +kernel
theorem text_eq (u : Int) (sh : Bool) : mailcoachref23_Text.f u sh = prio_Text.f u sh := by
  by_cases h : u < 0 ∨ 7 < u
  · unfold mailcoachref23_Text.f prio_Text.f
    rw [if_pos h, if_pos h]
  · obtain ⟨n, rfl⟩ := Int.eq_ofNat_of_zero_le (show 0 ≤ u by omega)
    exact text_eq8 n (by omega) sh
theorem text_some (u : Int) (sh : Bool) : ∃ x, prio_Text.f u sh = some x := by
  unfold prio_Text.f
  split <;> exact ⟨_, rfl⟩
theorem PrioTexts (a0 : ByteArray) (a1_0 : Int) (a1_1 : Bool) (h : a0.size ≤ 140737488351232) (w : (Lit.int .i64 a1_0).wf = true) : ∃ k, mailcoachlaw23_PrioTexts.f k a0 a1_0 a1_1 = some true := by
  refine ⟨5 * a0.size + 20, ?_⟩
  unfold mailcoachlaw23_PrioTexts.f mailcoachlaw23_of.f
  obtain ⟨x, hx⟩ := text_some a1_0 a1_1
  rw [hx]
  simp only [Option.bind_some]
  rw [text_eq, hx, parse_spl a0 (by omega)]
  simp only [Option.bind_some]
  rw [ref_parse a0 (by omega)]
  simp only [Option.bind_some, beq_self_eq_true, Bool.and_self, ↓reduceIte]
  rw [lives_true]
  rfl
end Go.Proofs.YtjjignoocaejiaaDoor.Pure
