/- PrioFirst: what is picked has the least rank; so it is as urgent as anything that waits. -/
import Derived.Test.YtjjignoocaejiaaDoorMPa
import Derived.Test.YtjjignoocaejiaaDoorPPRx20
namespace Go.Proofs.YtjjignoocaejiaaDoor.Pure
open Go.RowKit Go.Proofs.YtjjignoocaejiaaDoor.PPR Go.Proofs.YtjjignoocaejiaaDoorW.PrintWords Go.Proofs.YtjjignoocaejiaaDoorW.PrintLast
set_option linter.unusedVariables false
set_option linter.unusedSimpArgs false
theorem first_none (l : List S38) (hm : l.length ≤ 140737488355328) (h : ∀ j, j < l.length → okw (rd_T38 l (j : Int)) = false) : ∀ (d k j : Nat), j + d = l.length → d < k → mailcoachlaw23_PrioFirst.l0 k l (-1) (j : Int) = some true
  | 0, k, j, hd, hk => by
    obtain ⟨k, rfl⟩ : ∃ m, k = m + 1 := ⟨k - 1, by omega⟩
    rw [mailcoachlaw23_PrioFirst.l0, if_neg (by omega), if_pos rfl, lives_true]; rfl
  | d + 1, k, j, hd, hk => by
    obtain ⟨k, rfl⟩ : ∃ m, k = m + 1 := ⟨k - 1, by omega⟩
    have hw : wrap64 ((j : Int) + 1) = ((j + 1 : Nat) : Int) := by unfold wrap64; omega
    have hj := h j (by omega)
    have hj' : ¬ (0 ≤ (rd_T38 l (j : Int)).f1.f0 ∧ (rd_T38 l (j : Int)).f1.f0 ≤ 7) := by
      intro e
      have : okw (rd_T38 l (j : Int)) = true := by simpa [okw, prio_ok] using e
      rw [hj] at this; cases this
    have ih := first_none l hm h d k (j + 1) (by omega) (by omega)
    rw [mailcoachlaw23_PrioFirst.l0, if_pos (by clear hw; omega), if_pos (by clear hw; omega), hw]
    by_cases h1 : (rd_T38 l (j : Int)).f1.f0 ≥ 0
    · rw [if_pos h1, if_neg (fun e => hj' ⟨h1, e⟩), ih]
    · rw [if_neg h1, ih]
theorem first_some (l : List S38) (last : Int) (hm : l.length ≤ 140737488355328) (i : Nat) (hi : i < l.length) (ho : okw (rd_T38 l (i : Int)) = true) (h : ∀ j, j < l.length → okw (rd_T38 l (j : Int)) = true → ¬ lt3 (rk last (rd_T38 l (j : Int))) (rk last (rd_T38 l (i : Int)))) : ∀ (d k j : Nat), j + d = l.length → 2 * d < k → mailcoachlaw23_PrioFirst.l1 k l (i : Int) (j : Int) (rd_T38 l (i : Int)).f1.f0 (rd_T38 l (i : Int)).f1.f1 = some true
  | 0, k, j, hd, hk => by
    obtain ⟨k, rfl⟩ : ∃ m, k = m + 1 := ⟨k - 1, by omega⟩
    rw [mailcoachlaw23_PrioFirst.l1, if_neg (by omega), lives_true]; rfl
  | d + 1, k, j, hd, hk => by
    obtain ⟨k, rfl⟩ : ∃ m, k = m + 2 := ⟨k - 2, by omega⟩
    have hw : wrap64 ((j : Int) + 1) = ((j + 1 : Nat) : Int) := by unfold wrap64; omega
    have hj := h j (by omega)
    have ih := first_some l last hm i hi ho h d k (j + 1) (by omega) (by omega)
    rw [mailcoachlaw23_PrioFirst.l1, if_pos (by clear hw; omega), if_pos (by clear hw; omega)]
    generalize hx : rd_T38 l (j : Int) = x at hj
    generalize hy : rd_T38 l (i : Int) = y at hj ho ih
    have hT : ∀ b : Bool, (b = true ∨ ¬ (x.f1.f0 < y.f1.f0) ∧ (x.f1.f0 = y.f1.f0 → x.f1.f1 = false → y.f1.f1 = false ∧ ¬ x.f0 < y.f0)) → mailcoachlaw23_PrioFirst.j2 (k + 1) l (i : Int) (j : Int) x.f1.f0 b y.f1.f0 y.f1.f1 = some true := by
      intro b hb
      rw [mailcoachlaw23_PrioFirst.j2, hw, ih, hx, hy]
      rcases hb with rfl | ⟨hb1, hb2⟩
      · rw [if_pos rfl]
      · cases b with
        | true => rw [if_pos rfl]
        | false =>
          rw [if_neg (by decide), if_neg hb1]
          by_cases he : x.f1.f0 = y.f1.f0
          · rw [if_pos he, if_pos (by clear hw; omega), if_pos (by clear hw; omega)]
            cases hs : x.f1.f1 with
            | true => rw [if_pos rfl]
            | false =>
              obtain ⟨h1, h2⟩ := hb2 he hs
              rw [if_neg (by decide), h1, if_neg (by decide), if_pos (by clear hw; omega), if_pos (by clear hw; omega), if_neg h2]
          · rw [if_neg he]
    by_cases h0 : x.f1.f0 < 0
    · rw [if_pos h0]; exact hT true (.inl rfl)
    · rw [if_neg h0]
      refine hT _ ?_
      by_cases h7 : x.f1.f0 > 7
      · exact .inl (decide_eq_true h7)
      · right
        have hok : okw x = true := by simp [okw, prio_ok]; omega
        have hn := hj hok
        obtain ⟨e1, _, _⟩ := word_ok hok
        obtain ⟨e2, _, _⟩ := word_ok ho
        unfold rk lt3 at hn
        simp only [e1, e2] at hn
        refine ⟨fun e => hn (.inl e), fun he hs => ?_⟩
        have ht : prio_turn x.f0 x.f1.f1 last = 0 := by rw [hs]; rfl
        rw [ht] at hn
        cases hy2 : y.f1.f1 with
        | false =>
          have ht2 : prio_turn y.f0 y.f1.f1 last = 0 := by rw [hy2]; rfl
          rw [ht2] at hn
          exact ⟨rfl, fun e => hn (.inr ⟨he, .inr ⟨rfl, e⟩⟩)⟩
        | true =>
          exfalso
          refine hn (.inr ⟨he, .inl ?_⟩)
          rw [hy2]
          unfold prio_turn
          simp only [↓reduceIte]
          split <;> decide
theorem PrioFirst (l : List S38) (last : Int) (hm : l.length ≤ 140737488355328) : ∃ k, mailcoachlaw23_PrioFirst.f k l last = some true := by
  obtain ⟨r, hr, hp⟩ := pick_spec l last
  refine ⟨2 * l.length + 2, ?_⟩
  unfold mailcoachlaw23_PrioFirst.f
  rw [hr]
  simp only [Option.bind_some]
  rcases hp with ⟨rfl, h⟩ | ⟨i, rfl, hi, ho, h, _⟩
  · rw [if_pos (by decide)]
    exact first_none l hm h l.length _ 0 (by omega) (by omega)
  · rw [if_neg (by omega), if_neg (by omega), if_pos (by omega), if_pos (by omega)]
    exact first_some l last hm i hi ho h l.length _ 0 (by omega) (by omega)
end Go.Proofs.YtjjignoocaejiaaDoor.Pure
