/- PrioPicks: the document's pick is the program's: the first of those with the least rank. -/
import Derived.Test.YtjjignoocaejiaaDoorMPa
import Derived.Test.YtjjignoocaejiaaDoorPPRx21
namespace Go.Proofs.YtjjignoocaejiaaDoor.Pure
open Go.RowKit Go.Proofs.YtjjignoocaejiaaDoor.PPR Go.Proofs.YtjjignoocaejiaaDoorW.PrintWords Go.Proofs.YtjjignoocaejiaaDoorW.PrintLast
set_option linter.unusedVariables false
set_option linter.unusedSimpArgs false
/-- The pick of the first so many. -/
def Half (last : Int) (L : List S38) (k : Nat) (b : Int) (y : S40) : Prop :=
  (b = -1 ∧ ∀ j : Nat, j < k → okw (rd_T38 L (j : Int)) = false) ∨ ∃ n : Nat, b = (n : Int) ∧ n < k ∧ y = picks_of (rd_T38 L (n : Int)) ∧ okw (rd_T38 L (n : Int)) = true ∧ (∀ j : Nat, j < k → okw (rd_T38 L (j : Int)) = true → ¬ lt3 (rk last (rd_T38 L (j : Int))) (rk last (rd_T38 L (n : Int)))) ∧ ∀ j : Nat, j < n → okw (rd_T38 L (j : Int)) = true → rk last (rd_T38 L (j : Int)) ≠ rk last (rd_T38 L (n : Int))
theorem picks_less (last : Int) (a b : S38) : ref_less last (picks_of a) (picks_of b) = true ↔ lt3 (rk last a) (rk last b) := less3_lt (rk last a) (rk last b)
theorem picks_drop (L : List S38) (k : Nat) (h : k < L.length) : L.drop k = rd_T38 L (k : Int) :: L.drop (k + 1) := by
  rw [List.drop_eq_getElem_cons h]
  simp [rd_T38, List.getD_eq_getElem?_getD, List.getElem?_eq_getElem h]
theorem picks_go (last : Int) (L : List S38) : ∀ (d k : Nat) (b : Int) (y : S40), k + d = L.length → Half last L k b y → Picked (fun j => okw (rd_T38 L (j : Int))) (fun j => rk last (rd_T38 L (j : Int))) L.length (ref_go last ((L.drop k).map picks_of) (k : Int) b y)
  | 0, k, b, y, hd, hh => by
    obtain rfl : k = L.length := by omega
    rw [List.drop_length, List.map_nil, ref_go]
    rcases hh with ⟨rfl, h⟩ | ⟨n, rfl, hn, _, ho, h, hf⟩
    · exact .inl ⟨rfl, h⟩
    · exact .inr ⟨n, rfl, hn, ho, h, hf⟩
  | d + 1, k, b, y, hd, hh => by
    have hk : k < L.length := by omega
    have e1 : ((k : Int) + 1) = ((k + 1 : Nat) : Int) := by omega
    rw [picks_drop L k hk, List.map_cons, ref_go, e1]
    have eo : prio_ok (picks_of (rd_T38 L (k : Int))).f1.f0 = okw (rd_T38 L (k : Int)) := rfl
    rw [eo]
    cases hox : okw (rd_T38 L (k : Int)) with
    | false =>
      rw [if_neg Bool.false_ne_true]
      refine picks_go last L d (k + 1) b y (by omega) ?_
      rcases hh with ⟨rfl, h⟩ | ⟨n, rfl, hn, hy, ho, h, hf⟩
      · refine .inl ⟨rfl, fun j hj => ?_⟩
        by_cases e : j = k
        · rw [e]; exact hox
        · exact h j (by omega)
      · refine .inr ⟨n, rfl, by omega, hy, ho, fun j hj hoj => ?_, hf⟩
        by_cases e : j = k
        · rw [e, hox] at hoj; cases hoj
        · exact h j (by omega) hoj
    | true =>
      rw [if_pos rfl]
      rcases hh with ⟨rfl, h⟩ | ⟨n, rfl, hn, rfl, ho, h, hf⟩
      · rw [if_pos (by decide)]
        refine picks_go last L d (k + 1) _ _ (by omega) (.inr ⟨k, rfl, by omega, rfl, hox, fun j hj hoj => ?_, fun j hj hoj => ?_⟩)
        · by_cases e : j = k
          · rw [e]; exact lt3_irrefl _
          · rw [h j (by omega)] at hoj; cases hoj
        · rw [h j hj] at hoj; cases hoj
      · rw [if_neg (by omega)]
        by_cases hl : lt3 (rk last (rd_T38 L (k : Int))) (rk last (rd_T38 L (n : Int)))
        · rw [if_pos ((picks_less _ _ _).2 hl)]
          refine picks_go last L d (k + 1) _ _ (by omega) (.inr ⟨k, rfl, by omega, rfl, hox, fun j hj hoj => ?_, fun j hj hoj => ?_⟩)
          · by_cases e : j = k
            · rw [e]; exact lt3_irrefl _
            · exact fun g => h j (by omega) hoj (lt3_trans g hl)
          · intro g
            exact h j (by omega) hoj (by rw [g]; exact hl)
        · rw [if_neg (fun g => hl ((picks_less _ _ _).1 g))]
          refine picks_go last L d (k + 1) _ _ (by omega) (.inr ⟨n, rfl, by omega, rfl, ho, fun j hj hoj => ?_, hf⟩)
          by_cases e : j = k
          · rw [e]; exact hl
          · exact h j (by omega) hoj
theorem PrioPicks (l : List S38) (last : Int) (hm : l.length * 24 ≤ 140737488351232) : ∃ k, mailcoachlaw23_PrioPicks.f k l last = some true := by
  obtain ⟨r, hr, hp⟩ := pick_spec l last
  have hq := picks_go last l l.length 0 (-1) z40 (by omega) (.inl ⟨rfl, fun j hj => by omega⟩)
  rw [List.drop_zero] at hq
  have he := Picked.one hp hq
  refine ⟨0, ?_⟩
  unfold mailcoachlaw23_PrioPicks.f
  rw [if_pos hm, hr, Option.bind_some]
  have h2 : mailcoachref23_Pick.f (l.map picks_of) last = some r := by rw [he]; rfl
  rw [h2, Option.bind_some, if_pos rfl, lives_true]
  rfl
end Go.Proofs.YtjjignoocaejiaaDoor.Pure
