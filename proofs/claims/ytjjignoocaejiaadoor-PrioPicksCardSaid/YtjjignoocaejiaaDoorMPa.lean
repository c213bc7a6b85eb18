/- Plain facts on prio.Pick, as the program and as the document pick: the first of those with the least rank. -/
import Derived.Test.YtjjignoocaejiaaDoorPPRx14
import Derived.Test.YtjjignoocaejiaaDoorPPRx17
namespace Go.Proofs.YtjjignoocaejiaaDoor.Pure
open Go.RowKit Go.Proofs.YtjjignoocaejiaaDoor.PPR Go.Proofs.YtjjignoocaejiaaDoorW.PrintWords Go.Proofs.YtjjignoocaejiaaDoorW.PrintLast
set_option linter.unusedVariables false
set_option linter.unusedSimpArgs false

theorem lives_true : mailcoachlaw23_lives.f = some true := by decide +kernel
def lt3 (a b : Int × Int × Int) : Prop := a.1 < b.1 ∨ (a.1 = b.1 ∧ (a.2.1 < b.2.1 ∨ (a.2.1 = b.2.1 ∧ a.2.2 < b.2.2)))
theorem cmp3_lt (a b : Int × Int × Int) : prio_cmp3 a.1 a.2.1 a.2.2 b.1 b.2.1 b.2.2 < 0 ↔ lt3 a b := by
  unfold prio_cmp3 lt3
  by_cases h0 : a.1 < b.1
  · rw [if_pos h0]; omega
  · rw [if_neg h0]
    by_cases h1 : b.1 < a.1
    · rw [if_pos h1]; omega
    · rw [if_neg h1]
      by_cases h2 : a.2.1 < b.2.1
      · rw [if_pos h2]; omega
      · rw [if_neg h2]
        by_cases h3 : b.2.1 < a.2.1
        · rw [if_pos h3]; omega
        · rw [if_neg h3]
          by_cases h4 : a.2.2 < b.2.2
          · rw [if_pos h4]; omega
          · rw [if_neg h4]
            by_cases h5 : b.2.2 < a.2.2
            · rw [if_pos h5]; omega
            · rw [if_neg h5]; omega
theorem less3_lt (a b : Int × Int × Int) : prio_less3 a.1 a.2.1 a.2.2 b.1 b.2.1 b.2.2 = true ↔ lt3 a b := by
  unfold prio_less3 lt3
  by_cases h0 : a.1 = b.1
  · rw [if_pos h0]
    by_cases h1 : a.2.1 = b.2.1
    · rw [if_pos h1]
      by_cases h2 : a.2.2 = b.2.2
      · rw [if_pos h2]; simp; omega
      · rw [if_neg h2]; simp; omega
    · rw [if_neg h1]; simp; omega
  · rw [if_neg h0]; simp; omega
theorem lt3_irrefl (a : Int × Int × Int) : ¬ lt3 a a := by unfold lt3; omega
theorem lt3_trans {a b c : Int × Int × Int} (h : lt3 a b) (k : lt3 b c) : lt3 a c := by unfold lt3 at *; omega
theorem lt3_total (a b : Int × Int × Int) (h : ¬ lt3 a b) (k : ¬ lt3 b a) : a = b := by
  obtain ⟨a0, a1, a2⟩ := a
  obtain ⟨b0, b1, b2⟩ := b
  unfold lt3 at h k
  simp only at h k
  have e0 : a0 = b0 := by omega
  have e1 : a1 = b1 := by omega
  have e2 : a2 = b2 := by omega
  rw [e0, e1, e2]
theorem lt3_of_not {a b c : Int × Int × Int} (h : ¬ lt3 b a) (k : ¬ lt3 c b) : ¬ lt3 c a := by unfold lt3 at *; omega
theorem word_ok {u : Int} (h : prio_ok u = true) : prio_word u = u ∧ 0 ≤ u ∧ u ≤ 7 := by
  have h' : 0 ≤ u ∧ u ≤ 7 := by simpa [prio_ok] using h
  refine ⟨?_, h'⟩
  unfold prio_word
  rw [IntKind.wrap_u64]
  omega
def rk (last : Int) (x : S38) : Int × Int × Int := (prio_word x.f1.f0, prio_turn x.f0 x.f1.f1 last, x.f0)
abbrev okw (x : S38) : Bool := prio_ok x.f1.f0
theorem rk_small {last : Int} {x : S38} (h : okw x = true) : lt3 (rk last x) (8, 0, 0) := by
  have := word_ok h
  unfold rk lt3
  left
  simp only
  omega
theorem step3 (last : Int) (b : Int × Int × Int) (x : S38) : prio_step3 last b x = b ∧ (okw x = true → ¬ lt3 (rk last x) b) ∨ prio_step3 last b x = rk last x ∧ okw x = true ∧ lt3 (rk last x) b := by
  unfold prio_step3
  by_cases h : prio_ok x.f1.f0 = true
  · rw [if_pos h]
    by_cases hc : prio_cmp3 (prio_word x.f1.f0) (prio_turn x.f0 x.f1.f1 last) x.f0 b.1 b.2.1 b.2.2 < 0
    · rw [if_pos hc]
      exact .inr ⟨rfl, h, (cmp3_lt (rk last x) b).1 hc⟩
    · rw [if_neg hc]
      exact .inl ⟨rfl, fun _ hl => hc ((cmp3_lt (rk last x) b).2 hl)⟩
  · rw [if_neg h]
    exact .inl ⟨rfl, fun h2 => absurd h2 h⟩
theorem fold3 (last : Int) : ∀ (l : List S38) (b : Int × Int × Int), (l.foldl (prio_step3 last) b = b ∨ ∃ y ∈ l, okw y = true ∧ rk last y = l.foldl (prio_step3 last) b) ∧ ¬ lt3 b (l.foldl (prio_step3 last) b) ∧ ∀ x ∈ l, okw x = true → ¬ lt3 (rk last x) (l.foldl (prio_step3 last) b)
  | [], b => ⟨.inl rfl, lt3_irrefl b, fun x hx => by cases hx⟩
  | x :: l, b => by
    obtain ⟨h1, h2, h3⟩ := fold3 last l (prio_step3 last b x)
    rw [List.foldl_cons]
    generalize List.foldl (prio_step3 last) (prio_step3 last b x) l = c at h1 h2 h3
    rcases step3 last b x with ⟨e, hx⟩ | ⟨e, hok, hx⟩
    · rw [e] at h1 h2
      refine ⟨?_, h2, ?_⟩
      · rcases h1 with h1 | ⟨y, hy, h⟩
        · exact .inl h1
        · exact .inr ⟨y, List.mem_cons_of_mem _ hy, h⟩
      · intro y hy hok
        rcases List.mem_cons.1 hy with rfl | hy
        · exact lt3_of_not h2 (hx hok)
        · exact h3 y hy hok
    · rw [e] at h1 h2
      refine ⟨?_, ?_, ?_⟩
      · rcases h1 with h1 | ⟨y, hy, h⟩
        · exact .inr ⟨x, List.mem_cons_self, hok, h1.symm⟩
        · exact .inr ⟨y, List.mem_cons_of_mem _ hy, h⟩
      · exact lt3_of_not h2 (fun h => lt3_irrefl _ (lt3_trans h hx))
      · intro y hy hok
        rcases List.mem_cons.1 hy with rfl | hy
        · exact h2
        · exact h3 y hy hok
theorem idx_spec {α : Type} (p : α → Bool) : ∀ (l : List α) (i : Int), (idx_go p l i = -1 ∧ ∀ x ∈ l, p x = false) ∨ ∃ (n : Nat) (h : n < l.length), idx_go p l i = i + n ∧ p l[n] = true ∧ ∀ j, ∀ hj : j < n, p (l[j]'(by omega)) = false
  | [], i => .inl ⟨rfl, fun x hx => by cases hx⟩
  | x :: l, i => by
    rw [idx_go]
    by_cases h : p x = true
    · rw [if_pos h]
      exact .inr ⟨0, by simp, by simp, by simpa using h, fun j hj => by omega⟩
    · rw [if_neg h]
      rcases idx_spec p l (i + 1) with ⟨e, ha⟩ | ⟨n, hn, e, hp, hj⟩
      · exact .inl ⟨e, fun y hy => by rcases List.mem_cons.1 hy with rfl | hy; simpa using h; exact ha y hy⟩
      · refine .inr ⟨n + 1, by simp; omega, by rw [e]; omega, by simpa using hp, fun j hj2 => ?_⟩
        cases j with
        | zero => simpa using h
        | succ j => simpa using hj j (by omega)
theorem hit_iff (last : Int) (b : Int × Int × Int) (x : S38) : prio_hit last b.1 b.2.1 b.2.2 x = true ↔ okw x = true ∧ rk last x = b := by
  obtain ⟨b0, b1, b2⟩ := b
  unfold prio_hit rk
  simp only [Bool.and_eq_true, beq_iff_eq, Prod.mk.injEq]
  constructor
  · rintro ⟨h, ⟨h1, h2⟩, h3⟩; exact ⟨h, h1, h2, h3⟩
  · rintro ⟨h, h1, h2, h3⟩; exact ⟨h, ⟨h1, h2⟩, h3⟩
/-- What a pick is: none; or the first of those with the least rank. -/
def Picked (ok : Nat → Bool) (rank : Nat → Int × Int × Int) (n : Nat) (r : Int) : Prop :=
  (r = -1 ∧ ∀ j, j < n → ok j = false) ∨ ∃ i : Nat, r = (i : Int) ∧ i < n ∧ ok i = true ∧ (∀ j, j < n → ok j = true → ¬ lt3 (rank j) (rank i)) ∧ ∀ j, j < i → ok j = true → rank j ≠ rank i
theorem Picked.one {ok : Nat → Bool} {rank : Nat → Int × Int × Int} {n : Nat} {r r' : Int} (h : Picked ok rank n r) (h' : Picked ok rank n r') : r = r' := by
  rcases h with ⟨rfl, h⟩ | ⟨i, rfl, hi, ho, hm, hf⟩
  · rcases h' with ⟨rfl, _⟩ | ⟨i', rfl, hi', ho', _, _⟩
    · rfl
    · rw [h i' hi'] at ho'; cases ho'
  · rcases h' with ⟨rfl, h'⟩ | ⟨i', rfl, hi', ho', hm', hf'⟩
    · rw [h' i hi] at ho; cases ho
    · have e := lt3_total _ _ (hm i' hi' ho') (hm' i hi ho)
      rcases Nat.lt_trichotomy i i' with h | h | h
      · exact absurd e.symm (hf' i h ho)
      · rw [h]
      · exact absurd e (hf i' h ho')
theorem pick_spec (l : List S38) (last : Int) : ∃ r, prio_Pick.f l last = some r ∧ Picked (fun j => okw (rd_T38 l (j : Int))) (fun j => rk last (rd_T38 l (j : Int))) l.length r := by
  refine ⟨_, rfl, ?_⟩
  have hrd : ∀ (j : Nat) (h : j < l.length), rd_T38 l (j : Int) = l[j] := fun j h => by simp [rd_T38, List.getD_eq_getElem?_getD, List.getElem?_eq_getElem h]
  obtain ⟨h1, h2, h3⟩ := fold3 last l (8, 0, 0)
  have e : l.foldl (prio_step3 last) (8, 0, 0) = prio_best last l := rfl
  rw [e] at h1 h2 h3
  generalize prio_best last l = b at h1 h2 h3 ⊢
  rcases idx_spec (prio_hit last b.1 b.2.1 b.2.2) l 0 with ⟨e, ha⟩ | ⟨n, hn, e, hp, hj⟩
  · refine .inl ⟨e, fun j hj => ?_⟩
    show okw (rd_T38 l (j : Int)) = false
    rw [hrd j hj]
    cases ho : okw l[j] with
    | false => rfl
    | true =>
      exfalso
      rcases h1 with h1 | ⟨y, hy, hoy, hb⟩
      · rw [h1] at h3
        exact h3 _ (List.getElem_mem hj) ho (rk_small ho)
      · have := ha y hy
        rw [(hit_iff last b y).2 ⟨hoy, hb⟩] at this
        cases this
  · obtain ⟨ho, hb⟩ := (hit_iff last b _).1 hp
    refine .inr ⟨n, by rw [e]; omega, hn, by show okw (rd_T38 l (n : Int)) = true; rw [hrd n hn]; exact ho, fun j hj2 hoj => ?_, fun j hj2 hoj => ?_⟩
    · show ¬ lt3 (rk last (rd_T38 l (j : Int))) (rk last (rd_T38 l (n : Int)))
      have hoj' : okw (rd_T38 l (j : Int)) = true := hoj
      rw [hrd j hj2] at hoj' ⊢
      rw [hrd n hn, hb]
      exact h3 _ (List.getElem_mem hj2) hoj'
    · show rk last (rd_T38 l (j : Int)) ≠ rk last (rd_T38 l (n : Int))
      have hoj' : okw (rd_T38 l (j : Int)) = true := hoj
      rw [hrd j (by omega)] at hoj' ⊢
      rw [hrd n hn, hb]
      intro eq
      have := hj j hj2
      rw [(hit_iff last b _).2 ⟨hoj', eq⟩] at this
      cases this
end Go.Proofs.YtjjignoocaejiaaDoor.Pure
