/- mailcoachlaw23.PrioTurns: streams that share, of one urgency, take turns. -/
import Derived.Test.YtjjignoocaejiaaDoorPPRx19
import Derived.Test.YtjjignoocaejiaaDoorMPa
namespace Go.Proofs.YtjjignoocaejiaaDoor.Pure
open Go.RowKit Go.Proofs.YtjjignoocaejiaaDoor.PPR Go.Proofs.YtjjignoocaejiaaDoorW.PrintWords Go.Proofs.YtjjignoocaejiaaDoorW.PrintLast
set_option linter.unusedVariables false
set_option linter.unusedSimpArgs false

theorem wrap_more (j : Nat) (h : j ≤ 4611686018427387903) : wrap64 ((j : Int) + 1) = ((j + 1 : Nat) : Int) := by unfold wrap64; omega
/-- Streams of one urgency that share, no two with one number. -/
structure Row (u : Int) (l : List S38) : Prop where
  all : ∀ j : Nat, j < l.length → (rd_T38 l (j : Int)).f1 = ⟨u, true⟩ ∧ 0 ≤ (rd_T38 l (j : Int)).f0 ∧ (rd_T38 l (j : Int)).f0 < 18446744073709551616
  inj : ∀ i j : Nat, i < l.length → j < l.length → (rd_T38 l (i : Int)).f0 = (rd_T38 l (j : Int)).f0 → i = j
theorem rdT_snoc (l : List S38) (x : S38) (j : Nat) : rd_T38 (l ++ [x]) (j : Int) = if j < l.length then rd_T38 l (j : Int) else if j = l.length then x else rd_T38 l (j : Int) := by
  unfold rd_T38
  simp only [Int.toNat_natCast, List.getD_eq_getElem?_getD]
  by_cases h : j < l.length
  · rw [if_pos h, List.getElem?_append_left h]
  · rw [if_neg h]
    by_cases h2 : j = l.length
    · rw [if_pos h2, h2, List.getElem?_append_right (Nat.le_refl _)]; simp
    · rw [if_neg h2, List.getElem?_eq_none (by simp; omega), List.getElem?_eq_none (by omega)]
theorem Row.nil (u : Int) : Row u [] := ⟨fun j h => by simp at h, fun i j h => by simp at h⟩
theorem Row.snoc {u v : Int} {l : List S38} (h : Row u l) (v0 : 0 ≤ v) (v1 : v < 18446744073709551616) (hn : ∀ j : Nat, j < l.length → (rd_T38 l (j : Int)).f0 ≠ v) : Row u (l ++ [⟨v, ⟨u, true⟩⟩]) := by
  constructor
  · intro j hj
    rw [List.length_append, List.length_singleton] at hj
    rw [rdT_snoc]
    by_cases h2 : j < l.length
    · rw [if_pos h2]; exact h.all j h2
    · rw [if_neg h2, if_pos (by omega)]; exact ⟨rfl, v0, v1⟩
  · intro i j hi hj e
    rw [List.length_append, List.length_singleton] at hi hj
    rw [rdT_snoc, rdT_snoc] at e
    by_cases h1 : i < l.length
    · rw [if_pos h1] at e
      by_cases h2 : j < l.length
      · rw [if_pos h2] at e; exact h.inj i j h1 h2 e
      · rw [if_neg h2, if_pos (by omega)] at e; exact absurd e (hn i h1)
    · rw [if_neg h1, if_pos (by omega)] at e
      by_cases h2 : j < l.length
      · rw [if_pos h2] at e; exact absurd e.symm (hn j h2)
      · omega
theorem turns_l1 (x0 : List Int) (x1 x2 : Int) (l : List S38) (i : Nat) (hi : i < x0.length) (hl : l.length ≤ 60) : ∀ (d k j : Nat) (b : Bool), j + d = l.length → (b = true ↔ ∃ q : Nat, q < j ∧ (rd_T38 l (q : Int)).f0 = rd x0 i) →
    ((∃ q : Nat, q < l.length ∧ (rd_T38 l (q : Int)).f0 = rd x0 i) ∧ mailcoachlaw23_PrioTurns.l1 (d + 1 + k) x0 x1 x2 l i b j = mailcoachlaw23_PrioTurns.l0 k x0 x1 x2 l (wrap64 (i + 1))) ∨
    ((∀ q : Nat, q < l.length → (rd_T38 l (q : Int)).f0 ≠ rd x0 i) ∧ mailcoachlaw23_PrioTurns.l1 (d + 1 + k) x0 x1 x2 l i b j = mailcoachlaw23_PrioTurns.l0 k x0 x1 x2 (l ++ [⟨rd x0 i, ⟨wrap64 (Int.tmod x1 8), true⟩⟩]) (wrap64 (i + 1)))
  | 0, k, j, b, hj, hb => by
    have h1 : (0 : Int) ≤ (i : Int) := by omega
    have h2 : (i : Int) < x0.length := by omega
    obtain rfl : j = l.length := by omega
    rw [show 0 + 1 + k = k + 1 by omega, mailcoachlaw23_PrioTurns.l1, if_neg (by omega)]
    cases b with
    | true => exact .inl ⟨hb.1 rfl, by rw [if_pos rfl]⟩
    | false =>
      refine .inr ⟨fun q hq e => ?_, by rw [if_neg Bool.false_ne_true, if_pos h1, if_pos h2, if_pos (by omega)]⟩
      exact absurd (hb.2 ⟨q, hq, e⟩) Bool.false_ne_true
  | d + 1, k, j, b, hj, hb => by
    have h1 : (0 : Int) ≤ (i : Int) := by omega
    have h2 : (i : Int) < x0.length := by omega
    have h3 : (0 : Int) ≤ (j : Int) := by omega
    have w := wrap_more j (by omega)
    rw [show d + 1 + 1 + k = (d + 1 + k) + 1 by omega, mailcoachlaw23_PrioTurns.l1, if_pos (by clear w; omega), w]
    cases b with
    | true =>
      rw [if_pos rfl]
      refine turns_l1 x0 x1 x2 l i hi hl d k (j + 1) true (by clear w; omega) ⟨fun _ => ?_, fun _ => rfl⟩
      obtain ⟨q, hq, e⟩ := hb.1 rfl
      exact ⟨q, by omega, e⟩
    | false =>
      rw [if_neg Bool.false_ne_true, if_pos h3, if_pos h1, if_pos h2]
      refine turns_l1 x0 x1 x2 l i hi hl d k (j + 1) _ (by clear w; omega) ⟨fun h => ⟨j, by omega, by simpa using h⟩, fun ⟨q, hq, e⟩ => ?_⟩
      by_cases hqj : q = j
      · subst hqj; simpa using e
      · exact absurd (hb.2 ⟨q, by omega, e⟩) Bool.false_ne_true
theorem turns_l0 (x0 : List Int) (x1 x2 : Int) (hw : ∀ x ∈ x0, 0 ≤ x ∧ x < 18446744073709551616) (hx : x0.length ≤ 4611686018427387902) : ∀ (d i : Nat) (l : List S38), i + d = min x0.length 60 → l.length ≤ i → Row (wrap64 (Int.tmod x1 8)) l →
    ∃ l' : List S38, l'.length ≤ 60 ∧ Row (wrap64 (Int.tmod x1 8)) l' ∧ ∃ K, ∀ k, mailcoachlaw23_PrioTurns.l0 (K + k) x0 x1 x2 l i = mailcoachlaw23_PrioTurns.l2 k x2 l' [] 0
  | 0, i, l, hi, hl, hr => by
    refine ⟨l, by omega, hr, 2, fun k => ?_⟩
    rw [show 2 + k = (k + 1) + 1 by omega, mailcoachlaw23_PrioTurns.l0]
    by_cases h : (i : Int) < x0.length
    · rw [if_pos h, decide_eq_false (by omega), mailcoachlaw23_PrioTurns.j1, if_neg Bool.false_ne_true]
    · rw [if_neg h, mailcoachlaw23_PrioTurns.j1, if_neg Bool.false_ne_true]
  | d + 1, i, l, hi, hl, hr => by
    have hi2 : i < x0.length := by omega
    have w := wrap_more i (by omega)
    have hmem : 0 ≤ rd x0 i ∧ rd x0 i < 18446744073709551616 := by
      apply hw
      unfold rd
      rw [Int.toNat_natCast, List.getD_eq_getElem?_getD, List.getElem?_eq_getElem hi2]
      exact List.getElem_mem _
    rcases turns_l1 x0 x1 x2 l i hi2 (by omega) l.length 0 0 false (by omega) ⟨fun h => absurd h Bool.false_ne_true, fun ⟨q, hq, _⟩ => by omega⟩ with ⟨hq, _⟩ | ⟨hq, _⟩
    · obtain ⟨l', h1, h2, K, h3⟩ := turns_l0 x0 x1 x2 hw hx d (i + 1) l (by clear w; omega) (by clear w; omega) hr
      refine ⟨l', h1, h2, K + (l.length + 1) + 2, fun k => ?_⟩
      rw [show K + (l.length + 1) + 2 + k = ((l.length + 1 + (K + k)) + 1) + 1 by clear w; omega, mailcoachlaw23_PrioTurns.l0, if_pos (by clear w; omega), decide_eq_true (by clear w; omega), mailcoachlaw23_PrioTurns.j1, if_pos rfl]
      rcases turns_l1 x0 x1 x2 l i hi2 (by clear w; omega) l.length (K + k) 0 false (by clear w; omega) ⟨fun h => absurd h Bool.false_ne_true, fun ⟨q, hq, _⟩ => by clear w; omega⟩ with ⟨_, e⟩ | ⟨hn, _⟩
      · have e' : mailcoachlaw23_PrioTurns.l1 (l.length + 1 + (K + k)) x0 x1 x2 l i false 0 = _ := e
        rw [e', w]; exact h3 k
      · obtain ⟨q, hq1, hq2⟩ := hq; exact absurd hq2 (hn q hq1)
    · obtain ⟨l', h1, h2, K, h3⟩ := turns_l0 x0 x1 x2 hw hx d (i + 1) (l ++ [⟨rd x0 i, ⟨wrap64 (Int.tmod x1 8), true⟩⟩]) (by clear w; omega) (by rw [List.length_append, List.length_singleton]; clear w; omega) (hr.snoc hmem.1 hmem.2 hq)
      refine ⟨l', h1, h2, K + (l.length + 1) + 2, fun k => ?_⟩
      rw [show K + (l.length + 1) + 2 + k = ((l.length + 1 + (K + k)) + 1) + 1 by clear w; omega, mailcoachlaw23_PrioTurns.l0, if_pos (by clear w; omega), decide_eq_true (by clear w; omega), mailcoachlaw23_PrioTurns.j1, if_pos rfl]
      rcases turns_l1 x0 x1 x2 l i hi2 (by clear w; omega) l.length (K + k) 0 false (by clear w; omega) ⟨fun h => absurd h Bool.false_ne_true, fun ⟨q, hq, _⟩ => by clear w; omega⟩ with ⟨⟨q, hq1, hq2⟩, _⟩ | ⟨_, e⟩
      · exact absurd hq2 (hq q hq1)
      · have e' : mailcoachlaw23_PrioTurns.l1 (l.length + 1 + (K + k)) x0 x1 x2 l i false 0 = _ := e
        rw [e', w]; exact h3 k
/-- How far a number is behind where the turns began, going round. -/
def far (b x : Int) : Int := if b < x then x - b - 1 else x + 18446744073709551616 - b - 1
theorem far_inj {b x y : Int} (b0 : 0 ≤ b) (b1 : b < 18446744073709551616) (x0 : 0 ≤ x) (x1 : x < 18446744073709551616) (y0 : 0 ≤ y) (y1 : y < 18446744073709551616) (h : far b x = far b y) : x = y := by
  unfold far at h; split at h <;> split at h <;> omega
theorem cnt_step (p q : Nat → Bool) (m : Nat) : ∀ l : List Nat, l.Nodup → m ∈ l → (∀ x ∈ l, q x = true ↔ p x = true ∨ x = m) → p m = false → l.countP q = l.countP p + 1
  | [], _, hm, _, _ => by cases hm
  | x :: l, hn, hm, hq, hp => by
    have hn' := List.nodup_cons.1 hn
    by_cases hx : x = m
    · subst hx
      have e : l.countP q = l.countP p := by
        apply List.countP_congr
        intro y hy
        have hne : y ≠ x := fun e => hn'.1 (e ▸ hy)
        have := hq y (List.mem_cons_of_mem _ hy)
        simp [this, hne]
      have hqx : q x = true := (hq x List.mem_cons_self).2 (.inr rfl)
      rw [List.countP_cons_of_pos hqx, List.countP_cons_of_neg (by simp [hp]), e]
    · have ih := cnt_step p q m l hn'.2 (by rcases List.mem_cons.1 hm with h | h; exact absurd h.symm hx; exact h) (fun y hy => hq y (List.mem_cons_of_mem _ hy)) hp
      have hqx := hq x List.mem_cons_self
      by_cases hpx : p x = true
      · rw [List.countP_cons_of_pos (hqx.2 (.inl hpx)), List.countP_cons_of_pos hpx, ih]
      · rw [List.countP_cons_of_neg (fun h => by rcases hqx.1 h with h | h; exact hpx h; exact hx h), List.countP_cons_of_neg hpx, ih]
theorem turns_l3 (l : List S38) (x12 : Int) (seen : List Int) (t : Int) (h0 : 0 ≤ t) (h1 : t < l.length) (hs : seen.length ≤ 60) (hn : ∀ q : Nat, q < seen.length → rd seen (q : Int) ≠ t) : ∀ (d k j : Nat), j + d = seen.length →
    mailcoachlaw23_PrioTurns.l3 (d + 1 + k) l seen x12 t j = mailcoachlaw23_PrioTurns.l2 k ((rd_T38 l t).f0) l (seen ++ [t]) (wrap64 (x12 + 1))
  | 0, k, j, hj => by
    rw [show 0 + 1 + k = k + 1 by omega, mailcoachlaw23_PrioTurns.l3, if_neg (by omega), if_pos (by omega), if_pos h0, if_pos h1]
  | d + 1, k, j, hj => by
    have h2 : (0 : Int) ≤ (j : Int) := by omega
    have hne := hn j (by omega)
    have w := wrap_more j (by omega)
    rw [show d + 1 + 1 + k = (d + 1 + k) + 1 by omega, mailcoachlaw23_PrioTurns.l3, if_pos (by clear w; omega), if_pos h2, if_neg hne, w]
    exact turns_l3 l x12 seen t h0 h1 hs hn d k (j + 1) (by clear w; omega)
theorem rk_order (u b last D x y : Int) (b0 : 0 ≤ b) (b1 : b < 18446744073709551616) (x0 : 0 ≤ x) (x1 : x < 18446744073709551616) (y0 : 0 ≤ y) (y1 : y < 18446744073709551616) (hD : (last = b ∧ D = -1) ∨ (D = far b last ∧ 0 ≤ last ∧ last < 18446744073709551616)) (hy : D < far b y) (hx : far b x ≤ D ∨ far b y < far b x) : lt3 (rk last ⟨y, ⟨u, true⟩⟩) (rk last ⟨x, ⟨u, true⟩⟩) := by
  unfold rk lt3 prio_turn
  simp only [if_true]
  refine .inr ⟨trivial, ?_⟩
  unfold far at hD hy hx
  by_cases c1 : last < y
  · rw [if_pos c1]
    by_cases c2 : last < x
    · rw [if_pos c2]
      refine .inr ⟨rfl, ?_⟩
      split at hy <;> split at hD <;> split at hx <;> omega
    · rw [if_neg c2]; left; omega
  · rw [if_neg c1]
    by_cases c2 : last < x
    · exfalso
      split at hy <;> split at hD <;> split at hx <;> omega
    · rw [if_neg c2]
      refine .inr ⟨rfl, ?_⟩
      split at hy <;> split at hD <;> split at hx <;> omega
theorem turns_l2 (u : Int) (hu : prio_ok u = true) (l : List S38) (hr : Row u l) (hl : l.length ≤ 60) (b : Int) (b0 : 0 ≤ b) (b1 : b < 18446744073709551616) : ∀ (d i : Nat) (last : Int) (seen : List Int) (D : Int), i + d = l.length → seen.length = i →
    (∀ q : Nat, q < seen.length → ∃ j : Nat, j < l.length ∧ rd seen (q : Int) = (j : Int) ∧ far b (rd_T38 l (j : Int)).f0 ≤ D) →
    ((List.range l.length).countP (fun j : Nat => decide (far b (rd_T38 l (j : Int)).f0 ≤ D)) = i) → ((last = b ∧ D = -1) ∨ (D = far b last ∧ 0 ≤ last ∧ last < 18446744073709551616)) → ∃ K, ∀ k, mailcoachlaw23_PrioTurns.l2 (K + k) last l seen i = some true
  | 0, i, last, seen, D, hi, hs, hm, hc, hD => by
    refine ⟨1, fun k => ?_⟩
    rw [show 1 + k = k + 1 by omega, mailcoachlaw23_PrioTurns.l2, if_neg (by omega), lives_true]
    rfl
  | d + 1, i, last, seen, D, hi, hs, hm, hc, hD => by
    obtain ⟨j0, hj0, hun⟩ : ∃ j0 : Nat, j0 < l.length ∧ D < far b (rd_T38 l (j0 : Int)).f0 := by
      apply Classical.byContradiction
      intro hno
      have hall : ∀ a ∈ List.range l.length, (decide (far b (rd_T38 l (a : Int)).f0 ≤ D)) = true := fun a ha => by
        have h := List.mem_range.1 ha
        exact decide_eq_true (by
          apply Classical.byContradiction
          intro hgt
          exact hno ⟨a, h, by omega⟩)
      have := List.countP_eq_length.2 hall
      rw [List.length_range] at this
      omega
    obtain ⟨r, hp, hpk⟩ := pick_spec l last
    have hel : ∀ j : Nat, j < l.length → rd_T38 l (j : Int) = ⟨(rd_T38 l (j : Int)).f0, ⟨u, true⟩⟩ := fun j hj => by
      have h := (hr.all j hj).1
      generalize rd_T38 l (j : Int) = x at h ⊢
      cases x
      simp only at h
      rw [h]
    have hok : ∀ j : Nat, j < l.length → okw (rd_T38 l (j : Int)) = true := fun j hj => by rw [hel j hj]; exact hu
    rcases hpk with ⟨_, hno⟩ | ⟨m, rfl, hm1, _, hm2, _⟩
    · have h := hno j0 hj0
      have h' : okw (rd_T38 l (j0 : Int)) = false := h
      rw [hok j0 hj0] at h'
      cases h'
    · have hord : ∀ x y : Nat, x < l.length → y < l.length → D < far b (rd_T38 l (y : Int)).f0 → (far b (rd_T38 l (x : Int)).f0 ≤ D ∨ far b (rd_T38 l (y : Int)).f0 < far b (rd_T38 l (x : Int)).f0) → lt3 (rk last (rd_T38 l (y : Int))) (rk last (rd_T38 l (x : Int))) := fun x y hx hy h1 h2 => by
        have e := rk_order u b last D _ _ b0 b1 (hr.all x hx).2.1 (hr.all x hx).2.2 (hr.all y hy).2.1 (hr.all y hy).2.2 hD h1 h2
        rw [← hel x hx, ← hel y hy] at e
        exact e
      have hmD : D < far b (rd_T38 l (m : Int)).f0 := by
        apply Classical.byContradiction
        intro h
        exact hm2 j0 hj0 (hok j0 hj0) (hord m j0 hm1 hj0 hun (.inl (by omega)))
      have hmin : ∀ j : Nat, j < l.length → D < far b (rd_T38 l (j : Int)).f0 → far b (rd_T38 l (m : Int)).f0 ≤ far b (rd_T38 l (j : Int)).f0 := fun j hj h => by
        apply Classical.byContradiction
        intro hlt
        exact hm2 j hj (hok j hj) (hord m j hm1 hj h (.inr (by omega)))
      have hcnt := cnt_step (fun j : Nat => decide (far b (rd_T38 l (j : Int)).f0 ≤ D)) (fun j : Nat => decide (far b (rd_T38 l (j : Int)).f0 ≤ far b (rd_T38 l (m : Int)).f0)) m (List.range l.length) List.nodup_range (List.mem_range.2 hm1) (fun j hj => by
        have hj' := List.mem_range.1 hj
        simp only [decide_eq_true_eq]
        constructor
        · intro h
          by_cases hd : D < far b (rd_T38 l (j : Int)).f0
          · right
            have h2 := hmin j hj' hd
            have he := far_inj b0 b1 (hr.all j hj').2.1 (hr.all j hj').2.2 (hr.all m hm1).2.1 (hr.all m hm1).2.2 (by omega)
            exact hr.inj j m hj' hm1 he
          · left; omega
        · rintro (h | h)
          · omega
          · rw [h]; exact Int.le_refl _) (decide_eq_false (by omega))
      obtain ⟨K, hK⟩ := turns_l2 u hu l hr hl b b0 b1 d (i + 1) (rd_T38 l (m : Int)).f0 (seen ++ [(m : Int)]) (far b (rd_T38 l (m : Int)).f0) (by omega) (by rw [List.length_append, List.length_singleton, hs]) (fun q hq => by
        rw [List.length_append, List.length_singleton] at hq
        unfold rd
        rw [Int.toNat_natCast, List.getD_eq_getElem?_getD]
        by_cases hqs : q < seen.length
        · obtain ⟨j, hj, e, hf⟩ := hm q hqs
          refine ⟨j, hj, ?_, by omega⟩
          rw [List.getElem?_append_left hqs]
          unfold rd at e
          rw [Int.toNat_natCast, List.getD_eq_getElem?_getD] at e
          exact e
        · obtain rfl : q = seen.length := by omega
          refine ⟨m, hm1, ?_, Int.le_refl _⟩
          rw [List.getElem?_append_right (Nat.le_refl _)]
          simp) (by rw [hcnt, hc]) (.inr ⟨rfl, (hr.all m hm1).2.1, (hr.all m hm1).2.2⟩)
      refine ⟨K + (seen.length + 1) + 2, fun k => ?_⟩
      have w := wrap_more i (by omega)
      have hns : ∀ q : Nat, q < seen.length → rd seen (q : Int) ≠ (m : Int) := fun q hq e => by
        obtain ⟨j, hj, e2, hf⟩ := hm q hq
        rw [e] at e2
        have : m = j := by omega
        subst this
        omega
      rw [show K + (seen.length + 1) + 2 + k = ((seen.length + 1 + (K + k)) + 1) + 1 by clear w; omega, mailcoachlaw23_PrioTurns.l2, if_pos (by clear w; omega), hp]
      simp only [Option.bind_some]
      rw [if_neg (by clear w; omega), decide_eq_false (by clear w; omega), mailcoachlaw23_PrioTurns.j4, if_neg Bool.false_ne_true]
      have h3 := turns_l3 l i seen m (by clear w; omega) (by clear w; omega) (by clear w; omega) hns seen.length (K + k) 0 (by clear w; omega)
      have h3' : mailcoachlaw23_PrioTurns.l3 (seen.length + 1 + (K + k)) l seen i m 0 = _ := h3
      rw [h3', w]
      exact hK k
theorem PrioTurns : mailcoachlaw23_PrioTurns.Pure := by
  intro l0 a1 a2 hm hs hw h1 h2
  have hw' : ∀ x ∈ l0, 0 ≤ x ∧ x < 18446744073709551616 := fun x hx => by
    have := hw x hx
    simp [Lit.wf, IntKind.min, IntKind.max, IntKind.signed, IntKind.bits] at this
    omega
  have hb : 0 ≤ a2 ∧ a2 < 18446744073709551616 := by
    simp [Lit.wf, IntKind.min, IntKind.max, IntKind.signed, IntKind.bits] at h2
    omega
  have ha : 0 ≤ a1 ∧ a1 < 256 := by
    simp [Lit.wf, IntKind.min, IntKind.max, IntKind.signed, IntKind.bits] at h1
    omega
  have ht : Int.tmod a1 8 = a1 % 8 := Int.tmod_eq_emod_of_nonneg ha.1
  have hu : wrap64 (Int.tmod a1 8) = a1 % 8 := by rw [ht]; clear ht; unfold wrap64; omega
  obtain ⟨l, q1, q2, K, hK⟩ := turns_l0 l0 a1 a2 hw' (by clear ht hu; omega) (min l0.length 60) 0 [] (by clear ht hu; omega) (by simp) (Row.nil _)
  rw [hu] at q2
  obtain ⟨K2, hK2⟩ := turns_l2 (a1 % 8) (by unfold prio_ok; exact decide_eq_true (by clear ht hu; omega)) l q2 q1 a2 hb.1 hb.2 l.length 0 a2 [] (-1) (by omega) rfl (fun q hq => by simp at hq) (by
    rw [List.countP_eq_zero]
    intro j hj
    have hj' := List.mem_range.1 hj
    have hx := q2.all j hj'
    simp only [decide_eq_true_eq]
    unfold far
    split <;> (clear ht hu; omega)) (.inl ⟨rfl, rfl⟩)
  refine ⟨K + (K2 + 0), ?_⟩
  unfold mailcoachlaw23_PrioTurns.f
  have h := hK (K2 + 0)
  have h' : mailcoachlaw23_PrioTurns.l0 (K + (K2 + 0)) l0 a1 a2 [] 0 = _ := h
  rw [h']
  exact hK2 0
end Go.Proofs.YtjjignoocaejiaaDoor.Pure
