/- mailcoachlaw01.VarintOrder: of two numbers that varint.Put puts into as many bytes the greater one has the greater bytes; one with fewer bytes is the smaller one.
   Conditions: none. -/
import Derived.Test.YtmkmefdajbdceaaPVOx10
import Derived.Test.YtmkmefdajbdceaaMVOc
namespace Go.Proofs.Ytmkmefdajbdceaa.Pure
open Go.RowKit Go.Proofs.Ytmkmefdajbdceaa.PVO Go.Proofs.YtmkmefdajbdceaaW.PrintWords Go.Proofs.YtmkmefdajbdceaaW.PrintLast

theorem order_l0 (n m : Int) (x y : List Int) (hl : x.length = y.length) (hn : x.length ≤ 8) (hx : Bytes x) (hy : Bytes y) (d : Nat) : ∀ (k i : Nat), i + d = x.length → d < k → (n < m ↔ V (x.drop i) < V (y.drop i)) → (n = m ↔ V (x.drop i) = V (y.drop i)) →
    mailcoachlaw01_VarintOrder.l0 k n m x y i = some true := by
  induction d with
  | zero =>
    intro k i hi hk hlt heq
    obtain ⟨k, rfl⟩ : ∃ m, k = m + 1 := ⟨k - 1, by omega⟩
    have h1 : x.drop i = [] := List.drop_eq_nil_of_le (by omega)
    have h2 : y.drop i = [] := List.drop_eq_nil_of_le (by omega)
    rw [h1, h2] at heq
    have hnm : n = m := heq.2 rfl
    simp only [mailcoachlaw01_VarintOrder.l0]
    rw [if_neg (by omega), if_pos (by omega)]
    simp [hnm]
  | succ d ih =>
    intro k i hi hk hlt heq
    obtain ⟨k, rfl⟩ : ∃ m, k = m + 1 := ⟨k - 1, by omega⟩
    have c1 : (i : Int) < x.length := by omega
    have c2 : (0 : Int) ≤ i := by omega
    have c3 : (i : Int) < y.length := by omega
    have c4 : ¬ (i : Int) = x.length := by omega
    have q0 : rd x i = x[i]'(by omega) := by simp [rd, List.getD_eq_getElem?_getD, List.getElem?_eq_getElem (show i < x.length by omega)]
    have q1 : rd y i = y[i]'(by omega) := by simp [rd, List.getD_eq_getElem?_getD, List.getElem?_eq_getElem (show i < y.length by omega)]
    have dx : x.drop i = rd x i :: x.drop (i + 1) := by rw [List.drop_eq_getElem_cons (by omega), q0]
    have dy : y.drop i = rd y i :: y.drop (i + 1) := by rw [List.drop_eq_getElem_cons (by omega), q1]
    have hxd : Bytes (x.drop (i + 1)) := fun z hz => hx z (List.mem_of_mem_drop hz)
    have hyd : Bytes (y.drop (i + 1)) := fun z hz => hy z (List.mem_of_mem_drop hz)
    have hld : (x.drop (i + 1)).length = (y.drop (i + 1)).length := by simp [hl]
    have e2 : wrap64 ((i : Int) + 1) = ((i + 1 : Nat) : Int) := by unfold wrap64; omega
    rw [dx, dy] at hlt heq
    simp only [mailcoachlaw01_VarintOrder.l0]
    rw [if_pos c1, if_pos c2, if_pos c3]
    by_cases hq : rd x i = rd y i
    · rw [if_pos hq, e2]
      clear e2
      refine ih k (i + 1) (by omega) (by omega) ?_ ?_
      · rw [hlt, hq]; simp only [V, hld]; constructor <;> intro h <;> omega
      · rw [heq, hq]; simp only [V, hld]; constructor <;> intro h <;> omega
    · rw [if_neg hq, if_neg c4]
      clear e2
      rcases Int.lt_or_gt_of_ne hq with hab | hab
      · have := V_lt _ _ _ _ hld hxd hyd hab
        have h1 : n < m := hlt.2 this
        simp [hab, h1]
      · have := V_lt _ _ _ _ hld.symm hyd hxd hab
        have h1 : ¬ n < m := fun h => by have := hlt.1 h; omega
        have h2 : ¬ rd x i < rd y i := by omega
        simp [h1, h2]
theorem sz_top {c : Int} {s : Nat} (c0 : 0 ≤ c) (c1 : c < 256) (h : varint_Get.sz c = s) : (s = 1 ∧ c / 64 = 0) ∨ (s = 2 ∧ c / 64 = 1) ∨ (s = 4 ∧ c / 64 = 2) ∨ (s = 8 ∧ c / 64 = 3) := by
  obtain ⟨_, h2⟩ := varint_Get.sz_cases c ⟨c0, c1⟩
  rw [h] at h2
  omega
theorem VarintOrder : mailcoachlaw01_VarintOrder.Pure := by
  intro a0 a1 hw0 hw1
  have hn := wf_u64 hw0
  have hm := wf_u64 hw1
  refine ⟨60, ?_⟩
  unfold mailcoachlaw01_VarintOrder.f
  have halive : ∀ (x y : Int) (l l' : List Int), mailcoachlaw01_VarintOrder.j0 60 x y l l' true = some true := fun x y l l' => by
    simp only [mailcoachlaw01_VarintOrder.j0, if_true]
    rw [alive_at 59 (by omega)]; rfl
  by_cases hg0 : 4611686018427387903 < a0
  · rw [put_great a0 hg0]
    simp only [Option.bind_some]
    by_cases hg1 : 4611686018427387903 < a1
    · rw [put_great a1 hg1]
      simp only [Option.bind_some]
      rw [alive_at 60 (by omega)]
      simp only [Option.bind_some, if_true]
      rw [if_neg (by decide)]
      exact halive _ _ _ _
    · obtain ⟨c, d, s, hp, _⟩ := put_form a1 hm.1 (by omega)
      rw [hp]
      simp only [Option.bind_some]
      rw [alive_at 60 (by omega)]
      simp only [Option.bind_some, if_true]
      rw [if_neg (by decide)]
      exact halive _ _ _ _
  · obtain ⟨c, d, s, hp, hc, hcd, hs, hl, hlp, hk⟩ := put_form a0 hn.1 (by omega)
    rw [hp]
    simp only [Option.bind_some]
    by_cases hg1 : 4611686018427387903 < a1
    · rw [put_great a1 hg1]
      simp only [Option.bind_some]
      rw [alive_at 60 (by omega)]
      simp only [Option.bind_some, if_true]
      exact halive _ _ _ _
    · obtain ⟨c', d', s', hp', hc', hcd', hs', hl', hlp', hk'⟩ := put_form a1 hm.1 (by omega)
      rw [hp']
      simp only [Option.bind_some]
      rw [alive_at 60 (by omega)]
      simp only [Option.bind_some, if_true]
      show mailcoachlaw01_VarintOrder.j0 60 a0 a1 (c :: d) (c' :: d') false = some true
      simp only [mailcoachlaw01_VarintOrder.j0]
      rw [if_neg (by decide)]
      have hlen : (c :: d).length = s := by simpa using hl
      have hlen' : (c' :: d').length = s' := by simpa using hl'
      have hd7 : d.length ≤ 7 := by omega
      have hd7' : d'.length ≤ 7 := by omega
      by_cases hss : s = s'
      · rw [if_pos (by rw [hlen, hlen', hss])]
        have t1 := sz_top hc.1 hc.2 hs
        have t2 := sz_top hc'.1 hc'.2 hs'
        have hdl : d.length = d'.length := by omega
        obtain ⟨v1, _, _⟩ := V_of c d hcd hd7
        obtain ⟨v2, _, _⟩ := V_of c' d' hcd' hd7'
        have htop : c / 64 = c' / 64 := by omega
        rw [hlp] at v1
        rw [hlp', ← htop, ← hdl] at v2
        refine order_l0 a0 a1 _ _ (by rw [hlen, hlen', hss]) (by rw [hlen]; omega) hcd hcd' (c :: d).length 59 0 (by omega) (by rw [hlen]; omega) ?_ ?_
        · rw [List.drop_zero, List.drop_zero, v1, v2]; constructor <;> intro h <;> omega
        · rw [List.drop_zero, List.drop_zero, v1, v2]; constructor <;> intro h <;> omega
      · rw [if_neg (by rw [hlen, hlen']; omega), hlen, hlen']
        have : (s : Int) < s' ↔ a0 < a1 := by omega
        simp [this]

end Go.Proofs.Ytmkmefdajbdceaa.Pure
