/- mailcoachlaw01.VarintBack: any number that varint.Put puts is got again by varint.Get, whatever bytes stand behind it (2^20 at most, else nothing is claimed), from as few bytes as can be; of one byte fewer, none; a number above 2^62 - 1 is refused.
   Conditions: none. -/
import Derived.Test.YtmkmefdajbdceaaPVOx9
import Derived.Test.YtmkmefdajbdceaaMVOa
namespace Go.Proofs.Ytmkmefdajbdceaa.Pure
open Go.RowKit Go.Proofs.Ytmkmefdajbdceaa.PVO Go.Proofs.YtmkmefdajbdceaaW.PrintWords Go.Proofs.YtmkmefdajbdceaaW.PrintLast

theorem head_VarintBack (k : Nat) (hk : 40 ≤ k) (a0 : Int) (l1 : List Int) (h : l1.length ≤ 140737488351232) : mailcoachlaw01_VarintBack.f k a0 l1 = mailcoachlaw01_VarintBack.j0 k a0 l1 (decide (1048576 < l1.length)) := by
  have hb := beyond_one l1.length (by omega) k (by omega)
  unfold mailcoachlaw01_VarintBack.f
  rw [alive_at k hk]
  simp only [Option.bind_some, if_true]
  rw [hb]
  simp only [Option.bind_some]
theorem far_VarintBack (k : Nat) (hk : 40 ≤ k) (a0 : Int) (l1 : List Int) : mailcoachlaw01_VarintBack.j0 (k + 1) a0 l1 true = some true := by
  simp only [mailcoachlaw01_VarintBack.j0, if_true]
  rw [alive_at k hk]
  rfl
theorem VarintBack : mailcoachlaw01_VarintBack.Pure := by
  intro a0 l1 hw _ hsz hb
  have hn := wf_u64 hw
  obtain ⟨k, hk60⟩ : ∃ k : Nat, 100 ≤ k := ⟨100, Nat.le_refl _⟩
  refine ⟨k + 1 + 1, ?_⟩
  rw [head_VarintBack (k + 1 + 1) (by omega) a0 l1 (by omega)]
  by_cases hby : 1048576 < l1.length
  · rw [decide_eq_true hby]
    exact far_VarintBack (k + 1) (by omega) a0 l1
  · rw [decide_eq_false hby]
    simp only [mailcoachlaw01_VarintBack.j0]
    rw [if_neg (by decide)]
    by_cases hg : 4611686018427387903 < a0
    · rw [put_great a0 hg]
      simp only [Option.bind_some]
      rw [if_neg (by decide)]
      have : 4611686018427387904 ≤ a0 := by omega
      simp [this]
    · obtain ⟨c, d, s, hp, hc, hcd, hs, hl, hlp, hk⟩ := put_form a0 hn.1 (by omega)
      rw [hp]
      simp only [Option.bind_some]
      have hsl : s ≤ 8 ∧ 1 ≤ s := by omega
      have hw : wrap64 (((c :: d).length : Int) - 1) = (s : Int) - 1 := by
        simp only [List.length_cons, wrap64]
        omega
      have hg2 := get_of c d l1 hc.1 hc.2 s hs hl
      rw [hlp] at hg2
      have hsh : varint_Get.f ((c :: d).take (s - 1)) = some (0, 0, 4) := by
        rcases Nat.lt_or_ge 1 s with h1 | h1
        · obtain ⟨j, rfl⟩ : ∃ j, s = j + 2 := ⟨s - 2, by omega⟩
          rw [show j + 2 - 1 = j + 1 by omega, List.take_succ_cons]
          exact get_short c (d.take j) hc.1 hc.2 (by rw [hs, List.length_take]; omega)
        · have : s = 1 := by omega
          subst this
          simp [varint_Get.f]
      have hlen : (c :: d).length = s := by simpa using hl
      rw [if_pos trivial, hw, if_pos (by omega), if_pos (by rw [hlen]; omega), show ((s : Int) - 1).toNat = s - 1 by omega, hsh]
      simp only [Option.bind_some]
      rw [if_pos (by rw [hlen]; omega), hg2]
      simp only [Option.bind_some]
      rw [hlen]
      simp only [if_true]
      rcases hk with ⟨rfl, h⟩ | ⟨rfl, h, h'⟩ | ⟨rfl, h, h'⟩ | ⟨rfl, h⟩
      · rw [if_neg (by omega), if_neg (by omega), if_neg (by omega)]; rfl
      · rw [if_neg (by omega), if_neg (by omega), if_pos (by omega)]; rfl
      · rw [if_neg (by omega), if_pos (by omega)]; rfl
      · rw [if_pos (by omega)]; rfl

end Go.Proofs.Ytmkmefdajbdceaa.Pure
