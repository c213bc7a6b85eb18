/- mailcoachlaw01.VarintPrefixBack: any number that varint.PutPrefix puts into what is left of a byte is got again by varint.GetPrefix, with what stands above it, whatever bytes stand behind (2^20 at most, else nothing is claimed); of one byte fewer, none; what is not put is refused with ErrArg.
   Conditions: none. -/
import Derived.Test.YtmkmefdajbdceaaPVOx12
import Derived.Test.YtmkmefdajbdceaaMVOb
namespace Go.Proofs.Ytmkmefdajbdceaa.Pure
open Go.RowKit Go.Proofs.Ytmkmefdajbdceaa.PVO Go.Proofs.YtmkmefdajbdceaaW.PrintWords Go.Proofs.YtmkmefdajbdceaaW.PrintLast

theorem head_VarintPrefixBack (k : Nat) (hk : 40 ≤ k) (a0 a1 n : Int) (l2 : List Int) (h : l2.length ≤ 140737488351232) : mailcoachlaw01_VarintPrefixBack.f k a0 a1 n l2 = mailcoachlaw01_VarintPrefixBack.j0 k n l2 (decide (1048576 < l2.length)) a0 a1 := by
  have hb := beyond_one l2.length (by omega) k (by omega)
  unfold mailcoachlaw01_VarintPrefixBack.f
  rw [alive_at k hk]
  simp only [Option.bind_some, if_true]
  rw [hb]
  simp only [Option.bind_some]
theorem far_VarintPrefixBack (k : Nat) (hk : 40 ≤ k) (a0 a1 n : Int) (l2 : List Int) : mailcoachlaw01_VarintPrefixBack.j0 (k + 1) n l2 true a0 a1 = some true := by
  simp only [mailcoachlaw01_VarintPrefixBack.j0, if_true]
  rw [alive_at k hk]
  rfl
theorem VarintPrefixBack (a0 a1 n : Int) (l2 : List Int) (hw0 : (Lit.int .u8 a0).wf = true) (_ : (Lit.int .i64 a1).wf = true) (hw2 : (Lit.int .u64 n).wf = true) (_ : l2.length ≤ maxLen) (hsz : l2.length * 1 ≤ 140737488351232) (hwb : ∀ x ∈ l2, (Lit.int .u8 x).wf = true) :
    ∃ k, mailcoachlaw01_VarintPrefixBack.f k a0 a1 n l2 = some true := by
  have hb : Bytes l2 := fun x hx => wf_u8 (hwb x hx)
  have h0 := wf_u8 hw0
  have hn := wf_u64 hw2
  obtain ⟨k, hk60⟩ : ∃ k : Nat, 100 ≤ k := ⟨100, Nat.le_refl _⟩
  refine ⟨k + 1 + 1, ?_⟩
  rw [head_VarintPrefixBack (k + 1 + 1) (by omega) a0 a1 n l2 (by omega)]
  by_cases hby : 1048576 < l2.length
  · rw [decide_eq_true hby]
    exact far_VarintPrefixBack (k + 1) (by omega) a0 a1 n l2
  · rw [decide_eq_false hby]
    simp only [mailcoachlaw01_VarintPrefixBack.j0]
    rw [if_neg (by decide)]
    have key : varint_PutPrefix.f a0 a1 n = some ([], 1) ∨ ∃ l, varint_PutPrefix.f a0 a1 n = some (l, 0) := by
      rcases pput_cases a0 a1 n h0.1 h0.2 hn.1 with h | ⟨_, ⟨_, h⟩ | ⟨_, h⟩⟩
      · exact .inl h
      · exact .inr ⟨_, h⟩
      · exact .inr ⟨_, h⟩
    rcases key with h | ⟨l, h⟩
    · rw [h]; rfl
    · obtain ⟨hg, hbl, hne⟩ := pput_get a0 a1 n l h0.1 h0.2 hn.1 h l2 hb
      have hll : l.length ≤ 11 := by
        rcases pput_cases a0 a1 n h0.1 h0.2 hn.1 with h' | ⟨_, ⟨_, h'⟩ | ⟨_, h'⟩⟩
        · rw [h] at h'; simp at h'
        · rw [h] at h'; simp only [Option.some.injEq, Prod.mk.injEq, and_true] at h'; subst h'; simp
        · rw [h] at h'; simp only [Option.some.injEq, Prod.mk.injEq, and_true] at h'; subst h'
          have := varint_sevens.L_length 9 (n - varint_GetPrefix.M a1)
          simp only [List.length_cons]; omega
      have hl1 : 1 ≤ l.length := by
        cases l with
        | nil => exact absurd rfl hne
        | cons _ _ => simp
      have hsh := pput_short a0 a1 n l h0.1 h0.2 hn.1 h (l.length - 1) (by omega)
      have hw : wrap64 ((l.length : Int) - 1) = ((l.length - 1 : Nat) : Int) := by unfold wrap64; omega
      rw [h]
      simp only [Option.bind_some]
      rw [if_pos trivial, hw, if_pos (by omega), if_pos (by omega), Int.toNat_natCast, hsh]
      simp only [Option.bind_some]
      rw [if_pos (by omega), hg]
      simp

end Go.Proofs.Ytmkmefdajbdceaa.Pure
