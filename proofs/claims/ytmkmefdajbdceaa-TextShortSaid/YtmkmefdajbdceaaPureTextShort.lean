/- mailcoachlaw11.TextShort: of fewer bytes than a text that text.Put put has, however they are cut off, text.Get gets none: ErrShort.
   Conditions: none. -/
import Derived.Test.YtmkmefdajbdceaaPTXx23
import Derived.Test.YtmkmefdajbdceaaMTc
namespace Go.Proofs.Ytmkmefdajbdceaa.Pure
open Go.RowKit Go.Proofs.Ytmkmefdajbdceaa.PTX Go.Proofs.YtmkmefdajbdceaaW.PrintWords Go.Proofs.YtmkmefdajbdceaaW.PrintLast

theorem short_in (c n : Int) (c0 : 0 ≤ c) (_ : c < 4294967296) (n0 : 0 < n) (n1 : n ≤ 100000) : ∃ j : Nat, wrap64 (Int.tmod c (n % 4294967296)) = (j : Int) ∧ (j : Int) < n ∧ ¬ n % 4294967296 = 0 := by
  have e : n % 4294967296 = n := Int.emod_eq_of_lt (by omega) (by omega)
  rw [e, Int.tmod_eq_emod_of_nonneg c0]
  have h0 : 0 ≤ c % n := Int.emod_nonneg _ (by omega)
  have h1 : c % n < n := Int.emod_lt_of_pos _ n0
  refine ⟨(c % n).toNat, ?_, by omega, by omega⟩
  unfold wrap64
  omega
theorem head_TextShort (x a : Int) (s : ByteArray) (c : Int) (k : Nat) (hk : 50 ≤ k) (out : List Int) (e : Int) (hp : text_Put.f x a s = some (out, e)) : mailcoachlaw11_TextShort.f k x a s c = mailcoachlaw11_TextShort.j0 k c out (e != 0) x a := by
  have ha := alive11_at k (by omega)
  unfold mailcoachlaw11_TextShort.f
  rw [hp]
  simp only [Option.bind_some]
  rw [ha]
  simp only [Option.bind_some, if_true]
theorem TextShort (x a : Int) (s : ByteArray) (c : Int) (hx : (Lit.int .u8 x).wf = true) (_ : (Lit.int .i64 a).wf = true) (hs : s.size ≤ 140737488351232) (hc : (Lit.int .u32 c).wf = true) : ∃ k, mailcoachlaw11_TextShort.f k x a s c = some true := by
  obtain ⟨x0, x1⟩ := wf_u8 hx
  have hc2 : 0 ≤ c ∧ c < 4294967296 := by
    simp [Lit.wf, IntKind.min, IntKind.max, IntKind.signed, IntKind.bits] at hc
    omega
  obtain ⟨k, hk⟩ : ∃ k, 50 ≤ k := ⟨_, Nat.le_refl _⟩
  refine ⟨k + 1, ?_⟩
  have bad : ∀ e, e ≠ 0 → text_Put.f x a s = some ([], e) → mailcoachlaw11_TextShort.f (k + 1) x a s c = some true := by
    intro e he h
    rw [head_TextShort x a s c (k + 1) (by omega) [] e h]
    simp only [mailcoachlaw11_TextShort.j0]
    rw [if_pos (bne_iff_ne.2 he), alive11_at k (by omega)]
    rfl
  rcases text_put_cases x a s x0 x1 with h | ⟨h, _⟩ | ⟨out, pf, b, first, h, ht⟩
  · exact bad 1 (by decide) h
  · exact bad 3 (by decide) h
  · rw [head_TextShort x a s c (k + 1) (by omega) out 0 h]
    simp only [mailcoachlaw11_TextShort.j0]
    rw [if_neg (by decide)]
    have hne : 0 < out.length := by
      rw [ht.out, List.length_append]
      have := (pput_get first (a - 1) b.length pf ht.f0 ht.f1 (by omega) ht.put [] (fun y hy => by cases hy)).2.2
      have := List.length_pos_iff.2 this
      omega
    have hol : out.length ≤ 70000 := by rw [ht.out, List.length_append]; have := ht.len; have := ht.pflen; have := ht.size; omega
    obtain ⟨j, hj1, hj2, hj3⟩ := short_in c (out.length : Int) hc2.1 hc2.2 (by omega) (by omega)
    rw [if_neg hj3, hj1, if_pos (by clear hj1; omega), if_pos (by clear hj1; omega), Int.toNat_natCast, text_get_short ht j (by clear hj1; omega)]
    simp only [Option.bind_some]
    rw [if_pos trivial, if_pos (by decide +kernel)]
    rfl
end Go.Proofs.Ytmkmefdajbdceaa.Pure
