/- mailcoachlaw01.VarintApart: no number's bytes, as varint.Put and varint.PutPrefix put them, begin another number's.
   Conditions: none. -/
import Derived.Test.YtmkmefdajbdceaaPVOx13
import Derived.Test.YtmkmefdajbdceaaMVOb
namespace Go.Proofs.Ytmkmefdajbdceaa.Pure
open Go.RowKit Go.Proofs.Ytmkmefdajbdceaa.PVO Go.Proofs.YtmkmefdajbdceaaW.PrintWords Go.Proofs.YtmkmefdajbdceaaW.PrintLast

/-- Bytes from which numbers are got, whatever stands behind them: those that begin others are of the same number. -/
theorem begin_same (a b : List Int) (n m : Int) (num : List Int → Int) (ha : Bytes a) (hb : Bytes b) (hna : ∀ more, Bytes more → num (a ++ more) = n) (hnb : ∀ more, Bytes more → num (b ++ more) = m) (hnm : n = m → a = b) :
    decide (a.take (min a.length b.length) = b.take (min a.length b.length)) = (n == m) := by
  by_cases h : n = m
  · obtain rfl := hnm h
    simp [h]
  · have hne : ¬ a.take (min a.length b.length) = b.take (min a.length b.length) := by
      intro he
      apply h
      by_cases hl : a.length ≤ b.length
      · rw [Nat.min_eq_left hl, List.take_of_length_le (Nat.le_refl _)] at he
        have e1 := hna (b.drop a.length) (fun x hx => hb x (List.mem_of_mem_drop hx))
        have e2 : a ++ b.drop a.length = b := by
          have := List.take_append_drop a.length b
          rw [← he] at this
          exact this
        rw [e2] at e1
        have e3 := hnb [] (fun x hx => by cases hx)
        rw [List.append_nil] at e3
        rw [← e1, e3]
      · rw [Nat.min_eq_right (by omega), List.take_of_length_le (Nat.le_refl _)] at he
        have e1 := hnb (a.drop b.length) (fun x hx => ha x (List.mem_of_mem_drop hx))
        have e2 : b ++ a.drop b.length = a := by
          have := List.take_append_drop b.length a
          rw [he] at this
          exact this
        rw [e2] at e1
        have e3 := hna [] (fun x hx => by cases hx)
        rw [List.append_nil] at e3
        rw [← e1, e3]
    simp [h, hne]
theorem put_num (n : Int) (a : List Int) (h0 : 0 ≤ n) (h : varint_Put.f n = some (a, 0)) : (∀ more, Bytes more → ((varint_Get.f (a ++ more)).getD (0, 0, 0)).1 = n) ∧ Bytes a ∧ a.length ≤ 8 := by
  by_cases h1 : n ≤ 4611686018427387903
  · obtain ⟨c, d, s, hp, hc, hcd, hs, hl, hlp, hk⟩ := put_form n h0 h1
    rw [hp] at h
    obtain rfl : c :: d = a := by simpa using h
    refine ⟨fun more _ => ?_, hcd, by simp; omega⟩
    rw [get_of c d more hc.1 hc.2 s hs hl]
    exact hlp
  · rw [put_great n (by omega)] at h
    simp at h
theorem pput_num (a0 a1 n : Int) (l : List Int) (h0 : 0 ≤ a0) (h1 : a0 < 256) (n0 : 0 ≤ n) (hp : varint_PutPrefix.f a0 a1 n = some (l, 0)) :
    (∀ more, Bytes more → ((varint_GetPrefix.f a1 (l ++ more)).getD (0, 0, 0, 0)).2.1 = n) ∧ Bytes l ∧ l.length ≤ 11 := by
  refine ⟨fun more hm => by rw [(pput_get a0 a1 n l h0 h1 n0 hp more hm).1]; rfl, (pput_get a0 a1 n l h0 h1 n0 hp [] (fun x hx => by cases hx)).2.1, ?_⟩
  rcases pput_cases a0 a1 n h0 h1 n0 with h | ⟨⟨b1, b8, bn, bm⟩, ⟨hl, h⟩ | ⟨hl, h⟩⟩
  · rw [hp] at h; simp at h
  · rw [hp] at h
    obtain rfl : l = [a0 + n] := by simpa using h
    simp
  · rw [hp] at h
    obtain rfl : l = (a0 + varint_GetPrefix.M a1) :: varint_sevens.L 9 (n - varint_GetPrefix.M a1) := by simpa using h
    have hM := (M_bd a1 b1 b8).1
    have := L_len 9 9 (n - varint_GetPrefix.M a1) (by omega) (by
      have : (2 : Int) ^ (7 * (9 + 1)) = 1180591620717411303424 := by decide
      omega)
    simp only [List.length_cons]
    omega
theorem VarintApart (n m first bits : Int) (w0 : (Lit.int .u64 n).wf = true) (w1 : (Lit.int .u64 m).wf = true) (w2 : (Lit.int .u8 first).wf = true) (_ : (Lit.int .i64 bits).wf = true) :
    ∃ k, mailcoachlaw01_VarintApart.f k n m first bits = some true := by
  have hn := wf_u64 w0
  have hm := wf_u64 w1
  have hf := wf_u8 w2
  obtain ⟨k, hk⟩ : ∃ k : Nat, 100 ≤ k := ⟨100, Nat.le_refl _⟩
  refine ⟨k, ?_⟩
  unfold mailcoachlaw01_VarintApart.f
  rw [alive_at k (by omega)]
  simp only [Option.bind_some, if_true]
  have hput : ∀ x : Int, 0 ≤ x → ∃ l e, varint_Put.f x = some (l, e) := by
    intro x hx
    by_cases h1 : x ≤ 4611686018427387903
    · obtain ⟨c, d, s, hp, _⟩ := put_form x hx h1
      exact ⟨_, _, hp⟩
    · exact ⟨_, _, put_great x (by omega)⟩
  have hpp : ∀ x : Int, 0 ≤ x → ∃ l e, varint_PutPrefix.f first bits x = some (l, e) := by
    intro x hx
    rcases pput_cases first bits x hf.1 hf.2 hx with h | ⟨_, ⟨_, h⟩ | ⟨_, h⟩⟩
    · exact ⟨_, _, h⟩
    · exact ⟨_, _, h⟩
    · exact ⟨_, _, h⟩
  obtain ⟨a, e, ha⟩ := hput n hn.1
  obtain ⟨b, f, hb⟩ := hput m hm.1
  obtain ⟨c, g, hc⟩ := hpp n hn.1
  obtain ⟨d, i, hd⟩ := hpp m hm.1
  rw [ha, hb]
  simp only [Option.bind_some]
  have hbad : (if e = 0 ∧ f = 0 then (mailcoachlaw01_SameBytes.f k (a.take (min a.length b.length)) (b.take (min a.length b.length))).map (fun s => s != (n == m)) else some false) = some false := by
    by_cases he : e = 0 ∧ f = 0
    · rw [if_pos he]
      obtain ⟨rfl, rfl⟩ := he
      obtain ⟨p1, p2, p3⟩ := put_num n a hn.1 ha
      obtain ⟨q1, q2, q3⟩ := put_num m b hm.1 hb
      have hlen : (a.take (min a.length b.length)).length ≤ 8 := by rw [List.length_take]; omega
      rw [same_f _ _ (by omega) k (by omega), begin_same a b n m (fun l => ((varint_Get.f l).getD (0, 0, 0)).1) p2 q2 p1 q1 (fun h => by subst h; rw [ha] at hb; simpa using hb)]
      simp
    · rw [if_neg he]
  rw [hbad]
  simp only [Option.bind_some]
  rw [if_neg (by decide), hc, hd]
  simp only [Option.bind_some]
  by_cases hg : g = 0 ∧ i = 0
  · rw [if_pos hg]
    obtain ⟨rfl, rfl⟩ := hg
    obtain ⟨p1, p2, p3⟩ := pput_num first bits n c hf.1 hf.2 hn.1 hc
    obtain ⟨q1, q2, q3⟩ := pput_num first bits m d hf.1 hf.2 hm.1 hd
    have hlen : (c.take (min c.length d.length)).length ≤ 11 := by rw [List.length_take]; omega
    rw [same_f _ _ (by omega) k (by omega), begin_same c d n m (fun l => ((varint_GetPrefix.f bits l).getD (0, 0, 0, 0)).2.1) p2 q2 p1 q1 (fun h => by subst h; rw [hc] at hd; simpa using hd)]
    simp
  · rw [if_neg hg]
end Go.Proofs.Ytmkmefdajbdceaa.Pure
