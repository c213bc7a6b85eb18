/- mailcoachlaw11.TextPuts: text.Put of any text (2^20 bytes at most) behind the bits of a byte is mailcoachref11.Put's answer. -/
import Derived.Test.YtmkmefdajbdceaaGreatDoorPTQx5
import Derived.Test.YtmkmefdajbdceaaGreatDoorPTQx3
import Derived.Test.YtmkmefdajbdceaaGreatDoorPTQx2
import Derived.Test.YtmkmefdajbdceaaGreatDoorPTQx2
import Derived.Test.YtmkmefdajbdceaaGreatDoorPTQx8
import Derived.Test.YtmkmefdajbdceaaGreatDoorPTQx7
import Derived.Test.YtmkmefdajbdceaaGreatDoorPTQx2
import Derived.Test.YtmkmefdajbdceaaGreatDoorPTQx8
namespace Go.Proofs.YtmkmefdajbdceaaGreatDoor.Pure
open Go.RowKit Go.Proofs.YtmkmefdajbdceaaGreatDoor.PTQ Go.Proofs.YtmkmefdajbdceaaGreatDoorW.PrintWords Go.Proofs.YtmkmefdajbdceaaGreatDoorW.PrintLast Go.Proofs.YtmkmefdajbdceaaGreatDoorW.PrintMore
set_option linter.unusedVariables false
set_option linter.unusedSimpArgs false

def Bytes (l : List Int) : Prop := ∀ x ∈ l, 0 ≤ x ∧ x < 256
theorem huff_bits8_append (a b : List Int) : huff_bits8 (a ++ b) = huff_bits8 a ++ huff_bits8 b := by unfold huff_bits8; rw [List.flatMap_append]
theorem huff_bits8_cons (c : Int) (r : List Int) : huff_bits8 (c :: r) = huff_low c 8 ++ huff_bits8 r := by unfold huff_bits8; rw [List.flatMap_cons]
theorem huff_bits8_size : ∀ l, (huff_bits8 l).length = 8 * l.length
  | [] => rfl
  | c :: r => by rw [huff_bits8_cons, List.length_append, huff_low_length, huff_bits8_size r, List.length_cons]; omega
theorem huff_bits8_01 (l : List Int) : ∀ b ∈ huff_bits8 l, b = 0 ∨ b = 1 := by
  intro b h
  obtain ⟨c, _, hc⟩ := List.mem_flatMap.1 h
  exact huff_low_01 c 8 b hc
theorem huff_clear : ∀ v : Nat, v < 256 → ∀ m : Nat, m < 8 → huff_low (bits .andNot .u8 (v : Int) (128 / 2 ^ m)) 8 = (huff_low v 8).set m 0 ∧ 0 ≤ bits .andNot .u8 (v : Int) (128 / 2 ^ m) ∧ bits .andNot .u8 (v : Int) (128 / 2 ^ m) < 256 := by
  have h : (List.range 256).all (fun v => (List.range 8).all fun m => (huff_low (bits .andNot .u8 (v : Int) (128 / 2 ^ m)) 8 == (huff_low v 8).set m 0) && decide (0 ≤ bits .andNot .u8 (v : Int) (128 / 2 ^ m)) && decide (bits .andNot .u8 (v : Int) (128 / 2 ^ m) < 256)) = true := by decide +kernel
  intro v hv m hm
  have := List.all_eq_true.1 (List.all_eq_true.1 h v (List.mem_range.2 hv)) m (List.mem_range.2 hm)
  simp only [Bool.and_eq_true, decide_eq_true_eq, beq_iff_eq] at this
  exact ⟨this.1.1, this.1.2, this.2⟩
theorem huff_bits8_set : ∀ (R : List Int) (q m : Nat) (v : Int), q < R.length → m < 8 → huff_low v 8 = (huff_low (rd R (q : Nat)) 8).set m 0 → huff_bits8 (R.set q v) = (huff_bits8 R).set (8 * q + m) 0
  | [], q, m, v, h, _, _ => by simp at h
  | c :: r, 0, m, v, h, hm, hv => by
    rw [List.set_cons_zero, huff_bits8_cons, huff_bits8_cons, hv, List.set_append_left _ _ (by rw [huff_low_length]; omega)]
    simp [rd]
  | c :: r, q + 1, m, v, h, hm, hv => by
    have ih := huff_bits8_set r q m v (by simpa using h) hm (by rw [hv]; simp [rd])
    rw [List.set_cons_succ, huff_bits8_cons, huff_bits8_cons, ih, List.set_append_right _ _ (by rw [huff_low_length]; omega), huff_low_length]
    congr 2
    omega
theorem huff_set_at : ∀ (pre : List Int) (k : Nat), (pre ++ List.replicate (k + 1) (1 : Int)).set pre.length 0 = (pre ++ [0]) ++ List.replicate k 1
  | [], k => by simp [List.replicate_succ]
  | c :: r, k => by
    have := huff_set_at r k
    simp only [List.cons_append, List.length_cons, List.set_cons_succ]
    rw [this]
theorem huff_pack_bits : ∀ (bs : List Int), (∀ b ∈ bs, b = 0 ∨ b = 1) → ∀ (i : Nat) (out pre : List Int), pre.length = i → out.length = (i + 7) / 8 → Bytes out → huff_bits8 out = pre ++ List.replicate (8 * out.length - i) 1 →
    huff_bits8 (huff_pack bs i out) = (pre ++ bs) ++ List.replicate (8 * (huff_pack bs i out).length - (i + bs.length)) 1 ∧ Bytes (huff_pack bs i out)
  | [], _, i, out, pre, hp, ho, hb, h => by
    rw [huff_pack, List.append_nil]
    exact ⟨h, hb⟩
  | b :: bs, hB, i, out, pre, hp, ho, hb, h => by
    have hRl := huff_room_length i out ho
    have hR : Bytes (huff_room i out) ∧ huff_bits8 (huff_room i out) = pre ++ List.replicate (8 * (huff_room i out).length - i) 1 := by
      by_cases h8 : i % 8 = 0
      · have e : huff_room i out = out ++ [255] := by rw [huff_room, if_pos h8]
        rw [e]
        refine ⟨fun x hx => ?_, ?_⟩
        · rcases List.mem_append.1 hx with hx | hx
          · exact hb x hx
          · simp at hx; omega
        · have e8 : huff_bits8 [255] = List.replicate 8 1 := by decide
          rw [huff_bits8_append, h, e8, List.append_assoc, List.replicate_append_replicate, List.length_append]
          congr 2
          simp only [List.length_cons, List.length_nil]
          omega
      · have e : huff_room i out = out := by rw [huff_room, if_neg h8]
        rw [e]
        exact ⟨hb, h⟩
    obtain ⟨hR1, hR2⟩ := hR
    obtain ⟨k, hk⟩ : ∃ k, 8 * (huff_room i out).length - i = k + 1 := ⟨8 * (huff_room i out).length - i - 1, by omega⟩
    have hput : Bytes (huff_put1 b i out) ∧ (huff_put1 b i out).length = (huff_room i out).length ∧ huff_bits8 (huff_put1 b i out) = (pre ++ [b]) ++ List.replicate k 1 := by
      rcases hB b List.mem_cons_self with rfl | rfl
      · rw [huff_put1, if_neg (by decide)]
        have hq : i / 8 < (huff_room i out).length := by omega
        have hv : 0 ≤ rd (huff_room i out) (i / 8 : Nat) ∧ rd (huff_room i out) (i / 8 : Nat) < 256 := by
          apply hR1
          unfold rd
          rw [Int.toNat_natCast, List.getD_eq_getElem?_getD, List.getElem?_eq_getElem hq]
          exact List.getElem_mem _
        obtain ⟨v, hv2⟩ := Int.eq_ofNat_of_zero_le hv.1
        have hcl := huff_clear v (by omega) (i % 8) (by omega)
        rw [← hv2] at hcl
        refine ⟨fun x hx => ?_, by rw [List.length_set], ?_⟩
        · rcases List.mem_or_eq_of_mem_set hx with hx | rfl
          · exact hR1 x hx
          · exact ⟨hcl.2.1, hcl.2.2⟩
        · rw [huff_bits8_set _ (i / 8) (i % 8) _ hq (by omega) hcl.1, hR2, hk, show 8 * (i / 8) + i % 8 = i by omega, ← hp]
          exact huff_set_at pre k
      · rw [huff_put1, if_pos rfl, hR2, hk]
        exact ⟨hR1, rfl, by simp [List.replicate_succ]⟩
    obtain ⟨p1, p2, p3⟩ := hput
    have hp1 : (pre ++ [b]).length = i + 1 := by simp [hp]
    obtain ⟨r1, r2⟩ := huff_pack_bits bs (fun y hy => hB y (List.mem_cons_of_mem _ hy)) (i + 1) (huff_put1 b i out) (pre ++ [b]) hp1 (by rw [p2, hRl]) p1 (by rw [p3, p2]; congr 2; omega)
    rw [huff_pack]
    refine ⟨?_, r2⟩
    rw [r1, show (pre ++ [b]) ++ bs = pre ++ b :: bs by simp, List.length_cons]
    congr 2
    omega
/-- The bytes of bits: these, and ones in what is left of the last byte. -/
theorem huff_pack_all (bs : List Int) (hB : ∀ b ∈ bs, b = 0 ∨ b = 1) : huff_bits8 (huff_pack bs 0 []) = bs ++ List.replicate (8 * ((bs.length + 7) / 8) - bs.length) 1 ∧ Bytes (huff_pack bs 0 []) ∧ (huff_pack bs 0 []).length = (bs.length + 7) / 8 := by
  have hl := huff_pack_length bs 0 [] rfl
  rw [Nat.zero_add] at hl
  obtain ⟨h1, h2⟩ := huff_pack_bits bs hB 0 [] [] rfl rfl (fun x hx => by cases hx) rfl
  rw [hl, Nat.zero_add, List.nil_append] at h1
  exact ⟨h1, h2, hl⟩
def huff_bit (l : List Int) (i : Nat) : Int := rd l (i / 8 : Nat) % 4294967296 / 2 ^ (7 - i % 8) % 2
theorem huff_bits8_at : ∀ (l : List Int) (i : Nat), i < 8 * l.length → (huff_bits8 l)[i]? = some (huff_bit l i)
  | [], i, h => by simp at h
  | c :: r, i, h => by
    rw [huff_bits8, List.flatMap_cons]
    by_cases h8 : i < 8
    · rw [List.getElem?_append_left (by simp [huff_low]; exact h8)]
      rcases (show i = 0 ∨ i = 1 ∨ i = 2 ∨ i = 3 ∨ i = 4 ∨ i = 5 ∨ i = 6 ∨ i = 7 by omega) with rfl | rfl | rfl | rfl | rfl | rfl | rfl | rfl <;> rfl
    · rw [List.getElem?_append_right (by simp [huff_low]; omega)]
      have ih := huff_bits8_at r (i - 8) (by simp at h; omega)
      rw [huff_bits8] at ih
      have e : (huff_low c 8).length = 8 := rfl
      rw [e, ih]
      unfold huff_bit
      rw [show i % 8 = (i - 8) % 8 by omega]
      have e2 : rd (c :: r) (i / 8 : Nat) = rd r ((i - 8) / 8 : Nat) := by
        rw [show i / 8 = (i - 8) / 8 + 1 by omega]
        unfold rd
        rw [Int.toNat_natCast, Int.toNat_natCast]
        rfl
      rw [e2]
theorem huff_bits8_drop (l : List Int) (i : Nat) (h : i < 8 * l.length) : (huff_bits8 l).drop i = huff_bit l i :: (huff_bits8 l).drop (i + 1) := by
  rw [List.drop_eq_getElem_cons (by rw [huff_bits8_size]; exact h)]
  have := huff_bits8_at l i h
  rw [List.getElem?_eq_getElem (by rw [huff_bits8_size]; exact h)] at this
  rw [Option.some.inj this]
theorem huff_bit_bd2 (l : List Int) (i : Nat) : huff_bit l i = 0 ∨ huff_bit l i = 1 := by unfold huff_bit; omega
theorem same_l0 (x0 x1 : List Int) (hl : x0.length = x1.length) (hn : x0.length ≤ 9223372036854775806) (d : Nat) : ∀ (k i : Nat), i + d = x0.length → d < k → x0.take i = x1.take i →
    mailcoachlaw01_SameBytes.l0 k x0 x1 i = some (decide (x0 = x1)) := by
  induction d with
  | zero =>
    intro k i hi hk he
    obtain ⟨k, rfl⟩ : ∃ m, k = m + 1 := ⟨k - 1, by omega⟩
    have h1 : x0.take i = x0 := List.take_of_length_le (by omega)
    have h2 : x1.take i = x1 := List.take_of_length_le (by omega)
    rw [h1, h2] at he
    simp only [mailcoachlaw01_SameBytes.l0]
    rw [if_neg (by omega)]
    simp [he]
  | succ d ih =>
    intro k i hi hk he
    obtain ⟨k, rfl⟩ : ∃ m, k = m + 1 := ⟨k - 1, by omega⟩
    have c1 : (i : Int) < x0.length := by omega
    have c2 : (0 : Int) ≤ i := by omega
    have c3 : (i : Int) < x1.length := by omega
    have q0 : rd x0 i = x0[i]'(by omega) := by simp [rd, List.getD_eq_getElem?_getD, List.getElem?_eq_getElem (show i < x0.length by omega)]
    have q1 : rd x1 i = x1[i]'(by omega) := by simp [rd, List.getD_eq_getElem?_getD, List.getElem?_eq_getElem (show i < x1.length by omega)]
    have e2 : wrap64 ((i : Int) + 1) = ((i + 1 : Nat) : Int) := by unfold wrap64; omega
    simp only [mailcoachlaw01_SameBytes.l0]
    rw [if_pos c1, if_pos c2, if_pos c3]
    by_cases hq : rd x0 i = rd x1 i
    · rw [if_pos hq, e2]
      refine ih k (i + 1) (by clear e2; omega) (by clear e2; omega) ?_
      rw [List.take_succ_eq_append_getElem (by clear e2; omega), List.take_succ_eq_append_getElem (by clear e2; omega), he, ← q0, ← q1, hq]
    · rw [if_neg hq]
      have hne : x0 ≠ x1 := fun h => hq (by rw [h])
      simp [hne]
theorem same_f (a b : List Int) (ha : a.length ≤ 9223372036854775806) (k : Nat) (hk : a.length < k) : mailcoachlaw01_SameBytes.f k a b = some (decide (a = b)) := by
  unfold mailcoachlaw01_SameBytes.f
  by_cases hl : (a.length : Int) = (b.length : Int)
  · rw [if_pos hl]
    exact same_l0 a b (by omega) ha a.length k 0 (by omega) hk (by simp)
  · rw [if_neg hl]
    have hne : a ≠ b := fun h => hl (by rw [h])
    simp [hne]
/-! ### the words as the document reckons them -/
def rc_inner (n : Int) : List Int → Nat → Int → List Int → Int × List Int
  | [], _, nx, out => (nx, out)
  | l :: r, w, nx, out => if l = n then rc_inner n r (w + 1) ((nx + 1) % 4294967296) (out.set w nx) else rc_inner n r (w + 1) nx out
theorem rc_inner_length (n : Int) : ∀ (ls : List Int) (w : Nat) (nx : Int) (out : List Int), (rc_inner n ls w nx out).2.length = out.length
  | [], _, _, _ => rfl
  | l :: r, w, nx, out => by
    rw [rc_inner]
    by_cases h : l = n
    · rw [if_pos h, rc_inner_length n r, List.length_set]
    · rw [if_neg h, rc_inner_length n r]
def rc_outer (L : List Int) : Nat → Int → Int → List Int → List Int
  | 0, _, _, out => out
  | d + 1, n, nx, out => rc_outer L d (n + 1) (rc_inner n L 0 (2 * nx % 4294967296) out).1 (rc_inner n L 0 (2 * nx % 4294967296) out).2
theorem code_l1 (L : List Int) (hL : L.length = 257) (n : Int) : ∀ (ls : List Int) (w k : Nat) (nx : Int) (out : List Int), L.drop w = ls → out.length = 257 → w ≤ 257 →
    mailcoachref10_Code.l1 (ls.length + 1 + k) L out nx n w = mailcoachref10_Code.l0 k L (rc_inner n ls w nx out).2 (rc_inner n ls w nx out).1 (wrap64 (n + 1))
  | [], w, k, nx, out, hd, ho, hw => by
    have hl : L.length ≤ w := by
      have := congrArg List.length hd
      simp at this
      omega
    rw [show ([] : List Int).length + 1 + k = k + 1 by simp; omega, mailcoachref10_Code.l1, if_neg (by omega), rc_inner]
  | l :: r, w, k, nx, out, hd, ho, hw => by
    have hw2 : w < L.length := by
      rcases Nat.lt_or_ge w L.length with h | h
      · exact h
      · rw [List.drop_eq_nil_of_le h] at hd; cases hd
    have hd2 : L[w] = l ∧ L.drop (w + 1) = r := by
      rw [List.drop_eq_getElem_cons hw2] at hd
      injection hd with a b
      exact ⟨a, b⟩
    have hr : rd L (w : Int) = l := by simp [rd, List.getD_eq_getElem?_getD, List.getElem?_eq_getElem hw2, hd2.1]
    have e1 : wrap64 ((w : Int) + 1) = ((w + 1 : Nat) : Int) := by unfold wrap64; omega
    have c1 : (w : Int) < 257 := by omega
    have c2 : (0 : Int) ≤ w := by omega
    have c3 : (w : Int) < L.length := by omega
    have c4 : (w : Int) < out.length := by omega
    rw [show (l :: r).length + 1 + k = (r.length + 1 + k) + 1 by simp; omega, mailcoachref10_Code.l1, if_pos c1, if_pos c2, if_pos c3, hr, rc_inner, e1, Int.toNat_natCast]
    by_cases h : l = n
    · rw [if_pos h, if_pos c4, if_pos h]
      exact code_l1 L hL n r (w + 1) k _ _ hd2.2 (by rw [List.length_set]; exact ho) (by clear e1; omega)
    · rw [if_neg h, if_neg h]
      exact code_l1 L hL n r (w + 1) k _ _ hd2.2 ho (by clear e1; omega)
theorem code_l0 (L : List Int) (hL : L.length = 257) : ∀ (d k : Nat) (n nx : Int) (out : List Int), n + d = 31 → 0 ≤ n → out.length = 257 →
    mailcoachref10_Code.l0 (d * 259 + 1 + k) L out nx n = some (rc_outer L d n nx out)
  | 0, k, n, nx, out, hn, h0, ho => by
    rw [show 0 * 259 + 1 + k = k + 1 by omega, mailcoachref10_Code.l0, if_neg (by omega), rc_outer]
  | d + 1, k, n, nx, out, hn, h0, ho => by
    have e1 : wrap64 (n + 1) = n + 1 := by unfold wrap64; omega
    rw [show (d + 1) * 259 + 1 + k = (L.length + 1 + (d * 259 + 1 + k)) + 1 by omega, mailcoachref10_Code.l0, if_pos (by clear e1; omega)]
    have h := code_l1 L hL n L 0 (d * 259 + 1 + k) (2 * nx % 4294967296) out rfl ho (by omega)
    have h' : mailcoachref10_Code.l1 (L.length + 1 + (d * 259 + 1 + k)) L out (2 * nx % 4294967296) n 0 = _ := h
    rw [h', e1, rc_outer]
    exact code_l0 L hL d k (n + 1) _ _ (by clear e1; omega) (by clear e1; omega) (by rw [rc_inner_length]; exact ho)
def code_words : List Int := huff_words.map (·.1)
theorem code_outer : rc_outer huff_lens 30 1 0 (List.replicate 257 0) = code_words := by decide +kernel
theorem code_at (k : Nat) : mailcoachref10_Code.f (30 * 259 + 1 + k) = some code_words := by
  unfold mailcoachref10_Code.f mailcoachref10_Lengths.f
  simp only [Option.bind_some]
  rw [if_pos (by omega), code_l0 huff_lens huff_lens_length 30 k 1 0 _ (by omega) (by omega) (by rw [List.length_replicate]), code_outer]
theorem code_rd : ∀ c : Nat, c < 257 → rd code_words (c : Int) = (huff_w c).1 ∧ rd huff_lens (c : Int) = (huff_w c).2 ∧ 5 ≤ (huff_w c).2 ∧ (huff_w c).2 ≤ 30 ∧ 0 ≤ (huff_w c).1 ∧ (huff_w c).1 < 4294967296 := by
  have h : (List.range 257).all (fun c => decide (rd code_words ((c : Nat) : Int) = (huff_w ((c : Nat) : Int)).1 ∧ rd huff_lens ((c : Nat) : Int) = (huff_w ((c : Nat) : Int)).2 ∧ 5 ≤ (huff_w ((c : Nat) : Int)).2 ∧ (huff_w ((c : Nat) : Int)).2 ≤ 30 ∧ 0 ≤ (huff_w ((c : Nat) : Int)).1 ∧ (huff_w ((c : Nat) : Int)).1 < 4294967296)) = true := by decide +kernel
  intro c hc
  exact of_decide_eq_true (List.all_eq_true.1 h c (List.mem_range.2 hc))
theorem code_length : code_words.length = 257 := by decide +kernel
/-! ### a bit more -/
structure St (out pre : List Int) : Prop where
  len : out.length = (pre.length + 7) / 8
  bytes : Bytes out
  bits : huff_bits8 out = pre ++ List.replicate (8 * out.length - pre.length) 1
theorem St.nil : St [] [] := ⟨rfl, (fun x hx => by cases hx), rfl⟩
theorem St.pack {out pre : List Int} (h : St out pre) (bs : List Int) (hB : ∀ b ∈ bs, b = 0 ∨ b = 1) : St (huff_pack bs pre.length out) (pre ++ bs) := by
  have hl := huff_pack_length bs pre.length out h.len
  obtain ⟨h1, h2⟩ := huff_pack_bits bs hB pre.length out pre rfl h.len h.bytes h.bits
  refine ⟨by rw [hl, List.length_append], h2, ?_⟩
  rw [h1, List.length_append]
theorem St.room {out pre : List Int} (h : St out pre) : pre.length / 8 < (huff_room pre.length out).length ∧ huff_bit (huff_room pre.length out) pre.length = 1 ∧ 0 ≤ rd (huff_room pre.length out) (pre.length / 8 : Nat) ∧ rd (huff_room pre.length out) (pre.length / 8 : Nat) < 256 := by
  have h1 := h.pack [1] (by simp)
  have e : huff_pack [1] pre.length out = huff_room pre.length out := by simp [huff_pack, huff_put1]
  rw [e] at h1
  have hl := h1.len
  rw [List.length_append] at hl
  simp only [List.length_cons, List.length_nil] at hl
  have hq : pre.length / 8 < (huff_room pre.length out).length := by omega
  refine ⟨hq, ?_, ?_⟩
  · have hb := huff_bits8_at (huff_room pre.length out) pre.length (by omega)
    rw [h1.bits, List.append_assoc, List.getElem?_append_right (Nat.le_refl _), Nat.sub_self] at hb
    simp at hb
    exact hb.symm
  · apply h1.bytes
    unfold rd
    rw [Int.toNat_natCast, List.getD_eq_getElem?_getD, List.getElem?_eq_getElem hq]
    exact List.getElem_mem _
theorem minus_bit : ∀ v : Nat, v < 256 → ∀ m : Nat, m < 8 → (v : Int) % 4294967296 / 2 ^ (7 - m) % 2 = 1 → ((v : Int) - shl .u8 1 ((7 - m : Nat) : Int)) % 256 = bits .andNot .u8 (v : Int) (128 / 2 ^ m) := by
  have h : (List.range 256).all (fun v => (List.range 8).all fun m => decide (((v : Nat) : Int) % 4294967296 / 2 ^ (7 - m) % 2 = 1 → (((v : Nat) : Int) - shl .u8 1 ((7 - m : Nat) : Int)) % 256 = bits .andNot .u8 ((v : Nat) : Int) (128 / 2 ^ m))) = true := by decide +kernel
  intro v hv m hm
  exact of_decide_eq_true (List.all_eq_true.1 (List.all_eq_true.1 h v (List.mem_range.2 hv)) m (List.mem_range.2 hm))
theorem bit_of (c : Int) (j : Nat) (hj : j ≤ 30) (h0 : 0 ≤ c) (h1 : c < 4294967296) : Go.bits .and .u32 (shr .u32 c (j : Int)) 1 = c % 4294967296 / 2 ^ j % 2 := by
  have e3 : shr .u32 c (j : Int) = c / 2 ^ j := by
    unfold shr
    rw [Int.toNat_natCast, Nat.min_eq_left (by show j ≤ 32; omega)]
  have hp : (0 : Int) < 2 ^ j := Int.pow_pos (by decide)
  have hq0 : 0 ≤ c / 2 ^ j := Int.ediv_nonneg h0 (by omega)
  have hq1 : c / 2 ^ j ≤ c := Int.ediv_le_self _ h0
  rw [e3, Int.emod_eq_of_lt h0 h1]
  exact bits_mask .u32 32 (by decide) (fun n h₀ h₁ => by rw [IntKind.wrap_u32]; omega) 1 (by decide) _ hq0 (by omega)
theorem pack_append : ∀ (a b : List Int) (i : Nat) (out : List Int), huff_pack (a ++ b) i out = huff_pack b (i + a.length) (huff_pack a i out)
  | [], b, i, out => rfl
  | x :: a, b, i, out => by
    simp only [List.cons_append, huff_pack, List.length_cons]
    rw [pack_append a b (i + 1)]
    congr 1
    omega
theorem ar_div (p : Nat) : Int.tdiv (p : Int) 8 = ((p / 8 : Nat) : Int) := by rw [Int.tdiv_eq_ediv_of_nonneg (by omega)]; omega
theorem ar_mod (p : Nat) : Int.tmod (p : Int) 8 = ((p % 8 : Nat) : Int) := by rw [Int.tmod_eq_emod_of_nonneg (by omega)]; omega
theorem ar_nat (p : Nat) (h : p ≤ 4611686018427387903) : wrap64 (p : Int) = (p : Int) := by unfold wrap64; omega
theorem ar_seven (p : Nat) : wrap64 (7 - ((p % 8 : Nat) : Int)) = ((7 - p % 8 : Nat) : Int) := by unfold wrap64; omega
theorem ar_less (j : Nat) (h : j ≤ 4611686018427387903) : wrap64 ((j : Int) - 1) = (j : Int) - 1 := by unfold wrap64; omega
theorem ar_more (j : Nat) (h : j ≤ 4611686018427387903) : wrap64 ((j : Int) + 1) = ((j + 1 : Nat) : Int) := by unfold wrap64; omega
theorem put_l1 (s : ByteArray) (c : Nat) (hc : c < 257) (i : Int) : ∀ (j k : Nat) (out pre : List Int), j ≤ 30 → St out pre → pre.length + j ≤ 100000000 →
    mailcoachref10_Put.l1 (j + 1 + k) s huff_lens code_words out (pre.length : Nat) i c ((j : Int) - 1) = mailcoachref10_Put.l0 k s huff_lens code_words (huff_pack (huff_low (huff_w c).1 j) pre.length out) ((pre.length + j : Nat) : Int) (wrap64 (i + 1))
  | 0, k, out, pre, hj, hs, hp => by
    rw [show 0 + 1 + k = k + 1 by omega, mailcoachref10_Put.l1, if_neg (by omega), huff_low, huff_pack]
    rfl
  | j + 1, k, out, pre, hj, hs, hp => by
    obtain ⟨r1, r2, r3, r4, r5, r6⟩ := code_rd c hc
    obtain ⟨s1, s2, s3, s4⟩ := hs.room
    have hlen := hs.len
    have n1 : j ≤ 4611686018427387903 := by omega
    have n2 : pre.length ≤ 4611686018427387903 := by omega
    have n3 : pre.length / 8 ≤ 4611686018427387903 := by omega
    have hall : out.length < 140737488355328 := by omega
    have c0 : ((j : Int)) ≥ 0 := by omega
    have c1 : (0 : Int) ≤ (c : Int) := by omega
    have c2 : (c : Int) < code_words.length := by rw [code_length]; omega
    have c3 : (0 : Int) ≤ ((pre.length / 8 : Nat) : Int) := by omega
    have c4 : ((pre.length / 8 : Nat) : Int) < (huff_room pre.length out).length := by omega
    have c5 : (0 : Int) ≤ ((7 - pre.length % 8 : Nat) : Int) := by omega
    have hq : pre.length + 1 + j = pre.length + (j + 1) := by omega
    have ej : ((j + 1 : Nat) : Int) - 1 = (j : Int) := by omega
    have hbit := bit_of (huff_w c).1 j (by omega) r5 r6
    have hpk : huff_pack (huff_low (huff_w c).1 (j + 1)) pre.length out = huff_pack (huff_low (huff_w c).1 j) (pre.length + 1) (huff_put1 ((huff_w c).1 % 4294967296 / 2 ^ j % 2) pre.length out) := by
      rw [huff_low, huff_pack]
    obtain ⟨b, hb⟩ : ∃ b, (huff_w c).1 % 4294967296 / 2 ^ j % 2 = b := ⟨_, rfl⟩
    have hb01 : b = 0 ∨ b = 1 := by omega
    rw [hb] at hbit hpk
    have hst : St (huff_put1 b pre.length out) (pre ++ [b]) := by
      have := hs.pack [b] (by simpa using hb01)
      simpa [huff_pack] using this
    have ih := put_l1 s c hc i j k (huff_put1 b pre.length out) (pre ++ [b]) (by omega) hst (by rw [List.length_append]; simp only [List.length_cons, List.length_nil]; omega)
    rw [List.length_append] at ih
    simp only [List.length_cons, List.length_nil, Nat.zero_add] at ih
    have hminus : (rd (huff_room pre.length out) ((pre.length / 8 : Nat) : Int) - shl .u8 1 ((7 - pre.length % 8 : Nat) : Int)) % 256 = bits .andNot .u8 (rd (huff_room pre.length out) (pre.length / 8 : Nat)) (128 / 2 ^ (pre.length % 8)) := by
      obtain ⟨v, hv⟩ := Int.eq_ofNat_of_zero_le s3
      unfold huff_bit at s2
      rw [hv] at s2 s4 ⊢
      exact minus_bit v (by omega) (pre.length % 8) (by omega) s2
    have w1 := ar_less j n1
    have w2 := ar_more pre.length n2
    have t1 := ar_div pre.length
    have t2 := ar_mod pre.length
    have w3 := ar_nat (pre.length / 8) n3
    have w4 := ar_seven pre.length
    rw [hpk, ← hq, ← ih, show j + 1 + 1 + k = (j + 1 + k) + 1 by omega, mailcoachref10_Put.l1, ej, if_pos c0, t2, t1, w3, w4, w2, w1, r1, hbit]
    by_cases h8 : pre.length % 8 = 0
    · have er : huff_room pre.length out = out ++ [255] := by rw [huff_room, if_pos h8]
      rw [if_pos (show ((pre.length % 8 : Nat) : Int) = 0 by rw [h8]; rfl), if_pos hall]
      simp only [Option.bind_some]
      rw [if_pos c1, if_pos c2, if_pos c0, ← er]
      rcases hb01 with rfl | rfl
      · rw [if_pos rfl, if_pos c3, if_pos c4, if_pos c5, hminus, huff_put1, if_neg (by decide), Int.toNat_natCast]
      · rw [if_neg (by decide), huff_put1, if_pos rfl]
    · have er : huff_room pre.length out = out := by rw [huff_room, if_neg h8]
      rw [if_neg (show ¬ ((pre.length % 8 : Nat) : Int) = 0 from fun e => h8 (by exact_mod_cast e)), if_pos c1, if_pos c2, if_pos c0]
      rw [er] at hminus c4
      rcases hb01 with rfl | rfl
      · rw [if_pos rfl, if_pos c3, if_pos c4, if_pos c5, hminus, huff_put1, if_neg (by decide), Int.toNat_natCast, er]
      · rw [if_neg (by decide), huff_put1, if_pos rfl, er]
theorem enc_cons (c : Int) (r : List Int) : huff_enc (c :: r) = huff_low (huff_w c).1 (huff_w c).2.toNat ++ huff_enc r := rfl
theorem bt_nat (s : ByteArray) (i : Nat) (h : i < s.size) : bt s (i : Int) = ((s[i].toNat : Nat) : Int) := by
  have h2 := bt_at s (i : Int) (by simpa using h)
  rw [← h2]
  simp only [Int.toNat_natCast]
theorem put_l0 (s : ByteArray) (hs : s.size ≤ 65536) : ∀ (d k i : Nat) (out pre : List Int), i + d = s.size → St out pre → pre.length ≤ 30 * i → 40 * d < k →
    mailcoachref10_Put.l0 k s huff_lens code_words out (pre.length : Nat) (i : Nat) = some (huff_pack (huff_enc ((bytesOf s).drop i)) pre.length out, 0)
  | 0, k, i, out, pre, hi, hst, hp, hk => by
    obtain ⟨k, rfl⟩ : ∃ m, k = m + 1 := ⟨k - 1, by omega⟩
    rw [mailcoachref10_Put.l0, if_neg (by omega), List.drop_eq_nil_of_le (by rw [man_bytesOf_length]; omega)]
    rfl
  | d + 1, k, i, out, pre, hi, hst, hp, hk => by
    obtain ⟨k, rfl⟩ : ∃ m, k = m + 1 := ⟨k - 1, by omega⟩
    have hlt : i < s.size := by omega
    have hc : s[i].toNat < 256 := s[i].toNat_lt
    have hbt := bt_nat s i hlt
    obtain ⟨c, hcc⟩ : ∃ c : Nat, s[i].toNat = c := ⟨_, rfl⟩
    have hdrop := man_bytesOf_drop s i hlt
    rw [hcc] at hbt hc hdrop
    obtain ⟨r1, r2, r3, r4, r5, r6⟩ := code_rd c (by omega)
    obtain ⟨n, hn⟩ := Int.eq_ofNat_of_zero_le (show 0 ≤ (huff_w (c : Int)).2 by omega)
    rw [hn] at r2 r3 r4
    have hn30 : n ≤ 30 := by omega
    obtain ⟨k', rfl⟩ : ∃ m, k = n + 1 + m := ⟨k - (n + 1), by omega⟩
    have hll : huff_lens.length = 257 := huff_lens_length
    have c0 : (i : Int) < s.size := by omega
    have c1 : (0 : Int) ≤ i := by omega
    have c2 : (0 : Int) ≤ (c : Int) := by omega
    have c3 : (c : Int) < huff_lens.length := by rw [hll]; omega
    have hst2 := hst.pack (huff_low (huff_w c).1 n) (huff_low_01 _ n)
    have hl2 : (pre ++ huff_low (huff_w c).1 n).length = pre.length + n := by rw [List.length_append, huff_low_length]
    have ih := put_l0 s hs d k' (i + 1) _ _ (by omega) hst2 (by rw [hl2]; omega) (by omega)
    rw [hl2] at ih
    have hpn : pre.length + n ≤ 100000000 := by omega
    have w1 := ar_less n (by omega)
    have w2 := ar_more i (by omega)
    rw [mailcoachref10_Put.l0, if_pos c0, if_pos c1, hbt, if_pos c2, if_pos c3, r2, w1, put_l1 s c (by omega) i n k' out pre hn30 hst hpn, w2, ih, hdrop, enc_cons, hn, Int.toNat_natCast, pack_append, huff_low_length]
theorem put_eq (s : ByteArray) (hs : s.size ≤ 65536) (k : Nat) (hk : 40 * s.size + 7771 < k) : mailcoachref10_Put.f k s = some (huff_pack (huff_enc (bytesOf s)) 0 [], 0) := by
  obtain ⟨k', rfl⟩ : ∃ m, k = 30 * 259 + 1 + m := ⟨k - 7771, by omega⟩
  unfold mailcoachref10_Put.f mailcoachref10_Lengths.f
  rw [if_neg (by omega)]
  simp only [Option.bind_some]
  rw [code_at k']
  simp only [Option.bind_some]
  have := put_l0 s hs s.size (30 * 259 + 1 + k') 0 [] [] (by omega) St.nil (by simp) (by omega)
  rw [List.drop_zero] at this
  exact this
theorem len_l0 (s : ByteArray) (hs : s.size ≤ 1048576) : ∀ (d k i : Nat) (n : Int), i + d = s.size → d < k → 0 ≤ n → n ≤ 30 * i →
    mailcoachref10_Len.l0 k s huff_lens n (i : Nat) = some ((n + huff_sum ((bytesOf s).drop i) + 7) / 8)
  | 0, k, i, n, hi, hk, n0, n1 => by
    obtain ⟨k, rfl⟩ : ∃ m, k = m + 1 := ⟨k - 1, by omega⟩
    have w1 : wrap64 (n + 7) = n + 7 := by unfold wrap64; omega
    have t1 : Int.tdiv (n + 7) 8 = (n + 7) / 8 := Int.tdiv_eq_ediv_of_nonneg (by omega)
    have w2 : wrap64 ((n + 7) / 8) = (n + 7) / 8 := by clear w1 t1; unfold wrap64; omega
    rw [mailcoachref10_Len.l0, if_neg (by clear w1 t1 w2; omega), w1, t1, w2, List.drop_eq_nil_of_le (by rw [man_bytesOf_length]; clear w1 t1 w2; omega), huff_sum, Int.add_zero]
  | d + 1, k, i, n, hi, hk, n0, n1 => by
    obtain ⟨k, rfl⟩ : ∃ m, k = m + 1 := ⟨k - 1, by omega⟩
    have hlt : i < s.size := by omega
    have hc : s[i].toNat < 256 := s[i].toNat_lt
    have hbt := bt_nat s i hlt
    obtain ⟨c, hcc⟩ : ∃ c : Nat, s[i].toNat = c := ⟨_, rfl⟩
    have hdrop := man_bytesOf_drop s i hlt
    rw [hcc] at hbt hc hdrop
    have hbd := huff_len_bd c (by omega)
    obtain ⟨m, hm⟩ : ∃ m, rd huff_lens (c : Int) = m := ⟨_, rfl⟩
    rw [hm] at hbd
    have hll : huff_lens.length = 257 := huff_lens_length
    have c0 : (i : Int) < s.size := by omega
    have c1 : (0 : Int) ≤ i := by omega
    have c2 : (0 : Int) ≤ (c : Int) := by omega
    have c3 : (c : Int) < huff_lens.length := by rw [hll]; omega
    have ih := len_l0 s hs d k (i + 1) (n + m) (by omega) (by omega) (by omega) (by omega)
    have w1 : wrap64 (n + m) = n + m := by clear ih; unfold wrap64; omega
    have w2 := ar_more i (by clear w1 ih; omega)
    rw [mailcoachref10_Len.l0, if_pos c0, if_pos c1, hbt, if_pos c2, if_pos c3, hm, w1, w2, ih, hdrop, huff_sum, hm, Int.add_assoc n m]
theorem ref_l0 : ∀ (j i k : Nat) (x : Int) (acc : List Int), 0 ≤ x → x < 128 * 128 ^ j → x < 18446744073709551616 → j ≤ i → j < k → acc.length + j ≤ 1000 → mailcoachref01_PutPrefix.l0 k x acc = some (acc ++ varint_sevens.L i x, 0) := by
  intro j
  induction j with
  | zero =>
    intro i k x acc h0 h1 h2 hi hk hl
    obtain ⟨k, rfl⟩ : ∃ m, k = m + 1 := ⟨k - 1, by omega⟩
    simp only [mailcoachref01_PutPrefix.l0]
    rw [if_neg (by omega), if_pos (by omega)]
    have e : x % 256 = x := by omega
    cases i with
    | zero => rw [varint_sevens.L]
    | succ i => rw [varint_sevens.L, if_neg (by omega), e]
  | succ j ih =>
    intro i k x acc h0 h1 h2 hi hk hl
    obtain ⟨k, rfl⟩ : ∃ m, k = m + 1 := ⟨k - 1, by omega⟩
    obtain ⟨i, rfl⟩ : ∃ m, i = m + 1 := ⟨i - 1, by omega⟩
    simp only [mailcoachref01_PutPrefix.l0]
    rw [varint_sevens.L]
    by_cases hx : 128 ≤ x
    · rw [if_pos (by omega), if_pos (by omega), if_pos hx]
      rw [Int.tmod_eq_emod_of_nonneg h0, Int.tdiv_eq_ediv_of_nonneg h0, show IntKind.u64.wrap (x / 128) = x / 128 by rw [IntKind.wrap_u64]; omega, show (x % 128 % 256 + 128) % 256 = x % 128 + 128 by omega]
      rw [Int.pow_succ] at h1
      rw [ih i k (x / 128) _ (by omega) (by omega) (by omega) (by omega) (by omega) (by rw [List.length_append]; simp; omega)]
      simp
    · rw [if_neg (by omega), if_pos (by omega), if_neg hx, show x % 256 = x by omega]
theorem most_f (b : Int) (h1 : 1 ≤ b) (h8 : b ≤ 8) : mailcoachref01_most.f 12 b = some (varint_GetPrefix.M b) := by
  rcases (show b = 1 ∨ b = 2 ∨ b = 3 ∨ b = 4 ∨ b = 5 ∨ b = 6 ∨ b = 7 ∨ b = 8 by omega) with rfl | rfl | rfl | rfl | rfl | rfl | rfl | rfl <;> decide +kernel
theorem and_M : ∀ b : Nat, b < 9 → ∀ n : Nat, n < 256 → Go.bits .and .u64 (n : Int) (varint_GetPrefix.M (b : Int)) = (n : Int) % 2 ^ b := by decide +kernel
theorem or_M : ∀ b : Nat, b < 9 → ∀ n : Nat, n < 256 → n % 2 ^ b = 0 → ∀ x : Nat, x < 2 ^ b → Go.bits .or .u8 (n : Int) (x : Int) = (n : Int) + x := by decide +kernel
theorem L_le : ∀ (i : Nat) (x : Int), (varint_sevens.L i x).length ≤ i + 1
  | 0, x => by simp [varint_sevens.L]
  | i + 1, x => by
    rw [varint_sevens.L]
    split
    · have := L_le i (x / 128); simp; omega
    · simp
theorem pput_eq (a b c : Int) (a0 : 0 ≤ a) (a1 : a < 256) (c0 : 0 ≤ c) : ∃ l e, varint_PutPrefix.f a b c = some (l, e) ∧ mailcoachref01_PutPrefix.f 13 a b c = some (l, e) ∧ l.length ≤ 11 := by
  unfold varint_PutPrefix.f mailcoachref01_PutPrefix.f
  by_cases h1 : b < 1
  · rw [if_pos (by omega), if_pos h1]; exact ⟨_, _, rfl, by simp [mailcoachref01_PutPrefix.j0], by simp⟩
  · rw [if_neg h1]
    by_cases h2 : b > 8
    · rw [if_pos (by omega), if_pos h2]; exact ⟨_, _, rfl, by simp [mailcoachref01_PutPrefix.j0], by simp⟩
    · rw [if_neg h2]
      by_cases h3 : c > 4611686018427387903
      · rw [if_pos (by omega)]; exact ⟨_, _, rfl, by simp [mailcoachref01_PutPrefix.j0, h3], by simp⟩
      · rw [if_neg (by omega), if_neg (by omega), decide_eq_false h3]
        simp only [mailcoachref01_PutPrefix.j0]
        rw [if_neg (show ¬ (false = true) by simp), most_f b (by omega) (by omega)]
        obtain ⟨n, rfl⟩ := Int.eq_ofNat_of_zero_le a0
        obtain ⟨m, rfl⟩ := Int.eq_ofNat_of_zero_le (show 0 ≤ b by omega)
        have hand := and_M m (by omega) n (by omega)
        rw [show IntKind.u64.wrap (n : Int) = n by rw [IntKind.wrap_u64]; omega]
        simp only [Option.bind_some, hand, Int.toNat_natCast]
        by_cases hm : (n : Int) % 2 ^ m = 0
        · have hmn : n % 2 ^ m = 0 := by exact_mod_cast hm
          have hM : varint_GetPrefix.M (m : Int) = ((2 ^ m - 1 : Nat) : Int) ∧ 2 ^ m ≤ 256 ∧ 1 ≤ 2 ^ m := by
            rcases (show m = 1 ∨ m = 2 ∨ m = 3 ∨ m = 4 ∨ m = 5 ∨ m = 6 ∨ m = 7 ∨ m = 8 by omega) with rfl | rfl | rfl | rfl | rfl | rfl | rfl | rfl <;> decide +kernel
          obtain ⟨x, rfl⟩ := Int.eq_ofNat_of_zero_le c0
          rw [if_neg (by simp [hm]), if_pos hm, hM.1]
          by_cases hc : (x : Int) < ((2 ^ m - 1 : Nat) : Int)
          · rw [if_pos hc, if_pos hc, show (x : Int) % 256 = x by omega, or_M m (by omega) n (by omega) hmn x (by omega)]
            exact ⟨_, _, rfl, rfl, by simp⟩
          · rw [if_neg hc, if_neg hc, show ((2 ^ m - 1 : Nat) : Int) % 256 = ((2 ^ m - 1 : Nat) : Int) by omega, or_M m (by omega) n (by omega) hmn (2 ^ m - 1) (by omega), IntKind.wrap_u64, Int.emod_eq_of_lt (by omega) (by omega)]
            rw [ref_l0 9 9 12 _ _ (by omega) (by simp only [Int.reducePow, Int.reduceMul]; omega) (by omega) (by omega) (by omega) (by simp)]
            refine ⟨_, _, rfl, rfl, ?_⟩
            have := L_le 9 ((x : Int) - ((2 ^ m - 1 : Nat) : Int))
            simp only [List.length_cons]
            omega
        · rw [if_pos (by simpa using hm), if_neg hm]; exact ⟨_, _, rfl, rfl, by simp⟩
theorem len_eq (s : ByteArray) (hs : s.size ≤ 1048576) (k : Nat) (hk : s.size < k) : mailcoachref10_Len.f k s = some ((huff_sum (bytesOf s) + 7) / 8) := by
  unfold mailcoachref10_Len.f mailcoachref10_Lengths.f
  simp only [Option.bind_some]
  have := len_l0 s hs s.size k 0 0 (by omega) (by omega) (by omega) (by omega)
  rw [List.drop_zero, Int.zero_add] at this
  exact this
theorem prefix_eq (first bits : Int) (n : Nat) (h1 : 2 ≤ bits) (h8 : bits ≤ 8) (f0 : 0 ≤ first) (f1 : first < 256) (hm : first % 2 ^ (bits - 1).toNat = 0) (hn : (n : Int) ≤ 4611686018427387903) (k : Nat) (hk : 13 ≤ k) :
    ∃ pf, mailcoachref01_PutPrefix.f k first (bits - 1) n = some (pf, 0) ∧ pf.length ≤ 11 ∧ ∀ b : List Int, b.length = n → text_Put.out first bits b = pf ++ b := by
  obtain ⟨l, e, g1, g2, g3⟩ := pput_eq first (bits - 1) n f0 f1 (by omega)
  have hp := text_Put.prefix first bits n h1 h8 f0 f1 hm hn
  rw [hp] at g1
  simp only [Option.some.injEq, Prod.mk.injEq] at g1
  obtain ⟨rfl, rfl⟩ := g1
  exact ⟨_, at_rounds (mailcoachref01_PutPrefix.mono _ _ _) hk g2, g3, fun b hb => by rw [text_Put.out, hb]⟩
theorem nothing_calls {w w' : World} {e : Ending} {x : Int} (h : e = .returned (.tuple #[.slice none 0 0, .int .i64 x]) ∧ Below w.heap.size w w') :
    ∃ v, e = .returned (.tuple #[v, .int .i64 x]) ∧ Kd.R (Kd.int .u8) 5 w' w.heap.size (fun _ => True) v [] ∧ Below w.heap.size w w' := ⟨_, h.1, Kd.R_nil _ _ _ _ _, h.2⟩
theorem TextPuts (b0 b1 : Int) (s : ByteArray) (h0 : (Lit.int .u8 b0).wf = true) (h1 : (Lit.int .i64 b1).wf = true) (hs : s.size ≤ 1048576) :
    ∃ k2 l e, text_Put.f b0 b1 s = some (l, e) ∧ (∀ W : World, Calls Tryz.prog 6 #[.int .u8 b0, .int .i64 b1, .string s] W fun e' w' => ∃ v, e' = .returned (.tuple #[v, .int .i64 e]) ∧ Kd.R (Kd.int .u8) 5 w' W.heap.size (fun _ => True) v l ∧ Below W.heap.size W w') ∧
      mailcoachlaw01_SameBytes.f k2 l l = some true ∧ l.length ≤ 100000000 := by
  have x0 : 0 ≤ b0 ∧ b0 < 256 := by
    simp [Lit.wf, IntKind.min, IntKind.max, IntKind.signed, IntKind.bits] at h0
    omega
  have hnil : mailcoachlaw01_SameBytes.f 1 [] [] = some true := by rw [same_f [] [] (by simp) 1 (by simp)]; rfl
  obtain ⟨k, hk⟩ : ∃ k, 40 * s.size + 7771 < k := ⟨_, Nat.lt_succ_self _⟩
  unfold text_Put.f
  by_cases hb : b1 < 2 ∨ 8 < b1
  · rw [if_pos hb]
    exact ⟨1, [], 1, rfl, fun W => (mailcoachref11_Put.bad b0 b1 s W hb).mono fun _ _ h => nothing_calls h, hnil, by simp⟩
  · rw [if_neg hb, if_neg (by omega)]
    have ht := mailcoachref11_two.at b1 (by omega) (by omega)
    have hu := mailcoachref11_two.at (b1 - 1) (by omega) (by omega)
    obtain ⟨t1, t2⟩ := mailcoachref11_Put.pow b1 (by omega) (by omega)
    obtain ⟨u1, u2⟩ := mailcoachref11_Put.pow (b1 - 1) (by omega) (by omega)
    have htu : (2 : Int) ^ b1.toNat = 2 * 2 ^ (b1 - 1).toNat := by
      rw [show b1.toNat = (b1 - 1).toNat + 1 by omega, Int.pow_succ, Int.mul_comm]
    by_cases hm : b0 % 2 ^ b1.toNat ≠ 0
    · rw [if_pos hm]
      exact ⟨1, [], 1, rfl, fun W => (mailcoachref11_Put.rem b0 b1 _ s W (by omega) (by omega) x0.1 x0.2 ht t1 t2 hm).mono fun _ _ h => nothing_calls h, hnil, by simp⟩
    · rw [if_neg hm]
      have hm0 : b0 % 2 ^ b1.toNat = 0 := Classical.not_not.1 hm
      by_cases hz : 65536 < s.size
      · rw [if_pos hz]
        exact ⟨1, [], 3, rfl, fun W => (mailcoachref11_Put.big b0 b1 _ s W (by omega) (by omega) x0.1 x0.2 ht t1 t2 hm0 hz).mono fun _ _ h => nothing_calls h, hnil, by simp⟩
      · rw [if_neg hz]
        have hL := len_eq s hs k (by omega)
        obtain ⟨_, a2⟩ := text_Put.arith b1 b0 (by omega) (by omega) x0.1 x0.2
        obtain ⟨_, a3, a4, a5⟩ := a2 hm0
        by_cases hl : (huff_sum (bytesOf s) + 7) / 8 < s.size
        · rw [if_pos hl]
          have hpk := put_eq s (by omega) k hk
          have hkl : (huff_pack (huff_enc (bytesOf s)) 0 []).length ≤ 300000 := by
            have g1 := huff_pack_length (huff_enc (bytesOf s)) 0 [] rfl
            have g2 := huff_enc_length_le (bytesOf s) (man_bytesOf_bd s)
            rw [man_bytesOf_length] at g2
            omega
          obtain ⟨pk, hpk2⟩ : ∃ pk, huff_pack (huff_enc (bytesOf s)) 0 [] = pk := ⟨_, rfl⟩
          rw [hpk2] at hpk hkl ⊢
          obtain ⟨pf, p1, p2, p3⟩ := prefix_eq (b0 + 2 ^ (b1 - 1).toNat) b1 pk.length (by omega) (by omega) (by omega) a3 a4 (by omega) k (by omega)
          rw [p3 pk rfl]
          refine ⟨(pf ++ pk).length + 1, pf ++ pk, 0, rfl, fun W => mailcoachref11_Put.few k b0 b1 _ _ _ _ pf pk s W (by omega) (by omega) x0.1 x0.2 ht t1 t2 hm0 (by omega) hL hl hpk hu u1 (by omega) rfl a3 p1 (by omega) hkl, ?_, ?_⟩
          · rw [same_f _ _ (by rw [List.length_append]; omega) _ (Nat.lt_succ_self _)]; simp
          · rw [List.length_append]; omega
        · rw [if_neg hl]
          obtain ⟨pf, p1, p2, p3⟩ := prefix_eq b0 b1 s.size (by omega) (by omega) x0.1 x0.2 a5 (by omega) k (by omega)
          rw [p3 (bytesOf s) (man_bytesOf_length s)]
          refine ⟨(pf ++ bytesOf s).length + 1, pf ++ bytesOf s, 0, rfl, fun W => mailcoachref11_Put.plain k b0 b1 _ _ pf s W (by omega) (by omega) x0.1 x0.2 ht t1 t2 hm0 (by omega) hL (by omega) p1 (by omega), ?_, ?_⟩
          · rw [same_f _ _ (by rw [List.length_append, man_bytesOf_length]; omega) _ (Nat.lt_succ_self _)]; simp
          · rw [List.length_append, man_bytesOf_length]; omega
end Go.Proofs.YtmkmefdajbdceaaGreatDoor.Pure
