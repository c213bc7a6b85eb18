/- Plain facts on the code of few bits: what was put is got again, and the other way about; the program's answer is the reference's. -/
import Derived.Test.YtmkmefdajbdceaaPTXx19
import Derived.Test.YtmkmefdajbdceaaPTXx18
import Derived.Test.YtmkmefdajbdceaaPTXx12
import Derived.Test.YtmkmefdajbdceaaMTa
namespace Go.Proofs.Ytmkmefdajbdceaa.Pure
open Go.RowKit Go.Proofs.Ytmkmefdajbdceaa.PTX Go.Proofs.YtmkmefdajbdceaaW.PrintWords Go.Proofs.YtmkmefdajbdceaaW.PrintLast
set_option linter.unusedVariables false
set_option linter.unusedSimpArgs false

/-! ### The code: what is put is got again, and the other way about -/
theorem huff_words_stand : ∀ c : Nat, c < 257 → (∀ j : Nat, j < (huff_w c).2.toNat → huff_look j ((huff_w c).1 / 2 ^ ((huff_w c).2.toNat - j)) = none) ∧ huff_look (huff_w c).2.toNat (huff_w c).1 = some (c : Int) ∧ (huff_w c).1 < 2 ^ (huff_w c).2.toNat ∧ (huff_w c).2.toNat ≤ 30 ∧ 5 ≤ (huff_w c).2.toNat ∧ 0 ≤ (huff_w c).1 ∧ (huff_w c).2 = rd huff_lens c := by
  have h : (List.range 257).all (fun c => ((List.range (huff_w c).2.toNat).all fun j => (huff_look j ((huff_w c).1 / 2 ^ ((huff_w c).2.toNat - j))).isNone) && (huff_look (huff_w c).2.toNat (huff_w c).1 == some (c : Int)) && decide ((huff_w c).1 < 2 ^ (huff_w c).2.toNat) && decide ((huff_w c).2.toNat ≤ 30) && decide (5 ≤ (huff_w c).2.toNat) && decide (0 ≤ (huff_w c).1) && ((huff_w c).2 == rd huff_lens c)) = true := by decide +kernel
  intro c hc
  have h1 := List.all_eq_true.1 h c (List.mem_range.2 hc)
  simp only [Bool.and_eq_true, decide_eq_true_eq, beq_iff_eq] at h1
  obtain ⟨⟨⟨⟨⟨⟨a1, a2⟩, a3⟩, a4⟩, a5⟩, a6⟩, a7⟩ := h1
  refine ⟨fun j hj => ?_, a2, a3, a4, a5, a6, a7⟩
  have := List.all_eq_true.1 a1 j (List.mem_range.2 hj)
  simpa using this
theorem huff_go_word (w : Int) (n : Nat) (c : Nat) (hn : n ≤ 30) (h0 : 0 ≤ w) (hw : w < 2 ^ n) (hno : ∀ j : Nat, j < n → huff_look j (w / 2 ^ (n - j)) = none) (hyes : huff_look n w = some (c : Int)) (hc : c < 256) (rest out : List Int) :
    ∀ (d j : Nat) (o : Bool), j + d + 1 = n → huff_go (huff_low w (d + 1) ++ rest) (w / 2 ^ (d + 1)) (j : Int) o out = huff_go rest 0 0 true (out ++ [(c : Int)])
  | d, j, o, hj => by
    have hw2 := huff_pow_le n hn
    have hp1 : (2 : Int) ^ (d + 1) = 2 * 2 ^ d := by rw [Int.pow_succ]; omega
    have hpd : (0 : Int) < 2 ^ d := Int.pow_pos (by decide)
    have e0 : w % 4294967296 = w := Int.emod_eq_of_lt h0 (by omega)
    have hdiv : w / 2 ^ (d + 1) = w / 2 ^ d / 2 := by rw [hp1, Int.mul_comm, ← Int.ediv_ediv_of_nonneg (by omega)]
    obtain ⟨y, hy⟩ : ∃ y, w / 2 ^ d = y := ⟨_, rfl⟩
    have hy0 : 0 ≤ y := by rw [← hy]; exact Int.ediv_nonneg h0 (by omega)
    have hy1 : y ≤ w := by rw [← hy]; exact Int.ediv_le_self _ h0
    have ex : w / 2 ^ (d + 1) * 2 % 4294967296 + w % 4294967296 / 2 ^ d % 2 = y := by rw [hdiv, e0, hy]; omega
    have en : ((j : Int) + 1) % 256 = ((j + 1 : Nat) : Int) := by omega
    rw [huff_low, List.cons_append, huff_go_cons, ex, en]
    have hl := huff_find_look (j + 1) (by omega) y
    cases d with
    | zero =>
      have hyw : y = w := by rw [← hy]; simp
      have hjn : j + 1 = n := by omega
      rw [hjn, hyw, hyes] at hl
      rw [hjn, hyw]
      cases hf : huff_find 257 (w, (n : Int)) with
      | none => rw [hf] at hl; cases hl
      | some k =>
        rw [hf] at hl
        have hk : (c : Int) = k := by simpa using hl
        obtain rfl : c = k := by omega
        simp only [show ¬ (c = 256) by omega, if_false, huff_low, List.nil_append]
        rw [show (c : Int) % 256 = c by omega]
    | succ d =>
      have h3 := hno (j + 1) (by omega)
      rw [show n - (j + 1) = d + 1 by omega, hy] at h3
      rw [h3] at hl
      cases hf : huff_find 257 (y, ((j + 1 : Nat) : Int)) with
      | some k => rw [hf] at hl; cases hl
      | none =>
        simp only []
        rw [← hy]
        exact huff_go_word w n c hn h0 hw hno hyes hc rest out d (j + 1) _ (by omega)
theorem huff_go_enc : ∀ (s : List Int) (rest out : List Int), Bytes s → huff_go (huff_enc s ++ rest) 0 0 true out = huff_go rest 0 0 true (out ++ s)
  | [], rest, out, _ => by simp [huff_enc]
  | c :: s, rest, out, h => by
    have hc := h c List.mem_cons_self
    obtain ⟨k, rfl⟩ := Int.eq_ofNat_of_zero_le hc.1
    obtain ⟨a1, a2, a3, a4, a5, a6, a7⟩ := huff_words_stand k (by omega)
    obtain ⟨d, hd⟩ : ∃ d, (huff_w k).2.toNat = d + 1 := ⟨(huff_w k).2.toNat - 1, by omega⟩
    have h1 := huff_go_word (huff_w k).1 (huff_w k).2.toNat k a4 a6 a3 a1 a2 (by omega) (huff_enc s ++ rest) out d 0 true (by omega)
    have h2 : (huff_w k).1 / 2 ^ (d + 1) = 0 := Int.ediv_eq_zero_of_lt a6 (by rw [← hd]; exact a3)
    rw [h2, ← hd] at h1
    rw [huff_enc, List.append_assoc]
    refine h1.trans ?_
    rw [huff_go_enc s rest (out ++ [(k : Int)]) (fun x hx => h x (List.mem_cons_of_mem _ hx)), List.append_assoc]
    rfl
theorem huff_ones_none : ∀ j, j < 8 → huff_look j (2 ^ j - 1) = none := by
  have h : (List.range 8).all (fun j => (huff_look j (2 ^ j - 1)).isNone) = true := by decide +kernel
  intro j hj
  have := List.all_eq_true.1 h j (List.mem_range.2 hj)
  simpa using this
theorem huff_go_ones (out : List Int) : ∀ (p j : Nat), j + p < 8 → huff_go (List.replicate p 1) (2 ^ j - 1) (j : Int) true out = some (2 ^ (j + p) - 1, ((j + p : Nat) : Int), true, out)
  | 0, j, _ => by simp [huff_go]
  | p + 1, j, h => by
    have hp := huff_pow_le j (by omega)
    have hpos : (0 : Int) < 2 ^ j := Int.pow_pos (by decide)
    have ex : ((2 : Int) ^ j - 1) * 2 % 4294967296 + 1 = 2 ^ (j + 1) - 1 := by
      rw [Int.emod_eq_of_lt (by omega) (by omega), Int.pow_succ]
      omega
    have en : ((j : Int) + 1) % 256 = ((j + 1 : Nat) : Int) := by omega
    rw [List.replicate_succ, huff_go_cons, ex, en]
    have hl := huff_find_look (j + 1) (by omega) (2 ^ (j + 1) - 1)
    rw [huff_ones_none (j + 1) (by omega)] at hl
    cases hf : huff_find 257 (2 ^ (j + 1) - 1, ((j + 1 : Nat) : Int)) with
    | some k => rw [hf] at hl; cases hl
    | none =>
      have := huff_go_ones out p (j + 1) (by omega)
      simp only [Bool.true_and, show ((1 : Int) == 1) = true from rfl]
      rw [this, show j + 1 + p = j + (p + 1) by omega]
theorem huff_low_snoc : ∀ (n : Nat) (x b : Int), (b = 0 ∨ b = 1) → 0 ≤ x → 2 * x + b < 4294967296 → huff_low (2 * x + b) (n + 1) = huff_low x n ++ [b]
  | 0, x, b, hb, h0, h1 => by simp [huff_low]; omega
  | n + 1, x, b, hb, h0, h1 => by
    rw [huff_low, huff_low_snoc n x b hb h0 h1, huff_low, List.cons_append]
    congr 1
    have hp1 : (2 : Int) ^ (n + 1) = 2 * 2 ^ n := by rw [Int.pow_succ]; omega
    rw [Int.emod_eq_of_lt (by omega) h1, Int.emod_eq_of_lt h0 (by omega), hp1, ← Int.ediv_ediv_of_nonneg (by omega)]
    congr 2
    omega
/-- What was got, as bits. -/
theorem huff_go_back : ∀ (bs : List Int), (∀ b ∈ bs, b = 0 ∨ b = 1) → ∀ (x : Int) (n : Nat) (o : Bool) (out : List Int), huff_Inv x n → o = (huff_low x n).all (· == 1) →
    ∀ (x' n' : Int) (o' : Bool) (out' : List Int), huff_go bs x n o out = some (x', n', o', out') →
    ∃ (s : List Int) (m : Nat), n' = (m : Int) ∧ out' = out ++ s ∧ Bytes s ∧ huff_low x n ++ bs = huff_enc s ++ huff_low x' m ∧ o' = (huff_low x' m).all (· == 1)
  | [], _, x, n, o, out, hv, ho, x', n', o', out', h => by
    simp only [huff_go, Option.some.injEq, Prod.mk.injEq] at h
    obtain ⟨rfl, rfl, rfl, rfl⟩ := h
    exact ⟨[], n, rfl, by simp, (fun x hx => by cases hx), by simp [huff_enc], ho⟩
  | b :: bs, hB, x, n, o, out, hv, ho, x', n', o', out', h => by
    have hb := hB b List.mem_cons_self
    have hB2 : ∀ b ∈ bs, b = 0 ∨ b = 1 := fun y hy => hB y (List.mem_cons_of_mem _ hy)
    obtain ⟨n0, n1, n2⟩ := hv.next b hb
    have hn30 := hv.n30
    have hp := huff_pow_le (n + 1) (by omega)
    have e1 : x * 2 % 4294967296 + b = 2 * x + b := by have := hv.x0; omega
    have e3 : ((n : Int) + 1) % 256 = ((n + 1 : Nat) : Int) := by omega
    have hsn := huff_low_snoc n x b hb hv.x0 (by omega)
    rw [huff_go_cons, e1, e3] at h
    have hl := huff_find_look (n + 1) (by omega) (2 * x + b)
    cases hf : huff_find 257 (2 * x + b, ((n + 1 : Nat) : Int)) with
    | none =>
      rw [hf] at h hl
      obtain ⟨s, m, g1, g2, g3, g4, g5⟩ := huff_go_back bs hB2 (2 * x + b) (n + 1) (o && b == 1) out (n2 hl) (by rw [hsn, List.all_append, ho]; simp) x' n' o' out' h
      exact ⟨s, m, g1, g2, g3, by rw [← g4, hsn]; simp, g5⟩
    | some k =>
      rw [hf] at h
      obtain ⟨hk, hw⟩ := huff_find_some _ _ _ hf
      by_cases hk2 : k = 256
      · subst hk2; simp at h
      · simp only [hk2, if_false] at h
        obtain ⟨s, m, g1, g2, g3, g4, g5⟩ := huff_go_back bs hB2 0 0 true (out ++ [(k : Int) % 256]) huff_Inv.zero rfl x' n' o' out' h
        have hkm : (k : Int) % 256 = k := by omega
        refine ⟨(k : Int) :: s, m, g1, by rw [g2, hkm]; simp, fun y hy => ?_, ?_, g5⟩
        · rcases List.mem_cons.1 hy with rfl | hy
          · omega
          · exact g3 y hy
        · have hwk : huff_w (k : Int) = (2 * x + b, ((n + 1 : Nat) : Int)) := by unfold huff_w; rw [Int.toNat_natCast]; exact hw
          rw [huff_enc, hwk]
          simp only [Int.toNat_natCast]
          rw [hsn, List.append_assoc, List.append_assoc]
          have g4' : bs = huff_enc s ++ huff_low x' m := by simpa [huff_low] using g4
          rw [g4']
          simp
theorem huff_enc_length : ∀ l : List Int, Bytes l → ((huff_enc l).length : Int) = huff_sum l
  | [], _ => rfl
  | c :: r, h => by
    have hc := h c List.mem_cons_self
    obtain ⟨k, rfl⟩ := Int.eq_ofNat_of_zero_le hc.1
    obtain ⟨a1, a2, a3, a4, a5, a6, a7⟩ := huff_words_stand k (by omega)
    have ih := huff_enc_length r (fun x hx => h x (List.mem_cons_of_mem _ hx))
    rw [huff_enc, huff_sum, List.length_append, huff_low_length, ← a7]
    omega
theorem huff_enc_append : ∀ a b : List Int, huff_enc (a ++ b) = huff_enc a ++ huff_enc b
  | [], b => rfl
  | c :: r, b => by rw [List.cons_append, huff_enc, huff_enc_append r b, huff_enc, List.append_assoc]
theorem huff_bits8_append (a b : List Int) : huff_bits8 (a ++ b) = huff_bits8 a ++ huff_bits8 b := by unfold huff_bits8; rw [List.flatMap_append]
theorem huff_bits8_cons (c : Int) (r : List Int) : huff_bits8 (c :: r) = huff_low c 8 ++ huff_bits8 r := by unfold huff_bits8; rw [List.flatMap_cons]
theorem huff_bits8_size : ∀ l, (huff_bits8 l).length = 8 * l.length
  | [] => rfl
  | c :: r => by rw [huff_bits8_cons, List.length_append, huff_low_length, huff_bits8_size r, List.length_cons]; omega
theorem huff_bits8_01 (l : List Int) : ∀ b ∈ huff_bits8 l, b = 0 ∨ b = 1 := by
  intro b h
  obtain ⟨c, _, hc⟩ := List.mem_flatMap.1 h
  exact huff_low_01 c 8 b hc
theorem huff_clear : ∀ v : Nat, v < 256 → ∀ m : Nat, m < 8 → huff_low (bits .andNot .u8 (v : Int) (128 / 2 ^ m)) 8 = (huff_low v 8).set m 0 ∧ 0 ≤ bits .andNot .u8 (v : Int) (128 / 2 ^ m) ∧ bits .andNot .u8 (v : Int) (128 / 2 ^ m) < 256 := by
  have h : (List.range 256).all (fun v => (List.range 8).all fun m => (huff_low (bits .andNot .u8 (v : Int) (128 / 2 ^ m)) 8 == (huff_low v 8).set m 0) && decide (0 ≤ bits .andNot .u8 (v : Int) (128 / 2 ^ m)) && decide (bits .andNot .u8 (v : Int) (128 / 2 ^ m) < 256)) = true := by decide +kernel
  intro v hv m hm
  have := List.all_eq_true.1 (List.all_eq_true.1 h v (List.mem_range.2 hv)) m (List.mem_range.2 hm)
  simp only [Bool.and_eq_true, decide_eq_true_eq, beq_iff_eq] at this
  exact ⟨this.1.1, this.1.2, this.2⟩
theorem huff_bits8_set : ∀ (R : List Int) (q m : Nat) (v : Int), q < R.length → m < 8 → huff_low v 8 = (huff_low (rd R (q : Nat)) 8).set m 0 → huff_bits8 (R.set q v) = (huff_bits8 R).set (8 * q + m) 0
  | [], q, m, v, h, _, _ => by simp at h
  | c :: r, 0, m, v, h, hm, hv => by
    rw [List.set_cons_zero, huff_bits8_cons, huff_bits8_cons, hv, List.set_append_left _ _ (by rw [huff_low_length]; omega)]
    simp [rd]
  | c :: r, q + 1, m, v, h, hm, hv => by
    have ih := huff_bits8_set r q m v (by simpa using h) hm (by rw [hv]; simp [rd])
    rw [List.set_cons_succ, huff_bits8_cons, huff_bits8_cons, ih, List.set_append_right _ _ (by rw [huff_low_length]; omega), huff_low_length]
    congr 2
    omega
theorem huff_set_at : ∀ (pre : List Int) (k : Nat), (pre ++ List.replicate (k + 1) (1 : Int)).set pre.length 0 = (pre ++ [0]) ++ List.replicate k 1
  | [], k => by simp [List.replicate_succ]
  | c :: r, k => by
    have := huff_set_at r k
    simp only [List.cons_append, List.length_cons, List.set_cons_succ]
    rw [this]
theorem huff_pack_bits : ∀ (bs : List Int), (∀ b ∈ bs, b = 0 ∨ b = 1) → ∀ (i : Nat) (out pre : List Int), pre.length = i → out.length = (i + 7) / 8 → Bytes out → huff_bits8 out = pre ++ List.replicate (8 * out.length - i) 1 →
    huff_bits8 (huff_pack bs i out) = (pre ++ bs) ++ List.replicate (8 * (huff_pack bs i out).length - (i + bs.length)) 1 ∧ Bytes (huff_pack bs i out)
  | [], _, i, out, pre, hp, ho, hb, h => by
    rw [huff_pack, List.append_nil]
    exact ⟨h, hb⟩
  | b :: bs, hB, i, out, pre, hp, ho, hb, h => by
    have hRl := huff_room_length i out ho
    have hR : Bytes (huff_room i out) ∧ huff_bits8 (huff_room i out) = pre ++ List.replicate (8 * (huff_room i out).length - i) 1 := by
      by_cases h8 : i % 8 = 0
      · have e : huff_room i out = out ++ [255] := by rw [huff_room, if_pos h8]
        rw [e]
        refine ⟨fun x hx => ?_, ?_⟩
        · rcases List.mem_append.1 hx with hx | hx
          · exact hb x hx
          · simp at hx; omega
        · have e8 : huff_bits8 [255] = List.replicate 8 1 := by decide
          rw [huff_bits8_append, h, e8, List.append_assoc, List.replicate_append_replicate, List.length_append]
          congr 2
          simp only [List.length_cons, List.length_nil]
          omega
      · have e : huff_room i out = out := by rw [huff_room, if_neg h8]
        rw [e]
        exact ⟨hb, h⟩
    obtain ⟨hR1, hR2⟩ := hR
    obtain ⟨k, hk⟩ : ∃ k, 8 * (huff_room i out).length - i = k + 1 := ⟨8 * (huff_room i out).length - i - 1, by omega⟩
    have hput : Bytes (huff_put1 b i out) ∧ (huff_put1 b i out).length = (huff_room i out).length ∧ huff_bits8 (huff_put1 b i out) = (pre ++ [b]) ++ List.replicate k 1 := by
      rcases hB b List.mem_cons_self with rfl | rfl
      · rw [huff_put1, if_neg (by decide)]
        have hq : i / 8 < (huff_room i out).length := by omega
        have hv : 0 ≤ rd (huff_room i out) (i / 8 : Nat) ∧ rd (huff_room i out) (i / 8 : Nat) < 256 := by
          apply hR1
          unfold rd
          rw [Int.toNat_natCast, List.getD_eq_getElem?_getD, List.getElem?_eq_getElem hq]
          exact List.getElem_mem _
        obtain ⟨v, hv2⟩ := Int.eq_ofNat_of_zero_le hv.1
        have hcl := huff_clear v (by omega) (i % 8) (by omega)
        rw [← hv2] at hcl
        refine ⟨fun x hx => ?_, by rw [List.length_set], ?_⟩
        · rcases List.mem_or_eq_of_mem_set hx with hx | rfl
          · exact hR1 x hx
          · exact ⟨hcl.2.1, hcl.2.2⟩
        · rw [huff_bits8_set _ (i / 8) (i % 8) _ hq (by omega) hcl.1, hR2, hk, show 8 * (i / 8) + i % 8 = i by omega, ← hp]
          exact huff_set_at pre k
      · rw [huff_put1, if_pos rfl, hR2, hk]
        exact ⟨hR1, rfl, by simp [List.replicate_succ]⟩
    obtain ⟨p1, p2, p3⟩ := hput
    have hp1 : (pre ++ [b]).length = i + 1 := by simp [hp]
    obtain ⟨r1, r2⟩ := huff_pack_bits bs (fun y hy => hB y (List.mem_cons_of_mem _ hy)) (i + 1) (huff_put1 b i out) (pre ++ [b]) hp1 (by rw [p2, hRl]) p1 (by rw [p3, p2]; congr 2; omega)
    rw [huff_pack]
    refine ⟨?_, r2⟩
    rw [r1, show (pre ++ [b]) ++ bs = pre ++ b :: bs by simp, List.length_cons]
    congr 2
    omega
/-- The bytes of bits: these, and ones in what is left of the last byte. -/
theorem huff_pack_all (bs : List Int) (hB : ∀ b ∈ bs, b = 0 ∨ b = 1) : huff_bits8 (huff_pack bs 0 []) = bs ++ List.replicate (8 * ((bs.length + 7) / 8) - bs.length) 1 ∧ Bytes (huff_pack bs 0 []) ∧ (huff_pack bs 0 []).length = (bs.length + 7) / 8 := by
  have hl := huff_pack_length bs 0 [] rfl
  rw [Nat.zero_add] at hl
  obtain ⟨h1, h2⟩ := huff_pack_bits bs hB 0 [] [] rfl rfl (fun x hx => by cases hx) rfl
  rw [hl, Nat.zero_add, List.nil_append] at h1
  exact ⟨h1, h2, hl⟩
def huff_byteOf (l : List Int) : Int := l.foldl (fun a b => 2 * a + b) 0
theorem huff_byteOf_low : ∀ c : Nat, c < 256 → huff_byteOf (huff_low c 8) = c := by
  have h : (List.range 256).all (fun c => huff_byteOf (huff_low c 8) == (c : Int)) = true := by decide +kernel
  intro c hc
  have := List.all_eq_true.1 h c (List.mem_range.2 hc)
  simpa using this
theorem huff_low_inj (a b : Int) (ha : 0 ≤ a ∧ a < 256) (hb : 0 ≤ b ∧ b < 256) (h : huff_low a 8 = huff_low b 8) : a = b := by
  obtain ⟨x, rfl⟩ := Int.eq_ofNat_of_zero_le ha.1
  obtain ⟨y, rfl⟩ := Int.eq_ofNat_of_zero_le hb.1
  rw [← huff_byteOf_low x (by omega), ← huff_byteOf_low y (by omega), h]
theorem huff_bits8_inj : ∀ (a b : List Int), Bytes a → Bytes b → huff_bits8 a = huff_bits8 b → a = b
  | [], [], _, _, _ => rfl
  | [], c :: r, _, _, h => by have := congrArg List.length h; rw [huff_bits8_size, huff_bits8_size] at this; simp at this
  | c :: r, [], _, _, h => by have := congrArg List.length h; rw [huff_bits8_size, huff_bits8_size] at this; simp at this
  | c :: r, d :: s, ha, hb, h => by
    rw [huff_bits8_cons, huff_bits8_cons] at h
    obtain ⟨h1, h2⟩ := List.append_inj h (by rw [huff_low_length, huff_low_length])
    rw [huff_low_inj c d (ha c List.mem_cons_self) (hb d List.mem_cons_self) h1, huff_bits8_inj r s (fun x hx => ha x (List.mem_cons_of_mem _ hx)) (fun x hx => hb x (List.mem_cons_of_mem _ hx)) h2]
theorem bytesOf_bytes (s : ByteArray) : Bytes (bytesOf s) := man_bytesOf_bd s
theorem strOfNums_bytesOf (s : ByteArray) : strOfNums (bytesOf s) = s := by
  unfold strOfNums bytesOf
  rw [List.map_map]
  have e : ((fun n : Int => UInt8.ofNat n.toNat) ∘ fun b : UInt8 => (b.toNat : Int)) = id := by
    funext b
    simp
  rw [e, List.map_id]
theorem bytesOf_strOfNums (l : List Int) (h : Bytes l) : bytesOf (strOfNums l) = l := by
  unfold strOfNums bytesOf
  simp only [List.map_map]
  have : ∀ x ∈ l, ((fun b : UInt8 => (b.toNat : Int)) ∘ fun n : Int => UInt8.ofNat n.toNat) x = x := by
    intro x hx
    have := h x hx
    simp only [Function.comp, UInt8.toNat_ofNat']
    omega
  exact (List.map_congr_left this).trans (List.map_id l)
theorem strOfNums_size (l : List Int) : (strOfNums l).size = l.length := by
  unfold strOfNums
  show (List.map _ l).toArray.size = _
  rw [List.size_toArray, List.length_map]
/-- What was put is got as it was. -/
theorem huff_Get_Put (s : ByteArray) (hs : s.size ≤ 65536) : huff_Get.f (huff_pack (huff_enc (bytesOf s)) 0 []) = some (s, 0) := by
  obtain ⟨h1, h2, h3⟩ := huff_pack_all (huff_enc (bytesOf s)) (huff_enc_01 (bytesOf s))
  have hl := huff_enc_length_le (bytesOf s) (man_bytesOf_bd s)
  rw [man_bytesOf_length] at hl
  obtain ⟨p, hp⟩ : ∃ p, 8 * (((huff_enc (bytesOf s)).length + 7) / 8) - (huff_enc (bytesOf s)).length = p := ⟨_, rfl⟩
  have hp8 : p < 8 := by omega
  rw [hp] at h1
  unfold huff_Get.f
  rw [if_neg (by rw [h3]; omega), h1, huff_go_enc _ _ _ (bytesOf_bytes s)]
  have h4 := huff_go_ones ([] ++ bytesOf s) p 0 (by omega)
  rw [show ((2 : Int) ^ 0 - 1) = 0 by decide, show ((0 : Nat) : Int) = 0 from rfl, Nat.zero_add] at h4
  rw [h4]
  simp only [List.nil_append]
  rw [if_neg (by simp; omega), strOfNums_bytesOf]
/-- What was got is just what it is put as. -/
theorem huff_Put_Get (b : List Int) (hb : Bytes b) (s : ByteArray) (h : huff_Get.f b = some (s, 0)) : huff_pack (huff_enc (bytesOf s)) 0 [] = b := by
  unfold huff_Get.f at h
  by_cases hbig : (1048576 : Int) < b.length
  · rw [if_pos hbig] at h; simp at h
  · rw [if_neg hbig] at h
    cases hg : huff_go (huff_bits8 b) 0 0 true [] with
    | none => rw [hg] at h; simp at h
    | some r =>
      obtain ⟨x', n', o', out'⟩ := r
      rw [hg] at h
      obtain ⟨t, m, g1, g2, g3, g4, g5⟩ := huff_go_back (huff_bits8 b) (huff_bits8_01 b) 0 0 true [] huff_Inv.zero rfl x' n' o' out' hg
      simp only [] at h
      by_cases hc : 8 ≤ n' ∨ o' = false
      · rw [if_pos hc] at h; simp at h
      · rw [if_neg hc] at h
        simp only [Option.some.injEq, Prod.mk.injEq, and_true] at h
        have ho : o' = true := by cases o' <;> simp_all
        have hm : m < 8 := by
          rcases Nat.lt_or_ge m 8 with h1 | h1
          · exact h1
          · exact absurd (Or.inl (by omega)) hc
        rw [List.nil_append] at g2
        subst g2
        have hs : bytesOf s = out' := by rw [← h]; exact bytesOf_strOfNums out' g3
        rw [hs]
        rw [ho] at g5
        have hones : huff_low x' m = List.replicate m 1 := by
          refine List.eq_replicate_iff.2 ⟨huff_low_length x' m, fun y hy => ?_⟩
          have := List.all_eq_true.1 g5.symm y hy
          simpa using this
        rw [hones] at g4
        have g4' : huff_bits8 b = huff_enc out' ++ List.replicate m 1 := g4
        obtain ⟨h1, h2, h3⟩ := huff_pack_all (huff_enc out') (huff_enc_01 out')
        have hlen := congrArg List.length g4'
        rw [huff_bits8_size, List.length_append, List.length_replicate] at hlen
        refine huff_bits8_inj _ _ h2 hb ?_
        rw [h1, g4']
        congr 2
        omega
theorem huff_pack_len (s : ByteArray) : (((huff_pack (huff_enc (bytesOf s)) 0 []).length : Nat) : Int) = (huff_sum (bytesOf s) + 7) / 8 := by
  obtain ⟨h1, h2, h3⟩ := huff_pack_all (huff_enc (bytesOf s)) (huff_enc_01 (bytesOf s))
  have := huff_enc_length (bytesOf s) (bytesOf_bytes s)
  rw [h3]
  omega
theorem take_drop_snoc (B : List Int) (i a : Nat) (b : Int) (bs : List Int) (h : B.drop i = b :: bs) (ha : a ≤ i) : (B.take (i + 1)).drop a = (B.take i).drop a ++ [b] := by
  have hi : i < B.length := by
    rcases Nat.lt_or_ge i B.length with h1 | h1
    · exact h1
    · rw [List.drop_eq_nil_of_le h1] at h; cases h
  rw [List.drop_eq_getElem_cons hi] at h
  injection h with h1 h2
  rw [List.take_succ_eq_append_getElem hi, List.drop_append_of_le_length (by rw [List.length_take]; omega), h1]
theorem huff_agree (B : List Int) (hB : ∀ b ∈ B, b = 0 ∨ b = 1) : ∀ (bs : List Int) (i : Nat) (x : Int) (n at_ : Nat) (o : Bool) (out : List Int), B.drop i = bs → i ≤ B.length → huff_Inv x n → at_ + n = i → o = ((B.take i).drop at_).all (· == 1) →
    (huff_go bs x n o out = none ∧ ref10_go bs i x n at_ out = some none) ∨ ∃ (x' : Int) (n' at' : Nat) (o' : Bool) (out' : List Int), huff_go bs x n o out = some (x', (n' : Int), o', out') ∧ ref10_go bs i x n at_ out = some (some (at', out')) ∧ at' + n' = B.length ∧ o' = (B.drop at').all (· == 1)
  | [], i, x, n, at_, o, out, hd, hi, hv, ha, ho => by
    have hl : B.length ≤ i := by
      have := congrArg List.length hd
      simp at this
      omega
    obtain rfl : i = B.length := by omega
    rw [List.take_of_length_le (Nat.le_refl _)] at ho
    exact .inr ⟨x, n, at_, o, out, rfl, rfl, ha, ho⟩
  | b :: bs, i, x, n, at_, o, out, hd, hi, hv, ha, ho => by
    have hi2 : i < B.length := by
      rcases Nat.lt_or_ge i B.length with h1 | h1
      · exact h1
      · rw [List.drop_eq_nil_of_le h1] at hd; cases hd
    have hb : b = 0 ∨ b = 1 := hB b (List.mem_of_mem_drop (i := i) (by rw [hd]; exact List.mem_cons_self))
    have hd2 : B.drop (i + 1) = bs := by
      rw [List.drop_eq_getElem_cons hi2] at hd
      injection hd
    have hts := take_drop_snoc B i at_ b bs hd (by omega)
    obtain ⟨n0, n1, n2⟩ := hv.next b hb
    have hp := huff_pow_le (n + 1) (by have := hv.n30; omega)
    have hn30 := hv.n30
    have e1 : x * 2 % 4294967296 + b = 2 * x + b := by have := hv.x0; omega
    have e2 : 2 * x % 4294967296 + b = 2 * x + b := by have := hv.x0; omega
    have e3 : ((n : Int) + 1) % 256 = ((n + 1 : Nat) : Int) := by omega
    rw [huff_go_cons, ref10_go, e1, e2, e3, if_pos hn30, huff_find_look (n + 1) (by omega)]
    rw [huff_find_look (n + 1) (by omega)] at n2
    cases hf : huff_find 257 (2 * x + b, ((n + 1 : Nat) : Int)) with
    | none =>
      rw [hf] at n2
      refine huff_agree B hB bs (i + 1) (2 * x + b) (n + 1) at_ (o && b == 1) out hd2 (by omega) (n2 rfl) (by omega) ?_
      rw [hts, List.all_append, ho]
      simp
    | some k =>
      simp only [Option.map_some]
      by_cases hk : k = 256
      · subst hk
        exact .inl ⟨by simp, by simp⟩
      · have hk2 : ¬ ((k : Int) = 256) := by omega
        simp only [hk, hk2, if_false]
        refine huff_agree B hB bs (i + 1) 0 0 (i + 1) true (out ++ [(k : Int) % 256]) hd2 (by omega) huff_Inv.zero (by omega) ?_
        rw [List.drop_eq_nil_of_le (by rw [List.length_take]; omega)]
        rfl
theorem huff_Get_same (l : List Int) : ∃ r, huff_Get.f l = some r ∧ mailcoachref10_Get.f l = some r := by
  unfold huff_Get.f mailcoachref10_Get.f
  by_cases hbig : (1048576 : Int) < l.length
  · rw [if_pos hbig, if_pos hbig]
    exact ⟨_, rfl, rfl⟩
  · rw [if_neg hbig, if_neg hbig]
    have hlen := huff_bits8_length l
    rcases huff_agree (huff_bits8 l) (huff_bits8_01 l) (huff_bits8 l) 0 0 0 0 true [] rfl (by omega) huff_Inv.zero rfl rfl with ⟨h1, h2⟩ | ⟨x', n', at', o', out', h1, h2, h3, h4⟩
    · have h1' : huff_go (huff_bits8 l) 0 0 true [] = none := h1
      rw [h1', h2]
      exact ⟨_, rfl, rfl⟩
    · have h1' : huff_go (huff_bits8 l) 0 0 true [] = some (x', (n' : Int), o', out') := h1
      rw [h1', h2]
      have h9 : ¬ 8 * l.length < at' := by omega
      simp only [Option.bind_some, h9, if_false]
      by_cases h8 : at' + 8 ≤ 8 * l.length
      · rw [if_pos h8, if_pos (Or.inl (by omega))]
        exact ⟨_, rfl, rfl⟩
      · rw [if_neg h8, ← h4]
        cases o' with
        | true => rw [if_neg (show ¬ (8 ≤ (n' : Int) ∨ true = false) from fun h => by rcases h with h | h; exact h8 (by omega); cases h), if_pos rfl]; exact ⟨_, rfl, rfl⟩
        | false => rw [if_pos (Or.inr rfl), if_neg (by simp)]; exact ⟨_, rfl, rfl⟩
end Go.Proofs.Ytmkmefdajbdceaa.Pure
