/- mailcoachlaw11.TextBoth: a text that fits stands as its own bytes or as the words of its symbols, and text.Get tells it from both.
   Conditions: none. -/
import Derived.Test.YtmkmefdajbdceaaPTXx24
import Derived.Test.YtmkmefdajbdceaaMTc
namespace Go.Proofs.Ytmkmefdajbdceaa.Pure
open Go.RowKit Go.Proofs.Ytmkmefdajbdceaa.PTX Go.Proofs.YtmkmefdajbdceaaW.PrintWords Go.Proofs.YtmkmefdajbdceaaW.PrintLast

theorem both_put (x a : Int) (b : List Int) (h2 : 2 ≤ a) (h8 : a ≤ 8) (x0 : 0 ≤ x) (x1 : x < 256) (hm : x % 2 ^ (a - 1).toNat = 0) (hb : b.length ≤ 65536) : ∃ pf, varint_PutPrefix.f x (a - 1) b.length = some (pf, 0) ∧ pf.length ≤ 4 := by
  obtain ⟨pf, g1, g2, g3⟩ := pput_out x (a - 1) b.length (by omega) (by omega) x0 x1 hm (by omega) (by omega)
  exact ⟨pf, g1, by rw [g2]; exact pfLen_le _ _ (by omega) (by omega) (by omega) (by omega)⟩
theorem both_get (a first : Int) (s : ByteArray) (b pf : List Int) (h2 : 2 ≤ a) (h8 : a ≤ 8) (f0 : 0 ≤ first) (f1 : first < 256) (hs : s.size ≤ 17000) (hb : Bytes b) (hbl : b.length ≤ 65536) (hpl : pf.length ≤ 4)
    (hp : varint_PutPrefix.f first (a - 1) b.length = some (pf, 0)) (way : (text_Get.flag a first = 0 ∧ b = bytesOf s) ∨ (text_Get.flag a first ≠ 0 ∧ b = huff_pack (huff_enc (bytesOf s)) 0 [])) :
    ∃ r1 r3, text_Get.f a (pf ++ b) = some (r1, s, r3, 0) := by
  have hg := (pput_get first (a - 1) b.length pf f0 f1 (by omega) hp b hb).1
  unfold text_Get.f
  rw [if_neg (by omega), hg]
  simp only [Option.bind_some]
  have hlen : (pf ++ b).length = pf.length + b.length := by simp
  rw [hlen, if_neg (by simp), if_neg (by omega), if_neg (by omega), if_neg (by omega)]
  have hcut : ((pf ++ b).take (((pf.length : Nat) : Int) + ((b.length : Nat) : Int)).toNat).drop (((pf.length : Nat) : Int)).toNat = b := by
    rw [show (((pf.length : Nat) : Int) + ((b.length : Nat) : Int)).toNat = pf.length + b.length by omega, Int.toNat_natCast, List.take_of_length_le (by simp), List.drop_left]
  rw [hcut]
  rcases way with ⟨hf, rfl⟩ | ⟨hf, rfl⟩
  · rw [if_pos hf, strOfNums_bytesOf]; exact ⟨_, _, rfl⟩
  · rw [if_neg hf, huff_Get_Put s (by omega)]
    simp only [Option.bind_some]
    rw [if_neg (by simp), if_neg (by omega)]
    exact ⟨_, _, rfl⟩
theorem TextBoth : mailcoachlaw11_TextBoth.Pure := by
  refine ⟨alive11_at, fun s a h2 h8 hs => ?_⟩
  have hp1 := pow_ge (a - 1).toNat
  have hp : (2 : Int) ^ (a.toNat - 1) % 256 = 2 ^ (a - 1).toNat ∧ (2 : Int) ^ (a - 1).toNat < 256 := by
    rcases (show a = 2 ∨ a = 3 ∨ a = 4 ∨ a = 5 ∨ a = 6 ∨ a = 7 ∨ a = 8 by omega) with h | h | h | h | h | h | h <;> subst h <;> decide
  obtain ⟨p, hpp⟩ : ∃ p : Int, 2 ^ (a - 1).toNat = p := ⟨_, rfl⟩
  rw [hpp] at hp1 hp
  have hl := huff_pack_len s
  have hby := (huff_pack_all (huff_enc (bytesOf s)) (huff_enc_01 (bytesOf s))).2.1
  have hsum := huff_sum_bd (bytesOf s) (man_bytesOf_bd s)
  rw [man_bytesOf_length] at hsum
  have hbl := man_bytesOf_length s
  have hlen : (huff_pack (huff_enc (bytesOf s)) 0 []).length ≤ 65536 := by omega
  obtain ⟨pa, p1, p2⟩ := both_put 0 a (bytesOf s) h2 h8 (by omega) (by omega) (by simp) (by omega)
  obtain ⟨pc, c1, c2⟩ := both_put p a (huff_pack (huff_enc (bytesOf s)) 0 []) h2 h8 (by omega) (by omega) (by rw [hpp, Int.emod_self]) hlen
  obtain ⟨r1, r3, g1⟩ := both_get a 0 s (bytesOf s) pa h2 h8 (by omega) (by omega) hs (bytesOf_bytes s) (by omega) p2 p1 (.inl ⟨by simp [text_Get.flag], rfl⟩)
  obtain ⟨q1, q3, g2⟩ := both_get a p s (huff_pack (huff_enc (bytesOf s)) 0 []) pc h2 h8 (by omega) (by omega) hs hby hlen c2 c1 (.inr ⟨by unfold text_Get.flag; rw [hpp, Int.ediv_self (by omega)]; decide, rfl⟩)
  refine ⟨pa, _, pc, r1, r3, q1, q3, by rw [← hbl]; exact p1, by unfold huff_Put.f; rw [if_neg (by omega)], by rw [hp.1]; exact c1, by omega, by omega, by omega, g1, g2⟩
end Go.Proofs.Ytmkmefdajbdceaa.Pure
