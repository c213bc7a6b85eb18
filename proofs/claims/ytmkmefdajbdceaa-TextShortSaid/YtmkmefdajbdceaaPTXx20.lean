-- Written by wip/mprint.py (the kit's printer, and texts of this claim's own for what it does not take). Not trusted: Lean checks it.
import Derived.Test.YtmkmefdajbdceaaPTXx0
import Derived.Test.YtmkmefdajbdceaaPTXx1
import Derived.Test.YtmkmefdajbdceaaPTXx2
import Derived.Test.YtmkmefdajbdceaaPTXx5
import Derived.Test.YtmkmefdajbdceaaPTXx6
import Derived.Test.YtmkmefdajbdceaaPTXx16
import Derived.Test.YtmkmefdajbdceaaPTXx17
import Derived.Test.YtmkmefdajbdceaaPTXx18
import Derived.Test.YtmkmefdajbdceaaPTXx19
namespace Go.Proofs.Ytmkmefdajbdceaa.PTX
open Go.RowKit Go.Proofs.YtmkmefdajbdceaaW.PrintWords Go.Proofs.YtmkmefdajbdceaaW.PrintLast Go.Proofs.YtmkmefdajbdceaaW.PrintMore
attribute [local go_sem] max2_int min2_int max_two min_two max_three min_three max_four min_four   -- for this text's walks alone
set_option linter.unusedVariables false
set_option linter.unusedSimpArgs false

/-! ### huff_Len: function 35, by hand -/

/-! ### text_plain: function 53, by hand -/
theorem text_plain.calls (w : World) : Calls Try.prog 53 #[] w fun e w' => e = .returned (.func (.func 57) #[] #[]) ∧ w' = w := by
  go_enter Try.func53, Try.ntmps53
  go_wp2
  go_ret
  exact ⟨rfl, rfl⟩
theorem text_plain1.calls (s : ByteArray) (w : World) (hs : s.size ≤ 140737488351232) :
    Calls Try.prog 57 #[.string s] w fun e w' => ∃ A c, e = .returned (.tuple #[.slice A s.size c, .int .i64 0]) ∧ ReadsInt w' .u8 A s.size (bytesOf s) ∧ Below w.heap.size w w' := by
  have kb := fun W => print_bytes (P := Try.prog) 9 22 5 Try.underlying9 Try.underlying22 Try.underlying5 s W
  go_enter Try.func57, Try.ntmps57
  go_wp2
  go_ret2
  exact ⟨_, _, rfl, bytes_reads w _ s (by omega), bytes_below (Below.refl _ _) (Nat.le_refl _) _ _⟩
/-- What text.Put makes, behind what stands in the first byte. -/
def text_Put.out (first bits : Int) (b : List Int) : List Int :=
  (if (b.length : Int) < varint_GetPrefix.M (bits - 1) then [first + b.length] else (first + varint_GetPrefix.M (bits - 1)) :: varint_sevens.L 9 (b.length - varint_GetPrefix.M (bits - 1))) ++ b
def text_Put.f (a0 a1 : Int) (a2 : ByteArray) : Option (List Int × Int) :=
  if a1 < 2 ∨ 8 < a1 then some ([], 1)
  else if a0 < 0 ∨ 256 ≤ a0 then none
  else if a0 % 2 ^ a1.toNat ≠ 0 then some ([], 1)
  else if 65536 < a2.size then some ([], 3)
  else if (huff_sum (bytesOf a2) + 7) / 8 < a2.size then some (text_Put.out (a0 + 2 ^ (a1 - 1).toNat) a1 (huff_pack (huff_enc (bytesOf a2)) 0 []), 0)
  else some (text_Put.out a0 a1 (bytesOf a2), 0)
theorem text_Put.arith (a1 a0 : Int) (h2 : 2 ≤ a1) (h8 : a1 ≤ 8) (x0 : 0 ≤ a0) (x1 : a0 < 256) :
    bits .and .u8 a0 ((2 ^ a1.toNat - 1) % 256) = a0 % 2 ^ a1.toNat ∧ (a0 % 2 ^ a1.toNat = 0 → bits .or .u8 a0 (2 ^ (a1 - 1).toNat % 256) = a0 + 2 ^ (a1 - 1).toNat ∧ a0 + 2 ^ (a1 - 1).toNat < 256 ∧ (a0 + 2 ^ (a1 - 1).toNat) % 2 ^ (a1 - 1).toNat = 0 ∧ a0 % 2 ^ (a1 - 1).toNat = 0) := by
  obtain ⟨n, rfl⟩ := Int.eq_ofNat_of_zero_le x0
  have hn : n < 256 := by omega
  have key : (List.range 256).all (fun n => (List.range 9).all fun b => decide (b < 2) || (decide (bits .and .u8 (n : Int) ((2 ^ b - 1) % 256) = (n : Int) % 2 ^ b) && (decide ((n : Int) % 2 ^ b ≠ 0) || (decide (bits .or .u8 (n : Int) (2 ^ (b - 1) % 256) = (n : Int) + 2 ^ (b - 1)) && decide ((n : Int) + 2 ^ (b - 1) < 256) && decide (((n : Int) + 2 ^ (b - 1)) % 2 ^ (b - 1) = 0) && decide ((n : Int) % 2 ^ (b - 1) = 0))))) = true := by decide +kernel
  obtain ⟨b, rfl⟩ := Int.eq_ofNat_of_zero_le (show 0 ≤ a1 by omega)
  have h := List.all_eq_true.1 (List.all_eq_true.1 key n (List.mem_range.2 hn)) b (List.mem_range.2 (by omega))
  rw [show ((b : Int) - 1).toNat = b - 1 by omega, Int.toNat_natCast]
  simp only [Bool.or_eq_true, Bool.and_eq_true, decide_eq_true_eq] at h
  rcases h with h | ⟨h1, h3⟩
  · omega
  · refine ⟨h1, fun h0 => ?_⟩
    rcases h3 with h3 | ⟨⟨⟨g1, g2⟩, g3⟩, g4⟩
    · exact absurd h0 h3
    · exact ⟨g1, g2, g3, g4⟩
theorem text_Put.prefix (first bits : Int) (n : Nat) (h1 : 2 ≤ bits) (h8 : bits ≤ 8) (f0 : 0 ≤ first) (f1 : first < 256) (hm : first % 2 ^ (bits - 1).toNat = 0) (hn : (n : Int) ≤ 4611686018427387903) :
    varint_PutPrefix.f first (bits - 1) n = some (if (n : Int) < varint_GetPrefix.M (bits - 1) then [first + n] else (first + varint_GetPrefix.M (bits - 1)) :: varint_sevens.L 9 (n - varint_GetPrefix.M (bits - 1)), 0) := by
  unfold varint_PutPrefix.f
  rw [if_neg (by omega), if_neg (by omega), if_neg (by rw [hm]; simp)]
  by_cases h : (n : Int) < varint_GetPrefix.M (bits - 1)
  · rw [if_pos h, if_pos h]
  · rw [if_neg h, if_neg h]
theorem text_Put.prefix_length (first bits : Int) (n : Nat) : (if (n : Int) < varint_GetPrefix.M (bits - 1) then [first + n] else (first + varint_GetPrefix.M (bits - 1)) :: varint_sevens.L 9 (n - varint_GetPrefix.M (bits - 1))).length ≤ 12 := by
  split
  · simp
  · have := varint_sevens.L_length 9 (n - varint_GetPrefix.M (bits - 1))
    simp only [List.length_cons]
    omega
set_option maxHeartbeats 1600000 in
set_option maxRecDepth 100000 in
theorem text_Put.bad (a0 a1 : Int) (a2 : ByteArray) (w : World) (h : a1 < 2 ∨ 8 < a1) :
    Calls Try.prog 41 #[.int .u8 a0, .int .i64 a1, .string a2] w fun e w' => e = .returned (.tuple #[.slice none 0 0, .int .i64 1]) ∧ Below w.heap.size w w' := by
  have HW := Aside0.mk (text_wide.n a1 h)
  clear h
  go_enter Try.func41, Try.ntmps41
  go_wp2_with (go_at_call 51; refine (text_wide.calls a1 false _ HW.out).mono ?_; rintro e w1 ⟨rfl, hd⟩; have HB1 := Aside0.mk hd.below; clear hd)
  go_ret2
  exact ⟨rfl, HB1.out⟩
set_option maxHeartbeats 1600000 in
set_option maxRecDepth 100000 in
theorem text_Put.set (a0 a1 : Int) (a2 : ByteArray) (w : World) (h2 : 2 ≤ a1) (h8 : a1 ≤ 8) (x0 : 0 ≤ a0) (x1 : a0 < 256) (hs : a0 % 2 ^ a1.toNat ≠ 0 ∨ 65536 < a2.size) :
    Calls Try.prog 41 #[.int .u8 a0, .int .i64 a1, .string a2] w fun e w' => e = .returned (.tuple #[.slice none 0 0, .int .i64 (if a0 % 2 ^ a1.toNat ≠ 0 then 1 else 3)]) ∧ Below w.heap.size w w' := by
  have HW := Aside0.mk (text_wide.t a1 h2 h8)
  have HA := Aside0.mk (text_Put.arith a1 a0 h2 h8 x0 x1)
  have hand := HA.out.1
  obtain ⟨K, hK⟩ : ∃ K, a0 % 2 ^ a1.toNat = K := ⟨_, rfl⟩
  rw [hK] at hand hs ⊢
  go_enter Try.func41, Try.ntmps41
  by_cases hk : K = 0
  · subst hk
    have hl : (65536 : Int) < a2.size := by omega
    go_wp2_with (go_at_call 51; refine (text_wide.calls a1 true _ HW.out).mono ?_; rintro e w1 ⟨rfl, hd⟩; have HB1 := Aside0.mk hd.below; clear hd)
    go_ret2
    exact ⟨rfl, HB1.out⟩
  · have hk1 : (K != 0) = true := bne_iff_ne.2 hk
    rw [if_pos hk]
    clear hs hk
    go_wp2_with (go_at_call 51; refine (text_wide.calls a1 true _ HW.out).mono ?_; rintro e w1 ⟨rfl, hd⟩; have HB1 := Aside0.mk hd.below; clear hd)
    go_ret2
    exact ⟨rfl, HB1.out⟩
theorem text_Put.len (s : ByteArray) (h : s.size ≤ 65536) : huff_Len.f s = some ((huff_sum (bytesOf s) + 7) / 8) := by unfold huff_Len.f; rw [if_pos (by omega)]
theorem man_reads_below {w w1 : World} {k : IntKind} {A : Option Addr} {n : Nat} {xs : List Int} (h : ReadsInt w k A n xs) (hb : Below w.heap.size w w1) (hlt : ∀ ad, A = some ad → 0 < n → ad.block < w.heap.size) : ReadsInt w1 k A n xs :=
  ⟨h.1, h.2.1, fun hp => by
    obtain ⟨ad, e, hc⟩ := h.2.2 hp
    refine ⟨ad, e, fun j hj => ?_⟩
    refine Eq.trans ?_ (hc j hj)
    refine hb.cell ?_
    have : (ad.add j).block = ad.block := by unfold Addr.add; split <;> rfl
    rw [this]
    exact hlt ad e hp⟩
set_option maxHeartbeats 1600000 in
set_option maxRecDepth 100000 in
theorem text_Put.few (a0 a1 : Int) (a2 : ByteArray) (w : World) (h2 : 2 ≤ a1) (h8 : a1 ≤ 8) (x0 : 0 ≤ a0) (x1 : a0 < 256) (hs : a0 % 2 ^ a1.toNat = 0) (hsz : a2.size ≤ 65536) (hlt : (huff_sum (bytesOf a2) + 7) / 8 < a2.size) :
    Calls Try.prog 41 #[.int .u8 a0, .int .i64 a1, .string a2] w fun e w' => ∃ v, e = .returned (.tuple #[v, .int .i64 0]) ∧ Kd.R (Kd.int .u8) 5 w' w.heap.size (fun _ => True) v (text_Put.out (a0 + 2 ^ (a1 - 1).toNat) a1 (huff_pack (huff_enc (bytesOf a2)) 0 [])) ∧ Below w.heap.size w w' := by
  have HW := Aside0.mk (text_wide.t a1 h2 h8)
  obtain ⟨hand, hA⟩ := text_Put.arith a1 a0 h2 h8 x0 x1
  obtain ⟨hor, hF1, hF2, hF3⟩ := hA hs
  rw [hs] at hand
  have hb := huff_sum_bd (bytesOf a2) (man_bytesOf_bd a2)
  have HLN := Aside0.mk (text_Put.len a2 hsz)
  have HPK := Aside0.mk (huff_pack_length (huff_enc (bytesOf a2)) 0 [] rfl)
  have HEL := Aside0.mk (huff_enc_length_le (bytesOf a2) (man_bytesOf_bd a2))
  have hpl : (huff_pack (huff_enc (bytesOf a2)) 0 []).length ≤ 300000 := by
    have h1 := HPK.out
    have h3 := HEL.out
    rw [man_bytesOf_length] at h3
    omega
  have HPUT := Aside0.mk (show huff_Put.f a2 = some (huff_pack (huff_enc (bytesOf a2)) 0 [], 0) by unfold huff_Put.f; rw [if_neg (by omega)])
  obtain ⟨L, hL⟩ : ∃ L, (huff_sum (bytesOf a2) + 7) / 8 = L := ⟨_, rfl⟩
  rw [hL] at hlt
  rw [hL] at HLN
  obtain ⟨F, hF⟩ : ∃ F, a0 + 2 ^ (a1 - 1).toNat = F := ⟨_, rfl⟩
  rw [hF] at hor hF1 hF2 ⊢
  have hor2 : bits .or .u8 a0 (2 ^ (a1.toNat - 1) % 256) = F := by rw [show a1.toNat - 1 = (a1 - 1).toNat by omega]; exact hor
  clear hor
  have hF0 : 0 ≤ F := by rw [← hF]; have hp : (0 : Int) < 2 ^ (a1 - 1).toNat := Int.pow_pos (by decide); omega
  obtain ⟨pk, hpk⟩ : ∃ pk, huff_pack (huff_enc (bytesOf a2)) 0 [] = pk := ⟨_, rfl⟩
  rw [hpk] at HPUT hpl ⊢
  have HPF := Aside0.mk (text_Put.prefix F a1 pk.length h2 h8 hF0 hF1 hF2 (by omega))
  have HPN := Aside0.mk (text_Put.prefix_length F a1 pk.length)
  rw [text_Put.out]
  obtain ⟨pf, hpf⟩ : ∃ pf, (if (pk.length : Int) < varint_GetPrefix.M (a1 - 1) then [F + pk.length] else (F + varint_GetPrefix.M (a1 - 1)) :: varint_sevens.L 9 (pk.length - varint_GetPrefix.M (a1 - 1))) = pf := ⟨_, rfl⟩
  rw [hpf] at HPF HPN ⊢
  have hl0 : (L < (a2.size : Int)) := hlt
  have hdl : decide (L < (a2.size : Int)) = true := decide_eq_true hlt
  clear hs hA hb hL hF hpk hpf hF2 hF3 HPK HEL
  go_enter Try.func41, Try.ntmps41
  go_wp2_with (first | (go_at_call 51; refine (text_wide.calls a1 true _ HW.out).mono ?_; rintro e w1 ⟨rfl, hd⟩; have HB1 := Aside0.mk hd.below; clear hd) | (go_at_call 53; refine (text_plain.calls _).mono ?_; rintro e w2 ⟨rfl, rfl⟩) | (go_at_call 35; refine (huff_Len.calls a2 L _ HLN.out).mono ?_; rintro e w3 ⟨rfl, hd⟩; have HB3 := Aside0.mk (below_step HB1.out hd); clear hd) | (go_at_call 34; refine (huff_Put.calls a2 pk 0 _ HPUT.out).mono ?_; rintro e w4 ⟨v4, rfl, hr4, hd⟩; have HB4 := Aside0.mk (below_step HB3.out hd); obtain ⟨A4, c4, rfl⟩ := Kd.R_slice hr4; have HR4 := Aside0.mk (own_reads' (k := .u8) (show w4.ownsRow w3.heap.size 5 1 (.slice A4 pk.length c4) pk.length (nums .u8 pk) from Kd.own_of_R hr4)); clear hd hr4) | (go_at_call 31; refine (varint_PutPrefix.calls F (a1 - 1) pk.length pf 0 _ HPF.out).mono ?_; rintro e w5 ⟨v5, rfl, hr5, hd⟩; have HB5 := Aside0.mk (below_step HB4.out hd); have HRD := Aside0.mk (ReadsInt.below HR4.out hd); have HR5 := Aside0.mk (own_weaken (Kd.own_of_R hr5) HB4.out.size); clear hd hr5) | (at_builtin; refine print_append_row (w0 := w) w.heap.size rfl (.tmp 61) (.tmp 62) 22 5 .u8 1 rfl Try.underlying22 man_info_u8 (by decide) v5 pf pk A4 pk.length c4 rfl rfl HR5.out HRD.out HB5.out HB5.out.size (by have := HPN.out; omega) ?_; intro v6 w6 ho6 hb6 hg6 hat6; have HO6 := Aside0.mk ho6; have HB6 := Aside0.mk hb6; clear ho6 hb6 hg6 hat6))
  go_ret2
  exact ⟨_, rfl, man_R_of_own HO6.out, HB6.out⟩
set_option maxHeartbeats 1600000 in
set_option maxRecDepth 100000 in
theorem text_Put.plain (a0 a1 : Int) (a2 : ByteArray) (w : World) (h2 : 2 ≤ a1) (h8 : a1 ≤ 8) (x0 : 0 ≤ a0) (x1 : a0 < 256) (hs : a0 % 2 ^ a1.toNat = 0) (hsz : a2.size ≤ 65536) (hlt : ¬ (huff_sum (bytesOf a2) + 7) / 8 < a2.size) :
    Calls Try.prog 41 #[.int .u8 a0, .int .i64 a1, .string a2] w fun e w' => ∃ v, e = .returned (.tuple #[v, .int .i64 0]) ∧ Kd.R (Kd.int .u8) 5 w' w.heap.size (fun _ => True) v (text_Put.out a0 a1 (bytesOf a2)) ∧ Below w.heap.size w w' := by
  have HW := Aside0.mk (text_wide.t a1 h2 h8)
  obtain ⟨hand, hA⟩ := text_Put.arith a1 a0 h2 h8 x0 x1
  obtain ⟨hor, hF1, hF2, hF3⟩ := hA hs
  rw [hs] at hand
  have hb := huff_sum_bd (bytesOf a2) (man_bytesOf_bd a2)
  have HLN := Aside0.mk (text_Put.len a2 hsz)
  obtain ⟨L, hL⟩ : ∃ L, (huff_sum (bytesOf a2) + 7) / 8 = L := ⟨_, rfl⟩
  rw [hL] at hlt
  rw [hL] at HLN
  have HPF := Aside0.mk (text_Put.prefix a0 a1 a2.size h2 h8 x0 x1 hF3 (by omega))
  have HPN := Aside0.mk (text_Put.prefix_length a0 a1 a2.size)
  rw [text_Put.out, man_bytesOf_length]
  obtain ⟨pf, hpf⟩ : ∃ pf, (if (a2.size : Int) < varint_GetPrefix.M (a1 - 1) then [a0 + a2.size] else (a0 + varint_GetPrefix.M (a1 - 1)) :: varint_sevens.L 9 (a2.size - varint_GetPrefix.M (a1 - 1))) = pf := ⟨_, rfl⟩
  rw [hpf] at HPF HPN ⊢
  have hdl : decide (L < (a2.size : Int)) = false := decide_eq_false hlt
  have hge : (a2.size : Int) ≤ L := by omega
  clear hs hA hb hL hpf hF2 hF3 hF1 hor hlt
  go_enter Try.func41, Try.ntmps41
  go_wp2_with (first | (go_at_call 51; refine (text_wide.calls a1 true _ HW.out).mono ?_; rintro e w1 ⟨rfl, hd⟩; have HB1 := Aside0.mk hd.below; clear hd) | (go_at_call 53; refine (text_plain.calls _).mono ?_; rintro e w2 ⟨rfl, rfl⟩) | (go_at_call 35; refine (huff_Len.calls a2 L _ HLN.out).mono ?_; rintro e w3 ⟨rfl, hd⟩; have HB3 := Aside0.mk (below_step HB1.out hd); clear hd) | (go_at_call 57; refine (text_plain1.calls a2 _ (by omega)).mono ?_; rintro e w4 ⟨A4, c4, rfl, hr4, hd⟩; have HB4 := Aside0.mk (below_step HB3.out hd); have HR4 := Aside0.mk hr4; clear hd hr4) | (go_at_call 31; refine (varint_PutPrefix.calls a0 (a1 - 1) a2.size pf 0 _ HPF.out).mono ?_; rintro e w5 ⟨v5, rfl, hr5, hd⟩; have HB5 := Aside0.mk (below_step HB4.out hd); have HRD := Aside0.mk (ReadsInt.below HR4.out hd); have HR5 := Aside0.mk (own_weaken (Kd.own_of_R hr5) HB4.out.size); clear hd hr5) | (at_builtin; refine print_append_row (w0 := w) w.heap.size rfl (.tmp 61) (.tmp 62) 22 5 .u8 1 rfl Try.underlying22 man_info_u8 (by decide) v5 pf (bytesOf a2) A4 a2.size c4 rfl rfl HR5.out HRD.out HB5.out HB5.out.size (by have := HPN.out; omega) ?_; intro v6 w6 ho6 hb6 hg6 hat6; have HO6 := Aside0.mk ho6; have HB6 := Aside0.mk hb6; clear ho6 hb6 hg6 hat6))
  go_ret2
  exact ⟨_, rfl, man_R_of_own HO6.out, HB6.out⟩
theorem text_Put.calls (a0 a1 : Int) (a2 : ByteArray) (r1 : List Int) (r2 : Int) (w : World) (h : text_Put.f a0 a1 a2 = some (r1, r2)) :
    Calls Try.prog 41 #[.int .u8 a0, .int .i64 a1, .string a2] w fun e w' => ∃ v0_ : Value, e = .returned (.tuple #[v0_, .int .i64 r2]) ∧ Kd.R (Kd.int .u8) 5 w' w.heap.size (fun _ => True) v0_ r1 ∧ Below w.heap.size w w' := by
  unfold text_Put.f at h
  by_cases hb : a1 < 2 ∨ 8 < a1
  · rw [if_pos hb] at h
    simp only [Option.some.injEq, Prod.mk.injEq] at h
    obtain ⟨rfl, rfl⟩ := h
    exact (text_Put.bad a0 a1 a2 w hb).mono fun e w' ⟨he, hB⟩ => ⟨_, he, Kd.R_nil _ _ _ _ _, hB⟩
  · rw [if_neg hb] at h
    by_cases hr : a0 < 0 ∨ 256 ≤ a0
    · rw [if_pos hr] at h
      cases h
    · rw [if_neg hr] at h
      by_cases hm : a0 % 2 ^ a1.toNat ≠ 0
      · rw [if_pos hm] at h
        simp only [Option.some.injEq, Prod.mk.injEq] at h
        obtain ⟨rfl, rfl⟩ := h
        have hc := text_Put.set a0 a1 a2 w (by omega) (by omega) (by omega) (by omega) (.inl hm)
        rw [if_pos hm] at hc
        exact hc.mono fun e w' ⟨he, hB⟩ => ⟨_, he, Kd.R_nil _ _ _ _ _, hB⟩
      · rw [if_neg hm] at h
        by_cases hz : 65536 < a2.size
        · rw [if_pos hz] at h
          simp only [Option.some.injEq, Prod.mk.injEq] at h
          obtain ⟨rfl, rfl⟩ := h
          have hc := text_Put.set a0 a1 a2 w (by omega) (by omega) (by omega) (by omega) (.inr hz)
          rw [if_neg hm] at hc
          exact hc.mono fun e w' ⟨he, hB⟩ => ⟨_, he, Kd.R_nil _ _ _ _ _, hB⟩
        · rw [if_neg hz] at h
          have hm0 : a0 % 2 ^ a1.toNat = 0 := by omega
          by_cases hl : (huff_sum (bytesOf a2) + 7) / 8 < a2.size
          · rw [if_pos hl] at h
            simp only [Option.some.injEq, Prod.mk.injEq] at h
            obtain ⟨rfl, rfl⟩ := h
            exact text_Put.few a0 a1 a2 w (by omega) (by omega) (by omega) (by omega) hm0 (by omega) hl
          · rw [if_neg hl] at h
            simp only [Option.some.injEq, Prod.mk.injEq] at h
            obtain ⟨rfl, rfl⟩ := h
            exact text_Put.plain a0 a1 a2 w (by omega) (by omega) (by omega) (by omega) hm0 (by omega) hl


/-! ### text_Put: function 41, by hand -/

end Go.Proofs.Ytmkmefdajbdceaa.PTX
