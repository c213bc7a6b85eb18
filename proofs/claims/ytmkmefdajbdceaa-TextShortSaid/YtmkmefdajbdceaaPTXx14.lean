-- Written by wip/mprint.py (the kit's printer, and texts of this claim's own for what it does not take). Not trusted: Lean checks it.
import Derived.Test.YtmkmefdajbdceaaPTXx0
import Derived.Test.YtmkmefdajbdceaaPTXx1
import Derived.Test.YtmkmefdajbdceaaPTXx2
import Derived.Test.YtmkmefdajbdceaaPTXx5
import Derived.Test.YtmkmefdajbdceaaPTXx6
import Derived.Test.YtmkmefdajbdceaaPTXx8
import Derived.Test.YtmkmefdajbdceaaPTXx12
import Derived.Test.YtmkmefdajbdceaaPTXx13
namespace Go.Proofs.Ytmkmefdajbdceaa.PTX
open Go.RowKit Go.Proofs.YtmkmefdajbdceaaW.PrintWords Go.Proofs.YtmkmefdajbdceaaW.PrintLast Go.Proofs.YtmkmefdajbdceaaW.PrintMore
attribute [local go_sem] max2_int min2_int max_two min_two max_three min_three max_four min_four   -- for this text's walks alone
set_option linter.unusedVariables false
set_option linter.unusedSimpArgs false

/-! ### mailcoachref11_Get: function 39, by hand -/
theorem mailcoachref11_two.at (a : Int) (h0 : 0 ≤ a) (h8 : a ≤ 8) : mailcoachref11_two.f 20 a = some (2 ^ a.toNat) := by
  obtain ⟨n, rfl⟩ := Int.eq_ofNat_of_zero_le h0
  have h : (List.range 9).all (fun n => mailcoachref11_two.f 20 (n : Int) == some (2 ^ n)) = true := by decide +kernel
  have := List.all_eq_true.1 h n (List.mem_range.2 (by omega))
  rw [Int.toNat_natCast]
  simpa using this
theorem mailcoachref11_two.bd (j : Nat) (h : j ≤ 7) : (1 : Int) ≤ 2 ^ j ∧ (2 : Int) ^ j ≤ 128 := by
  rcases (show j = 0 ∨ j = 1 ∨ j = 2 ∨ j = 3 ∨ j = 4 ∨ j = 5 ∨ j = 6 ∨ j = 7 by omega) with rfl | rfl | rfl | rfl | rfl | rfl | rfl | rfl <;> decide
section
set_option maxHeartbeats 1600000
set_option maxRecDepth 100000
theorem mailcoachref11_Get.bad (a0 : Int) (A1 : Option Addr) (c1 : Nat) (l1 : List Int) (w : World) (h : a0 < 2 ∨ 8 < a0) :
    Calls Try.prog 39 #[.int .i64 a0, .slice A1 l1.length c1] w fun e w' => e = .returned (.tuple #[.int .u8 0, .string ⟨#[]⟩, .int .i64 0, .int .i64 1]) ∧ Below w.heap.size w w' := by
  by_cases h2 : a0 < 2
  · go_enter Try.func39, Try.ntmps39
    go_wp2
    exact bodyPost_ret (v := .tuple #[.int .u8 0, .string ⟨#[]⟩, .int .i64 0, .int .i64 1]) (by simp [results, Try.results39, go_sem]) rfl ⟨rfl, Below.refl _ _⟩
  · have h8 : 8 < a0 := by omega
    go_enter Try.func39, Try.ntmps39
    go_wp2
    exact bodyPost_ret (v := .tuple #[.int .u8 0, .string ⟨#[]⟩, .int .i64 0, .int .i64 1]) (by simp [results, Try.results39, go_sem]) rfl ⟨rfl, Below.refl _ _⟩
theorem mailcoachref11_Get.err (a0 : Int) (A1 : Option Addr) (c1 : Nat) (l1 : List Int) (x n k e : Int) (w : World) (hr1 : Kd.C (Kd.int .u8) w A1 l1.length l1) (hc1 : l1.length ≤ c1) (h2 : 2 ≤ a0) (h8 : a0 ≤ 8) (h : varint_GetPrefix.f (a0 - 1) l1 = some (x, n, k, e)) (he : e ≠ 0) :
    Calls Try.prog 39 #[.int .i64 a0, .slice A1 l1.length c1] w fun e' w' => e' = .returned (.tuple #[.int .u8 0, .string ⟨#[]⟩, .int .i64 0, .int .i64 e]) ∧ Below w.heap.size w w' := by
  have hw1 : decide (a0 < 2) = false := decide_eq_false (by omega)
  have hw2 : decide (8 < a0) = false := decide_eq_false (by omega)
  have HR1 := Aside0.mk hr1
  have HC1 := Aside0.mk hc1
  have HG := Aside0.mk h
  have he1 : (e != 0) = true := bne_iff_ne.2 he
  clear hr1 hc1 h he
  go_enter Try.func39, Try.ntmps39
  go_wp2_with (first | (go_at_call 26; refine (mailcoachref01_GetPrefix.calls (a0 - 1) A1 c1 l1 x n k e _ HR1.out HC1.out HG.out).mono ?_; rintro e w2 ⟨rfl, hd⟩; have HB2 := Aside0.mk hd.below; clear hd))
  exact bodyPost_ret (v := .tuple #[.int .u8 0, .string ⟨#[]⟩, .int .i64 0, .int .i64 e]) (by simp [results, Try.results39, go_sem]) rfl ⟨rfl, HB2.out⟩
theorem mailcoachref11_Get.great (a0 : Int) (A1 : Option Addr) (c1 : Nat) (l1 : List Int) (x n k : Int) (w : World) (hr1 : Kd.C (Kd.int .u8) w A1 l1.length l1) (hc1 : l1.length ≤ c1) (h2 : 2 ≤ a0) (h8 : a0 ≤ 8) (h : varint_GetPrefix.f (a0 - 1) l1 = some (x, n, k, 0)) (hn : 65536 < n) :
    Calls Try.prog 39 #[.int .i64 a0, .slice A1 l1.length c1] w fun e' w' => e' = .returned (.tuple #[.int .u8 0, .string ⟨#[]⟩, .int .i64 0, .int .i64 3]) ∧ Below w.heap.size w w' := by
  have hw1 : decide (a0 < 2) = false := decide_eq_false (by omega)
  have hw2 : decide (8 < a0) = false := decide_eq_false (by omega)
  have HR1 := Aside0.mk hr1
  have HC1 := Aside0.mk hc1
  have HG := Aside0.mk h
  have he1 : decide (65536 < n) = true := decide_eq_true hn
  clear hr1 hc1 h
  go_enter Try.func39, Try.ntmps39
  go_wp2_with (first | (go_at_call 26; refine (mailcoachref01_GetPrefix.calls (a0 - 1) A1 c1 l1 x n k 0 _ HR1.out HC1.out HG.out).mono ?_; rintro e w2 ⟨rfl, hd⟩; have HB2 := Aside0.mk hd.below; clear hd))
  exact bodyPost_ret (v := .tuple #[.int .u8 0, .string ⟨#[]⟩, .int .i64 0, .int .i64 3]) (by simp [results, Try.results39, go_sem]) rfl ⟨rfl, HB2.out⟩
theorem mailcoachref11_Get.short (a0 : Int) (A1 : Option Addr) (c1 : Nat) (l1 : List Int) (x n k : Int) (w : World) (hr1 : Kd.C (Kd.int .u8) w A1 l1.length l1) (hc1 : l1.length ≤ c1) (h2 : 2 ≤ a0) (h8 : a0 ≤ 8) (h : varint_GetPrefix.f (a0 - 1) l1 = some (x, n, k, 0)) (hn : n ≤ 65536) (n0 : 0 ≤ n) (k0 : 0 ≤ k) (k1 : k ≤ l1.length) (hl : l1.length ≤ 140737488355328) (hs : (l1.length : Int) - k < n) :
    Calls Try.prog 39 #[.int .i64 a0, .slice A1 l1.length c1] w fun e' w' => e' = .returned (.tuple #[.int .u8 0, .string ⟨#[]⟩, .int .i64 0, .int .i64 4]) ∧ Below w.heap.size w w' := by
  have hw1 : decide (a0 < 2) = false := decide_eq_false (by omega)
  have hw2 : decide (8 < a0) = false := decide_eq_false (by omega)
  have HR1 := Aside0.mk hr1
  have HC1 := Aside0.mk hc1
  have HG := Aside0.mk h
  have he1 : decide (65536 < n) = false := decide_eq_false (by omega)
  have he2 : decide ((l1.length : Int) - k < n) = true := decide_eq_true hs
  clear hr1 hc1 h
  go_enter Try.func39, Try.ntmps39
  go_wp2_with (first | (go_at_call 26; refine (mailcoachref01_GetPrefix.calls (a0 - 1) A1 c1 l1 x n k 0 _ HR1.out HC1.out HG.out).mono ?_; rintro e w2 ⟨rfl, hd⟩; have HB2 := Aside0.mk hd.below; clear hd))
  exact bodyPost_ret (v := .tuple #[.int .u8 0, .string ⟨#[]⟩, .int .i64 0, .int .i64 4]) (by simp [results, Try.results39, go_sem]) rfl ⟨rfl, HB2.out⟩
theorem mailcoachref11_Get.plain (a0 : Int) (A1 : Option Addr) (c1 : Nat) (l1 : List Int) (x n k : Int) (w : World) (hr1 : Kd.C (Kd.int .u8) w A1 l1.length l1) (hc1 : l1.length ≤ c1) (h2 : 2 ≤ a0) (h8 : a0 ≤ 8) (h : varint_GetPrefix.f (a0 - 1) l1 = some (x, n, k, 0)) (hn : n ≤ 65536) (n0 : 0 ≤ n) (k0 : 0 ≤ k) (k1 : k ≤ l1.length) (x0 : 0 ≤ x) (x1 : x < 256) (hl : l1.length ≤ 140737488355328) (hs : n ≤ (l1.length : Int) - k) (hf : text_Get.flag a0 x = 0) :
    Calls Try.prog 39 #[.int .i64 a0, .slice A1 l1.length c1] w fun e' w' => e' = .returned (.tuple #[.int .u8 x, .string (strOfNums ((l1.take (k + n).toNat).drop k.toNat)), .int .i64 (k + n), .int .i64 0]) ∧ Below w.heap.size w w' := by
  have hw1 : decide (a0 < 2) = false := decide_eq_false (by omega)
  have hw2 : decide (8 < a0) = false := decide_eq_false (by omega)
  have HTW := Aside0.mk (mailcoachref11_two.at (a0 - 1) (by omega) (by omega))
  obtain ⟨hp1, hp2⟩ := mailcoachref11_two.bd (a0 - 1).toNat (by omega)
  unfold text_Get.flag at hf
  obtain ⟨p, hp⟩ : ∃ p : Int, 2 ^ (a0 - 1).toNat = p := ⟨_, rfl⟩
  rw [hp] at hp1 hp2 HTW hf
  have hfl : ((x / p).tmod 2 == 1) = false := beq_eq_false_iff_ne.2 (by rw [Int.tmod_eq_emod_of_nonneg (Int.ediv_nonneg x0 (by omega))]; omega)
  clear hp
  obtain ⟨i0, hi0, _, hsz0, _⟩ := info_parts man_info_u8
  obtain ⟨A2, hcut, hA, hC⟩ := print_mid_of (P := Try.prog) (Value.int .u8) 0 22 5 .i64 .i64 Try.underlying22 hi0 hsz0 A1 c1 l1 k (k + n) k0 (by omega) (by omega) hc1
  have HR2 := Aside0.mk (hA w (Kd.reads_of_C hr1))
  have hlen : ((l1.take (k + n).toNat).drop k.toNat).length ≤ 65536 := by rw [List.length_drop, List.length_take]; omega
  obtain ⟨b, hb⟩ : ∃ b, (l1.take (k + n).toNat).drop k.toNat = b := ⟨_, rfl⟩
  rw [hb] at hcut HR2 hC hlen ⊢
  have HR1 := Aside0.mk hr1
  have HC1 := Aside0.mk hc1
  have HG := Aside0.mk h
  have he1 : decide (65536 < n) = false := decide_eq_false (by omega)
  have he2 : decide ((l1.length : Int) - k < n) = false := decide_eq_false (by omega)
  clear hr1 hc1 h hf hA hC hi0 hsz0 hb
  go_enter Try.func39, Try.ntmps39
  go_upto_region 11 with (first | (go_at_call 26; refine (mailcoachref01_GetPrefix.calls (a0 - 1) A1 c1 l1 x n k 0 _ HR1.out HC1.out HG.out).mono ?_; rintro e w2 ⟨rfl, hd⟩; have HB2 := Aside0.mk hd.below; clear hd))
  have hconv := fun c : Nat => string_of_reads (c := c) (P := Try.prog) (src := 22) (dst := 9) Try.underlying22 Try.underlying5 Try.underlying9 (ReadsInt.below (show ReadsInt w .u8 A2 b.length b from HR2.out) HB2.out)
  have hsz : decide (65536 < ((strOfNums b).size : Int)) = false := decide_eq_false (by rw [man_strOfNums_size]; omega)
  go_upto_region 12 with (fail)
  clear hconv hcut
  go_wp2_with (go_at_call 52; refine (mailcoachref11_two.calls 20 (a0 - 1) p _ HTW.out).mono ?_; rintro e w3 ⟨rfl, hd⟩; have HB3 := Aside0.mk (below_step HB2.out hd.below); clear hd)
  exact bodyPost_ret (v := .tuple #[.int .u8 x, .string (strOfNums b), .int .i64 (k + n), .int .i64 0]) (by simp [results, Try.results39, go_sem]) rfl ⟨rfl, HB3.out⟩
theorem mailcoachref11_Get.huff (a0 : Int) (A1 : Option Addr) (c1 : Nat) (l1 : List Int) (x n k : Int) (s : ByteArray) (e2 : Int) (w : World) (hr1 : Kd.C (Kd.int .u8) w A1 l1.length l1) (hc1 : l1.length ≤ c1) (h2 : 2 ≤ a0) (h8 : a0 ≤ 8) (h : varint_GetPrefix.f (a0 - 1) l1 = some (x, n, k, 0)) (hn : n ≤ 65536) (n0 : 0 ≤ n) (k0 : 0 ≤ k) (k1 : k ≤ l1.length) (x0 : 0 ≤ x) (x1 : x < 256) (hl : l1.length ≤ 140737488355328) (hs : n ≤ (l1.length : Int) - k) (hf : text_Get.flag a0 x ≠ 0)
    (hg : mailcoachref10_Get.f ((l1.take (k + n).toNat).drop k.toNat) = some (s, e2)) :
    Calls Try.prog 39 #[.int .i64 a0, .slice A1 l1.length c1] w fun e' w' => e' = .returned (if e2 ≠ 0 then .tuple #[.int .u8 0, .string ⟨#[]⟩, .int .i64 0, .int .i64 e2] else if 65536 < s.size then .tuple #[.int .u8 0, .string ⟨#[]⟩, .int .i64 0, .int .i64 3] else .tuple #[.int .u8 (x - 2 ^ (a0 - 1).toNat), .string s, .int .i64 (k + n), .int .i64 0]) ∧ Below w.heap.size w w' := by
  have hw1 : decide (a0 < 2) = false := decide_eq_false (by omega)
  have hw2 : decide (8 < a0) = false := decide_eq_false (by omega)
  have HTW := Aside0.mk (mailcoachref11_two.at (a0 - 1) (by omega) (by omega))
  obtain ⟨hp1, hp2⟩ := mailcoachref11_two.bd (a0 - 1).toNat (by omega)
  unfold text_Get.flag at hf
  obtain ⟨p, hp⟩ : ∃ p : Int, 2 ^ (a0 - 1).toNat = p := ⟨_, rfl⟩
  rw [hp] at hp1 hp2 HTW hf ⊢
  have hfl : ((x / p).tmod 2 == 1) = true := beq_iff_eq.2 (by rw [Int.tmod_eq_emod_of_nonneg (Int.ediv_nonneg x0 (by omega))]; omega)
  have hpx : p ≤ x := by
    rcases Int.lt_or_le x p with h1 | h1
    · rw [Int.ediv_eq_zero_of_lt x0 h1] at hf
      exact absurd rfl hf
    · exact h1
  clear hp hf
  obtain ⟨V, hV⟩ : ∃ V, (if e2 ≠ 0 then Value.tuple #[.int .u8 0, .string ⟨#[]⟩, .int .i64 0, .int .i64 e2] else if 65536 < s.size then .tuple #[.int .u8 0, .string ⟨#[]⟩, .int .i64 0, .int .i64 3] else .tuple #[.int .u8 (x - p), .string s, .int .i64 (k + n), .int .i64 0]) = V := ⟨_, rfl⟩
  rw [hV]
  have HV := Aside0.mk hV
  clear hV
  obtain ⟨i0, hi0, _, hsz0, _⟩ := info_parts man_info_u8
  obtain ⟨A2, hcut, hA, hC⟩ := print_mid_of (P := Try.prog) (Value.int .u8) 0 22 5 .i64 .i64 Try.underlying22 hi0 hsz0 A1 c1 l1 k (k + n) k0 (by omega) (by omega) hc1
  have HR2 := Aside0.mk (hA w (Kd.reads_of_C hr1))
  have hlen : ((l1.take (k + n).toNat).drop k.toNat).length ≤ 65536 := by rw [List.length_drop, List.length_take]; omega
  obtain ⟨b, hb⟩ : ∃ b, (l1.take (k + n).toNat).drop k.toNat = b := ⟨_, rfl⟩
  rw [hb] at hcut HR2 hC hlen hg
  have HR1 := Aside0.mk hr1
  have HC1 := Aside0.mk hc1
  have HC2 := Aside0.mk hC
  have HG := Aside0.mk h
  have HHG := Aside0.mk hg
  have he1 : decide (65536 < n) = false := decide_eq_false (by omega)
  have he2 : decide ((l1.length : Int) - k < n) = false := decide_eq_false (by omega)
  clear hr1 hc1 h hA hC hi0 hsz0 hb hg
  go_enter Try.func39, Try.ntmps39
  go_upto_region 11 with (first | (go_at_call 26; refine (mailcoachref01_GetPrefix.calls (a0 - 1) A1 c1 l1 x n k 0 _ HR1.out HC1.out HG.out).mono ?_; rintro e w2 ⟨rfl, hd⟩; have HB2 := Aside0.mk hd.below; clear hd))
  have hconv := fun c : Nat => string_of_reads (c := c) (P := Try.prog) (src := 22) (dst := 9) Try.underlying22 Try.underlying5 Try.underlying9 (ReadsInt.below (show ReadsInt w .u8 A2 b.length b from HR2.out) HB2.out)
  go_upto_region 12 with (fail)
  clear hconv
  go_upto_region 13 with (go_at_call 52; refine (mailcoachref11_two.calls 20 (a0 - 1) p _ HTW.out).mono ?_; rintro e wt ⟨rfl, hd⟩; have HBt := Aside0.mk (below_step HB2.out hd.below); clear hd)
  go_upto_region 14 with (go_at_call 52; refine (mailcoachref11_two.calls 20 (a0 - 1) p _ HTW.out).mono ?_; rintro e w3 ⟨rfl, hd⟩; have HB3 := Aside0.mk (below_step HBt.out hd.below); have HR4 := Aside0.mk (ReadsInt.below (show ReadsInt w .u8 A2 b.length b from HR2.out) HB3.out); clear hd)
  by_cases hq : e2 = 0
  · subst hq
    by_cases hbig : 65536 < s.size
    · have hb1 : decide (65536 < (s.size : Int)) = true := decide_eq_true (by omega)
      go_wp2_with (go_at_call 28; refine (mailcoachref10_Get.calls A2 (c1 - k.toNat) b s 0 _ (Kd.C_of_reads (enc := Value.int .u8) (d := (0 : Int)) (h1 := fun _ => rfl) HR4.out) HC2.out HHG.out).mono ?_; rintro e w4 ⟨rfl, hd⟩; have HB4 := Aside0.mk (below_step HB3.out hd); clear hd)
      exact bodyPost_ret (v := .tuple #[.int .u8 0, .string ⟨#[]⟩, .int .i64 0, .int .i64 3]) (by simp [results, Try.results39, go_sem]) rfl ⟨by rw [← HV.out, if_neg (by decide), if_pos hbig], HB4.out⟩
    · have hb1 : decide (65536 < (s.size : Int)) = false := decide_eq_false (by omega)
      go_wp2_with (go_at_call 28; refine (mailcoachref10_Get.calls A2 (c1 - k.toNat) b s 0 _ (Kd.C_of_reads (enc := Value.int .u8) (d := (0 : Int)) (h1 := fun _ => rfl) HR4.out) HC2.out HHG.out).mono ?_; rintro e w4 ⟨rfl, hd⟩; have HB4 := Aside0.mk (below_step HB3.out hd); clear hd)
      exact bodyPost_ret (v := .tuple #[.int .u8 (x - p), .string s, .int .i64 (k + n), .int .i64 0]) (by simp [results, Try.results39, go_sem]) rfl ⟨by rw [← HV.out, if_neg (by decide), if_neg hbig], HB4.out⟩
  · have hq1 : (e2 != 0) = true := bne_iff_ne.2 hq
    go_wp2_with (go_at_call 28; refine (mailcoachref10_Get.calls A2 (c1 - k.toNat) b s e2 _ (Kd.C_of_reads (enc := Value.int .u8) (d := (0 : Int)) (h1 := fun _ => rfl) HR4.out) HC2.out HHG.out).mono ?_; rintro e w4 ⟨rfl, hd⟩; have HB4 := Aside0.mk (below_step HB3.out hd); clear hd)
    exact bodyPost_ret (v := .tuple #[.int .u8 0, .string ⟨#[]⟩, .int .i64 0, .int .i64 e2]) (by simp [results, Try.results39, go_sem]) rfl ⟨by rw [← HV.out, if_pos hq], HB4.out⟩
end
theorem mailcoachref11_Get.same (a0 : Int) (A1 : Option Addr) (c1 : Nat) (l1 : List Int) (r1 : Int) (r2 : ByteArray) (r3 : Int) (r4 : Int) (w : World) (hr1 : Kd.C (Kd.int .u8) w A1 l1.length l1) (hc1 : l1.length ≤ c1) (hs10 : ∀ b, mailcoachref10_Get.f b = huff_Get.f b) (h : text_Get.f a0 l1 = some (r1, r2, r3, r4)) :
    Calls Try.prog 39 #[.int .i64 a0, .slice A1 l1.length c1] w fun e w' => e = .returned (.tuple #[.int .u8 r1, .string r2, .int .i64 r3, .int .i64 r4]) ∧ Below w.heap.size w w' := by
  unfold text_Get.f at h
  by_cases hb : a0 < 2 ∨ 8 < a0
  · rw [if_pos hb] at h
    simp only [Option.some.injEq, Prod.mk.injEq] at h
    obtain ⟨rfl, rfl, rfl, rfl⟩ := h
    exact mailcoachref11_Get.bad a0 A1 c1 l1 w hb
  · rw [if_neg hb] at h
    obtain ⟨⟨x, n, k, e⟩, hg, h⟩ := Option.bind_eq_some_iff.1 h
    simp only at h
    by_cases he : e ≠ 0
    · rw [if_pos he] at h
      simp only [Option.some.injEq, Prod.mk.injEq] at h
      obtain ⟨rfl, rfl, rfl, rfl⟩ := h
      exact mailcoachref11_Get.err a0 A1 c1 l1 x n k _ w hr1 hc1 (by omega) (by omega) hg he
    · rw [if_neg he] at h
      obtain rfl : e = 0 := by omega
      by_cases hn : 65536 < n
      · rw [if_pos hn] at h
        simp only [Option.some.injEq, Prod.mk.injEq] at h
        obtain ⟨rfl, rfl, rfl, rfl⟩ := h
        exact mailcoachref11_Get.great a0 A1 c1 l1 x n k w hr1 hc1 (by omega) (by omega) hg hn
      · rw [if_neg hn] at h
        by_cases hr : x < 0 ∨ 256 ≤ x ∨ n < 0 ∨ k < 0 ∨ (l1.length : Int) < k ∨ 140737488355328 < l1.length
        · rw [if_pos hr] at h
          cases h
        · rw [if_neg hr] at h
          by_cases hs : (l1.length : Int) - k < n
          · rw [if_pos hs] at h
            simp only [Option.some.injEq, Prod.mk.injEq] at h
            obtain ⟨rfl, rfl, rfl, rfl⟩ := h
            exact mailcoachref11_Get.short a0 A1 c1 l1 x n k w hr1 hc1 (by omega) (by omega) hg (by omega) (by omega) (by omega) (by omega) (by omega) hs
          · rw [if_neg hs] at h
            by_cases hf : text_Get.flag a0 x = 0
            · rw [if_pos hf] at h
              simp only [Option.some.injEq, Prod.mk.injEq] at h
              obtain ⟨rfl, rfl, rfl, rfl⟩ := h
              exact mailcoachref11_Get.plain a0 A1 c1 l1 _ n k w hr1 hc1 (by omega) (by omega) hg (by omega) (by omega) (by omega) (by omega) (by omega) (by omega) (by omega) (by omega) hf
            · rw [if_neg hf] at h
              obtain ⟨⟨s, e2⟩, hq, h⟩ := Option.bind_eq_some_iff.1 h
              have hc := mailcoachref11_Get.huff a0 A1 c1 l1 x n k s e2 w hr1 hc1 (by omega) (by omega) hg (by omega) (by omega) (by omega) (by omega) (by omega) (by omega) (by omega) (by omega) hf ((hs10 _).trans hq)
              simp only at h
              by_cases h2 : e2 ≠ 0
              · rw [if_pos h2] at h hc
                simp only [Option.some.injEq, Prod.mk.injEq] at h
                obtain ⟨rfl, rfl, rfl, rfl⟩ := h
                exact hc
              · rw [if_neg h2] at h hc
                by_cases h3 : 65536 < s.size
                · rw [if_pos h3] at h hc
                  simp only [Option.some.injEq, Prod.mk.injEq] at h
                  obtain ⟨rfl, rfl, rfl, rfl⟩ := h
                  exact hc
                · rw [if_neg h3] at h hc
                  simp only [Option.some.injEq, Prod.mk.injEq] at h
                  obtain ⟨rfl, rfl, rfl, rfl⟩ := h
                  exact hc


end Go.Proofs.Ytmkmefdajbdceaa.PTX
