-- Written by wip/mprint.py (the kit's printer, and texts of this claim's own for what it does not take). Not trusted: Lean checks it.
import Derived.Test.YtmkmefdajbdceaaPTXx0
import Derived.Test.YtmkmefdajbdceaaPTXx2
import Derived.Test.YtmkmefdajbdceaaPTXx7
namespace Go.Proofs.Ytmkmefdajbdceaa.PTX
open Go.RowKit Go.Proofs.YtmkmefdajbdceaaW.PrintWords Go.Proofs.YtmkmefdajbdceaaW.PrintLast Go.Proofs.YtmkmefdajbdceaaW.PrintMore
attribute [local go_sem] max2_int min2_int max_two min_two max_three min_three max_four min_four   -- for this text's walks alone
set_option linter.unusedVariables false
set_option linter.unusedSimpArgs false

/-! ### mailcoachref01_GetPrefix: function 26, by hand -/
/-- The parts below number i, taken together. -/
def varint_GetPrefix.V (t : List Int) : Nat → Int
  | 0 => 0
  | i + 1 => varint_GetPrefix.V t i + rd t i % 128 * 2 ^ (7 * i)
theorem varint_GetPrefix.V_nonneg (t : List Int) (i : Nat) : 0 ≤ varint_GetPrefix.V t i := by
  induction i with
  | zero => simp [varint_GetPrefix.V]
  | succ i ih =>
    simp only [varint_GetPrefix.V]
    have : 0 ≤ rd t i % 128 * 2 ^ (7 * i) := Int.mul_nonneg (Int.emod_nonneg _ (by decide)) (Int.le_of_lt (Int.pow_pos (by decide)))
    omega
theorem varint_GetPrefix.V_down (t : List Int) (j : Nat) (n : Int) : (128 * n + rd t j % 128) * 2 ^ (7 * j) + varint_GetPrefix.V t j = n * 2 ^ (7 * (j + 1)) + varint_GetPrefix.V t (j + 1) := by
  simp only [varint_GetPrefix.V]
  have e : (2 : Int) ^ (7 * (j + 1)) = 2 ^ (7 * j) * 128 := by rw [show 7 * (j + 1) = 7 * j + 7 by omega, Int.pow_add]; rfl
  rw [e, Int.add_mul, Int.mul_comm 128 n, Int.mul_assoc, Int.mul_comm 128]
  omega
theorem varint_GetPrefix.V_great (t : List Int) (j : Nat) (n T : Int) (hn : 36028797018963967 < n) (hj : 1 ≤ j) (h : n * 2 ^ (7 * j) + varint_GetPrefix.V t j = T) : 4611686018427387904 ≤ T := by
  have h0 := varint_GetPrefix.V_nonneg t j
  have hp : (128 : Int) ≤ 2 ^ (7 * j) := by
    have : (2 : Int) ^ (7 * j) = 128 * 2 ^ (7 * (j - 1)) := by
      obtain ⟨m, rfl⟩ : ∃ m, j = m + 1 := ⟨j - 1, by omega⟩
      rw [show 7 * (m + 1) = 7 + 7 * m by omega, Int.pow_add, show 7 * (m + 1 - 1) = 7 * m by omega]; rfl
    have h1 : (1 : Int) ≤ 2 ^ (7 * (j - 1)) := Int.pow_pos (by decide)
    omega
  have h2 : (36028797018963968 : Int) * 128 ≤ n * 2 ^ (7 * j) := Int.mul_le_mul (by omega) hp (by omega) (by omega)
  omega
theorem varint_GetPrefix.rd_drop1 (l : List Int) (i : Nat) : rd (l.drop 1) i = rd l ((i : Int) + 1) := by
  unfold rd
  have e : ((i : Int) + 1).toNat = 1 + i := by omega
  rw [e, List.getD_eq_getElem?_getD, List.getD_eq_getElem?_getD, List.getElem?_drop, Int.toNat_natCast]
theorem mailcoachref01_most.eight (a0 : Int) (h : 1 ≤ a0) (h8 : a0 ≤ 8) : mailcoachref01_most.f 20 a0 = some (varint_GetPrefix.M a0) := by
  rcases (show a0 = 1 ∨ a0 = 2 ∨ a0 = 3 ∨ a0 = 4 ∨ a0 = 5 ∨ a0 = 6 ∨ a0 = 7 ∨ a0 = 8 by omega) with rfl | rfl | rfl | rfl | rfl | rfl | rfl | rfl <;> decide +kernel
theorem mailcoachref01_GetPrefix.bad (A1 : Option Addr) (c1 : Nat) (l1 : List Int) (a0 : Int) (w : World) (h : a0 < 1 ∨ 8 < a0) :
    Calls Try.prog 26 #[.int .i64 a0, .slice A1 l1.length c1] w fun e w' => e = .returned (.tuple #[.int .u8 0, .int .u64 0, .int .i64 0, .int .i64 1]) ∧ Drawn0 w w' := by
  rcases h with h | h
  · go_enter Try.func26, Try.ntmps26
    go_wp2
    exact bodyPost_ret (v := .tuple #[.int .u8 0, .int .u64 0, .int .i64 0, .int .i64 1]) (by simp [results, Try.results26, go_sem]) rfl ⟨rfl, Drawn0.refl _⟩
  · have h1 : ¬ a0 < 1 := by omega
    go_enter Try.func26, Try.ntmps26
    go_wp2
    exact bodyPost_ret (v := .tuple #[.int .u8 0, .int .u64 0, .int .i64 0, .int .i64 1]) (by simp [results, Try.results26, go_sem]) rfl ⟨rfl, Drawn0.refl _⟩
theorem mailcoachref01_GetPrefix.short (A1 : Option Addr) (c1 : Nat) (a0 : Int) (w : World) (h : 1 ≤ a0) (h8 : a0 ≤ 8) :
    Calls Try.prog 26 #[.int .i64 a0, .slice A1 0 c1] w fun e w' => e = .returned (.tuple #[.int .u8 0, .int .u64 0, .int .i64 0, .int .i64 4]) ∧ Drawn0 w w' := by
  go_enter Try.func26, Try.ntmps26
  go_wp2
  exact bodyPost_ret (v := .tuple #[.int .u8 0, .int .u64 0, .int .i64 0, .int .i64 4]) (by simp [results, Try.results26, go_sem]) rfl ⟨rfl, Drawn0.refl _⟩
set_option maxHeartbeats 6400000 in
set_option maxRecDepth 100000 in
theorem mailcoachref01_GetPrefix.main (A1 : Option Addr) (c1 : Nat) (l1 : List Int) (a0 : Int) (w : World) (h : 1 ≤ a0) (h8 : a0 ≤ 8) (hr1 : Kd.C (Kd.int .u8) w A1 l1.length l1) (hc1 : l1.length ≤ c1) (hn : 0 < l1.length) (hok : varint_GetPrefix.ok l1 = true) (R1 R2 R3 R4 : Int)
    (hR : (if rd l1 0 % 2 ^ a0.toNat < varint_GetPrefix.M a0 then (rd l1 0 - rd l1 0 % 2 ^ a0.toNat, rd l1 0 % 2 ^ a0.toNat, 1, 0)
     else (varint_GetPrefix.S (l1.drop 1) (varint_GetPrefix.M a0) (rd l1 0 - rd l1 0 % 2 ^ a0.toNat) 10 0 0)) = (R1, R2, R3, R4)) :
    Calls Try.prog 26 #[.int .i64 a0, .slice A1 l1.length c1] w fun e w' => e = .returned (.tuple #[.int .u8 R1, .int .u64 R2, .int .i64 R3, .int .i64 R4]) ∧ Drawn0 w w' := by
  have HR := Aside0.mk hR
  have HR1 := Aside0.mk hr1
  have HOK := Aside0.mk hok
  have hb := varint_GetPrefix.rd_bd hok 0 hn
  have hmost := mailcoachref01_most.eight a0 h h8
  clear hr1 hc1 hok hR
  obtain ⟨ad1, e1, hx1⟩ := Kd.at_int HR1.out 0 (by omega) (by omega)
  cases e1
  have hx0 : w.cell? ad1 = some (.int .u8 (rd l1 0)) := by simpa [go_sem] using hx1
  clear hx1
  have hne : ((l1.length : Int) == 0) = false := by simp; intro h; rw [h] at hn; exact absurd hn (Nat.lt_irrefl 0)
  have hlt : 0 < (l1.length : Int) := by omega
  have hb0 : 0 ≤ rd l1 0 := hb.1
  have hb1 : rd l1 0 < 256 := hb.2
  obtain ⟨e1, e2, e3, e4, m1, m2, k0⟩ := varint_GetPrefix.mask a0 (rd l1 0) h h8 hb0 hb1
  have k1 : rd l1 0 % 2 ^ a0.toNat ≤ rd l1 0 := by have := Int.emod_nonneg (rd l1 0) (b := 2 ^ a0.toNat) (by have : (0 : Int) < 2 ^ a0.toNat := Int.pow_pos (by decide); omega); have h3 := Int.mul_ediv_add_emod (rd l1 0) (2 ^ a0.toNat); have h4 : 0 ≤ 2 ^ a0.toNat * (rd l1 0 / 2 ^ a0.toNat) := Int.mul_nonneg (Int.le_of_lt (Int.pow_pos (by decide))) (Int.ediv_nonneg hb0 (Int.le_of_lt (Int.pow_pos (by decide)))); omega
  obtain ⟨M, hM⟩ : ∃ M, varint_GetPrefix.M a0 = M := ⟨_, rfl⟩
  obtain ⟨K, hK⟩ : ∃ K, rd l1 0 % 2 ^ a0.toNat = K := ⟨_, rfl⟩
  obtain ⟨B, hB⟩ : ∃ B, rd l1 0 - K = B := ⟨_, rfl⟩
  rw [hM] at e1 e2 e3 e4 m1 m2 HR hmost
  rw [hK] at e3 e4 k0 k1 HR
  rw [hB] at e4 HR
  have HMOST := Aside0.mk hmost
  have k2 : K % 256 = K := by omega
  have hB2 : (rd l1 0 - K) % 256 = B := by omega
  clear hM hK hb e1 e4 hmost
  have hd1 : decide (a0 < 1) = false := decide_eq_false (by omega)
  have hd8 : decide (8 < a0) = false := decide_eq_false (by omega)
  by_cases hKM : K < M
  · rw [if_pos hKM] at HR
    have hj := HR.out
    simp only [Prod.mk.injEq] at hj
    obtain ⟨rfl, rfl, rfl, rfl⟩ := hj
    clear HR
    go_enter Try.func26, Try.ntmps26
    go_wp2_with (go_at_call 43; refine (mailcoachref01_most.calls 20 a0 M _ HMOST.out).mono ?_; rintro e w1 ⟨rfl, hd⟩; obtain ⟨m1, rfl⟩ := hd.out)
    exact bodyPost_ret (v := .tuple #[.int .u8 B, .int .u64 K, .int .i64 1, .int .i64 0]) (by simp [results, Try.results26, go_sem]) rfl ⟨rfl, by repeat (first | exact Drawn0.refl _ | apply Drawn0.step)⟩
  · rw [if_neg hKM] at HR
    obtain ⟨t, ht⟩ : ∃ t, l1.drop 1 = t := ⟨_, rfl⟩
    have hrt : ∀ i : Nat, rd t i = rd l1 ((i : Int) + 1) := fun i => by rw [← ht]; exact varint_GetPrefix.rd_drop1 l1 i
    have hl2 : l1.length = t.length + 1 := by rw [← ht, List.length_drop]; omega
    rw [ht] at HR
    have HL2 := Aside0.mk hl2
    have HRT := Aside0.mk hrt
    clear ht hl2 hrt
    go_enter Try.func26, Try.ntmps26
    go_wp2_with (go_at_call 43; refine (mailcoachref01_most.calls 20 a0 M _ HMOST.out).mono ?_; rintro e w1 ⟨rfl, hd⟩; obtain ⟨m1, rfl⟩ := hd.out)
    clear k2 hB2 hB
    go_loop [11] (fun v11 => ∃ (i : Nat), i ≤ 10 ∧ i + 1 ≤ l1.length ∧ v11 = .int .i64 ((i : Int) + 1) ∧ Aside0 (varint_GetPrefix.S t M B (10 - i) i (varint_GetPrefix.V t i) = (R1, R2, R3, R4))) (fun v11 => 12 - (intOf v11).toNat)
    case atStart => exact ⟨0, by omega, by omega, rfl, HR⟩
    case round =>
      obtain ⟨i, hi, hi2, rfl, HS⟩ := hrel
      clear HR
      by_cases hlen : i + 1 < l1.length
      · have HLT := Aside0.mk (show i < t.length by have := HL2.out; omega)
        by_cases hi10 : i = 10
        · have hS := HS.out
          rw [varint_GetPrefix.S_end t M B _ _ _ (.inl (by omega)), if_pos (by have := HL2.out; omega)] at hS
          simp only [Prod.mk.injEq] at hS
          obtain ⟨rfl, rfl, rfl, rfl⟩ := hS
          have hge : 10 ≤ i := by omega
          have hld : decide ((i : Int) + 1 ≤ 10) = false := decide_eq_false (by omega)
          clear HS hi10
          go_wp2
          exact bodyPost_ret (v := .tuple #[.int .u8 0, .int .u64 0, .int .i64 0, .int .i64 5]) (by simp [results, Try.results26, go_sem]) rfl ⟨rfl, by repeat (first | exact Drawn0.refl _ | apply Drawn0.step)⟩
        · have hi10' : i < 10 := by omega
          clear hi10
          obtain ⟨ad2, e5, hx2⟩ := Kd.at_int HR1.out ((i : Int) + 1) (by omega) (by omega)
          cases e5
          rw [show ((i : Int) + 1).toNat = i + 1 by omega] at hx2
          have hx3 : w.cell? ⟨ad1.block, ad1.off + (i + 1), none⟩ = some (.int .u8 (rd l1 ((i : Int) + 1))) := by simpa [Addr.add] using hx2
          clear hx2
          have hcc := varint_GetPrefix.rd_bd HOK.out (i + 1) hlen
          have hc0 : 0 ≤ rd l1 ((i : Int) + 1) := hcc.1
          have hc1 : rd l1 ((i : Int) + 1) < 256 := hcc.2
          clear hcc
          obtain ⟨d, hd⟩ : ∃ d, 10 - i = d + 1 := ⟨9 - i, by omega⟩
          have hS := HS.out
          rw [hd] at hS
          simp only [varint_GetPrefix.S] at hS
          rw [if_pos HLT.out, HRT.out i] at hS
          clear HS
          have hV : varint_GetPrefix.V t i + rd l1 ((i : Int) + 1) % 128 * 2 ^ (7 * i) = varint_GetPrefix.V t (i + 1) := by simp only [varint_GetPrefix.V]; rw [HRT.out i]
          rw [hV] at hS
          have HD := Aside0.mk hd
          clear hd hV
          by_cases hl : rd l1 ((i : Int) + 1) < 128
          · rw [if_pos hl] at hS
            have HS2 := Aside0.mk hS
            clear hS
            go_wp2
            clear hx3
            go_loop [9, 12] (fun v9 v12 => ∃ (j : Nat) (n : Int), j ≤ i + 1 ∧ v12 = .int .i64 j ∧ v9 = .int .u64 n ∧ 0 ≤ n ∧ n ≤ 4611686018427387903 ∧ Aside0 (n * 2 ^ (7 * j) + varint_GetPrefix.V t j = varint_GetPrefix.V t (i + 1))) (fun _ v12 => (intOf v12).toNat)
            case atStart => exact ⟨i + 1, 0, by omega, rfl, rfl, by omega, by omega, ⟨by rw [Int.zero_mul, Int.zero_add]⟩⟩
            case round =>
              obtain ⟨j, n, hj, rfl, rfl, hn0, hn1, HV⟩ := hrel
              by_cases hj0 : j = 0
              · subst hj0
                have hnT : n = varint_GetPrefix.V t (i + 1) := by have := HV.out; simp only [varint_GetPrefix.V, Nat.mul_zero, Int.pow_zero, Int.mul_one, Int.add_zero] at this; simpa [varint_GetPrefix.V] using this
                have hS := HS2.out
                rw [← hnT] at hS
                clear HS2 hnT HV
                by_cases hg : n > 4611686018427387903 - M
                · rw [if_pos hg] at hS
                  simp only [Prod.mk.injEq] at hS
                  obtain ⟨rfl, rfl, rfl, rfl⟩ := hS
                  go_wp2
                  exact bodyPost_ret (v := .tuple #[.int .u8 0, .int .u64 0, .int .i64 0, .int .i64 3]) (by simp [results, Try.results26, go_sem]) rfl ⟨rfl, by repeat (first | exact Drawn0.refl _ | apply Drawn0.step)⟩
                · rw [if_neg hg] at hS
                  simp only [Prod.mk.injEq] at hS
                  obtain ⟨rfl, rfl, rfl, rfl⟩ := hS
                  have hi3 : (i : Int) + 1 + 1 = (i : Int) + 2 := by omega
                  go_wp2
                  exact bodyPost_ret (v := .tuple #[.int .u8 B, .int .u64 (n + M), .int .i64 ((i : Int) + 2), .int .i64 0]) (by simp [results, Try.results26, go_sem]) rfl ⟨rfl, by repeat (first | exact Drawn0.refl _ | apply Drawn0.step)⟩
              · by_cases hg : 36028797018963967 < n
                · have hT := varint_GetPrefix.V_great t j n _ hg (by omega) HV.out
                  have hS := HS2.out
                  rw [if_pos (by omega)] at hS
                  simp only [Prod.mk.injEq] at hS
                  obtain ⟨rfl, rfl, rfl, rfl⟩ := hS
                  clear HS2 hT HV
                  go_wp2
                  exact bodyPost_ret (v := .tuple #[.int .u8 0, .int .u64 0, .int .i64 0, .int .i64 3]) (by simp [results, Try.results26, go_sem]) rfl ⟨rfl, by repeat (first | exact Drawn0.refl _ | apply Drawn0.step)⟩
                · obtain ⟨m, rfl⟩ : ∃ m, j = m + 1 := ⟨j - 1, by omega⟩
                  obtain ⟨ad2, e5, hx2⟩ := Kd.at_int HR1.out ((m + 1 : Nat) : Int) (by omega) (by omega)
                  cases e5
                  rw [show ((m + 1 : Nat) : Int).toNat = m + 1 by omega, show ((m + 1 : Nat) : Int) = (m : Int) + 1 by omega] at hx2
                  have hx3 : w.cell? ⟨ad1.block, ad1.off + (m + 1), none⟩ = some (.int .u8 (rd l1 ((m : Int) + 1))) := by simpa [Addr.add] using hx2
                  clear hx2
                  have hcc := varint_GetPrefix.rd_bd HOK.out (m + 1) (by omega)
                  have hm0 : 0 ≤ rd l1 ((m : Int) + 1) := hcc.1
                  have hm1 : rd l1 ((m : Int) + 1) < 256 := hcc.2
                  clear hcc hj0
                  go_wp2
                  go_round
                  case rel => exact ⟨m, 128 * n + rd l1 ((m : Int) + 1) % 128, by omega, by go_num, rfl, by omega, by omega, ⟨by rw [← HRT.out m, varint_GetPrefix.V_down]; exact HV.out⟩⟩
                  case measure => simp [intOf]
          · rw [if_neg hl] at hS
            have HS2 := Aside0.mk hS
            clear hS
            go_wp2
            go_round
            case rel => exact ⟨i + 1, by omega, by omega, by go_num, ⟨by rw [show 10 - (i + 1) = d by have := HD.out; omega]; exact HS2.out⟩⟩
            case measure => simp [intOf]; omega
      · have hi1 : (i : Int) + 1 = l1.length := by omega
        have hS := HS.out
        rw [varint_GetPrefix.S_end t M B _ _ _ (.inr (by have := HL2.out; omega))] at hS
        clear HS
        by_cases h10 : i = 10
        · rw [if_pos (by have := HL2.out; omega)] at hS
          simp only [Prod.mk.injEq] at hS
          obtain ⟨rfl, rfl, rfl, rfl⟩ := hS
          have hge : 10 ≤ i := by omega
          clear h10 hi1
          go_wp2
          exact bodyPost_ret (v := .tuple #[.int .u8 0, .int .u64 0, .int .i64 0, .int .i64 5]) (by simp [results, Try.results26, go_sem]) rfl ⟨rfl, by repeat (first | exact Drawn0.refl _ | apply Drawn0.step)⟩
        · rw [if_neg (by have := HL2.out; omega)] at hS
          simp only [Prod.mk.injEq] at hS
          obtain ⟨rfl, rfl, rfl, rfl⟩ := hS
          have hge : i < 10 := by omega
          have heq : ((i : Int) + 1 == (l1.length : Int)) = true := by simp; omega
          clear h10 hi1
          go_wp2
          exact bodyPost_ret (v := .tuple #[.int .u8 0, .int .u64 0, .int .i64 0, .int .i64 4]) (by simp [results, Try.results26, go_sem]) rfl ⟨rfl, by repeat (first | exact Drawn0.refl _ | apply Drawn0.step)⟩
def mailcoachref01_GetPrefix.f (a0 : Int) (l1 : List Int) : Option (Int × Int × Int × Int) := varint_GetPrefix.f a0 l1
theorem mailcoachref01_GetPrefix.calls (a0 : Int) (A1 : Option Addr) (c1 : Nat) (l1 : List Int) (r1 : Int) (r2 : Int) (r3 : Int) (r4 : Int) (w : World) (hr1 : Kd.C (Kd.int .u8) w A1 l1.length l1) (hc1 : l1.length ≤ c1) (h : mailcoachref01_GetPrefix.f a0 l1 = some (r1, r2, r3, r4)) :
    Calls Try.prog 26 #[.int .i64 a0, .slice A1 l1.length c1] w fun e w' => e = .returned (.tuple #[.int .u8 r1, .int .u64 r2, .int .i64 r3, .int .i64 r4]) ∧ Drawn0 w w' := by
  unfold mailcoachref01_GetPrefix.f varint_GetPrefix.f at h
  by_cases h1 : a0 < 1 ∨ 8 < a0
  · rw [if_pos h1] at h
    simp only [Option.some.injEq, Prod.mk.injEq] at h
    obtain ⟨rfl, rfl, rfl, rfl⟩ := h
    exact mailcoachref01_GetPrefix.bad A1 c1 l1 a0 w h1
  · rw [if_neg h1] at h
    by_cases hn : l1.length = 0
    · rw [if_pos hn] at h
      simp only [Option.some.injEq, Prod.mk.injEq] at h
      obtain ⟨rfl, rfl, rfl, rfl⟩ := h
      rw [hn]
      exact mailcoachref01_GetPrefix.short A1 c1 a0 w (by omega) (by omega)
    · rw [if_neg hn] at h
      by_cases hok : varint_GetPrefix.ok l1 = true
      · rw [if_pos hok] at h
        refine mailcoachref01_GetPrefix.main A1 c1 l1 a0 w (by omega) (by omega) hr1 hc1 (by omega) hok r1 r2 r3 r4 ?_
        split at h <;> rename_i hlt
        · rw [if_pos hlt]; exact Option.some.inj h
        · rw [if_neg hlt]; exact Option.some.inj h
      · rw [if_neg hok] at h
        cases h


end Go.Proofs.Ytmkmefdajbdceaa.PTX
