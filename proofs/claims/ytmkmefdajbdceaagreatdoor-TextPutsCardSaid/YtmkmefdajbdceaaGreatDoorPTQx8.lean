-- Written by wip/mprint.py (the kit's printer, and texts of this claim's own for what it does not take). Not trusted: Lean checks it.
import Derived.Test.YtmkmefdajbdceaaGreatDoorPTQx0
import Derived.Test.YtmkmefdajbdceaaGreatDoorPTQx2
import Derived.Test.YtmkmefdajbdceaaGreatDoorPTQx3
import Derived.Test.YtmkmefdajbdceaaGreatDoorPTQx5
import Derived.Test.YtmkmefdajbdceaaGreatDoorPTQx7
namespace Go.Proofs.YtmkmefdajbdceaaGreatDoor.PTQ
open Go.RowKit Go.Proofs.YtmkmefdajbdceaaGreatDoorW.PrintWords Go.Proofs.YtmkmefdajbdceaaGreatDoorW.PrintLast Go.Proofs.YtmkmefdajbdceaaGreatDoorW.PrintMore
attribute [local go_sem] max2_int min2_int max_two min_two max_three min_three max_four min_four   -- for this text's walks alone
set_option linter.unusedVariables false
set_option linter.unusedSimpArgs false

/-! ### mailcoachref11_Put: function 6, by hand -/
/-! ### mailcoachref11.Put, by its cases (two: 2^n as the document reckons it) -/
theorem mailcoachref11_two.t : ∀ n : Nat, n ≤ 8 → mailcoachref11_two.f 10 (n : Int) = some (2 ^ n) := by decide +kernel
theorem mailcoachref11_two.at (a : Int) (h0 : 0 ≤ a) (h8 : a ≤ 8) : mailcoachref11_two.f 10 a = some (2 ^ a.toNat) := by
  obtain ⟨n, rfl⟩ := Int.eq_ofNat_of_zero_le h0
  rw [Int.toNat_natCast]
  exact mailcoachref11_two.t n (by omega)
theorem mailcoachref11_Put.pow (a : Int) (h0 : 0 ≤ a) (h8 : a ≤ 8) : 1 ≤ (2 : Int) ^ a.toNat ∧ (2 : Int) ^ a.toNat ≤ 256 := by
  obtain ⟨n, rfl⟩ := Int.eq_ofNat_of_zero_le h0
  rw [Int.toNat_natCast]
  have : ∀ n : Nat, n ≤ 8 → 1 ≤ (2 : Int) ^ n ∧ (2 : Int) ^ n ≤ 256 := by decide
  exact this n (by omega)
theorem mailcoachref11_Put.bad (a0 a1 : Int) (a2 : ByteArray) (w : World) (h : a1 < 2 ∨ 8 < a1) :
    Calls Tryz.prog 6 #[.int .u8 a0, .int .i64 a1, .string a2] w fun e w' => e = .returned (.tuple #[.slice none 0 0, .int .i64 1]) ∧ Below w.heap.size w w' := by
  rcases h with h | h
  · have h1 : decide (a1 < 2) = true := decide_eq_true h
    go_enter Tryz.func6, Tryz.ntmps6
    go_wp2_with fail
    go_ret2
    exact ⟨rfl, Below.refl _ _⟩
  · have h1 : decide (a1 < 2) = false := decide_eq_false (by omega)
    have h2 : decide (8 < a1) = true := decide_eq_true h
    go_enter Tryz.func6, Tryz.ntmps6
    go_wp2_with fail
    go_ret2
    exact ⟨rfl, Below.refl _ _⟩
theorem mailcoachref11_Put.rem (a0 a1 t : Int) (a2 : ByteArray) (w : World) (h2 : 2 ≤ a1) (h8 : a1 ≤ 8) (x0 : 0 ≤ a0) (x1 : a0 < 256) (ht : mailcoachref11_two.f 10 a1 = some t) (t1 : 1 ≤ t) (t2 : t ≤ 256) (hm : a0 % t ≠ 0) :
    Calls Tryz.prog 6 #[.int .u8 a0, .int .i64 a1, .string a2] w fun e w' => e = .returned (.tuple #[.slice none 0 0, .int .i64 1]) ∧ Below w.heap.size w w' := by
  have HT := Aside0.mk ht
  have hne : (a0 % t != 0) = true := by simpa using hm
  clear ht hm
  go_enter Tryz.func6, Tryz.ntmps6
  go_wp2_with (go_at_call 15; refine (mailcoachref11_two.calls 10 a1 t _ HT.out).mono ?_; rintro e w1 ⟨rfl, hd⟩; have HB1 := Aside0.mk hd.below; clear hd)
  go_ret2
  exact ⟨rfl, HB1.out⟩
theorem mailcoachref11_Put.big (a0 a1 t : Int) (a2 : ByteArray) (w : World) (h2 : 2 ≤ a1) (h8 : a1 ≤ 8) (x0 : 0 ≤ a0) (x1 : a0 < 256) (ht : mailcoachref11_two.f 10 a1 = some t) (t1 : 1 ≤ t) (t2 : t ≤ 256) (hm : a0 % t = 0) (hs : 65536 < a2.size) :
    Calls Tryz.prog 6 #[.int .u8 a0, .int .i64 a1, .string a2] w fun e w' => e = .returned (.tuple #[.slice none 0 0, .int .i64 3]) ∧ Below w.heap.size w w' := by
  have HT := Aside0.mk ht
  have hne : (a0 % t != 0) = false := by simpa using hm
  have hs2 : (65536 : Int) < (a2.size : Int) := by omega
  clear ht hm
  go_enter Tryz.func6, Tryz.ntmps6
  go_wp2_with (go_at_call 15; refine (mailcoachref11_two.calls 10 a1 t _ HT.out).mono ?_; rintro e w1 ⟨rfl, hd⟩; have HB1 := Aside0.mk hd.below; clear hd)
  go_ret2
  exact ⟨rfl, HB1.out⟩
set_option maxHeartbeats 1600000 in
set_option maxRecDepth 100000 in
theorem mailcoachref11_Put.plain (k : Nat) (a0 a1 t L : Int) (pf : List Int) (a2 : ByteArray) (w : World) (h2 : 2 ≤ a1) (h8 : a1 ≤ 8) (x0 : 0 ≤ a0) (x1 : a0 < 256) (ht : mailcoachref11_two.f 10 a1 = some t) (t1 : 1 ≤ t) (t2 : t ≤ 256) (hm : a0 % t = 0) (hs : a2.size ≤ 65536)
    (hL : mailcoachref10_Len.f k a2 = some L) (hlt : (a2.size : Int) ≤ L) (hpf : mailcoachref01_PutPrefix.f k a0 (a1 - 1) a2.size = some (pf, 0)) (hpn : pf.length ≤ 100) :
    Calls Tryz.prog 6 #[.int .u8 a0, .int .i64 a1, .string a2] w fun e w' => ∃ v, e = .returned (.tuple #[v, .int .i64 0]) ∧ Kd.R (Kd.int .u8) 5 w' w.heap.size (fun _ => True) v (pf ++ bytesOf a2) ∧ Below w.heap.size w w' := by
  have HT := Aside0.mk ht
  have HLN := Aside0.mk hL
  have HPF := Aside0.mk hpf
  have hne : (a0 % t != 0) = false := by simpa using hm
  have hs2 : (a2.size : Int) ≤ (65536 : Int) := by omega
  have hdl : decide (L < (a2.size : Int)) = false := decide_eq_false (by omega)
  have kb := fun W => print_bytes (P := Tryz.prog) 9 23 5 Tryz.underlying9 Tryz.underlying23 Tryz.underlying5 a2 W
  clear ht hm hL hpf
  go_enter Tryz.func6, Tryz.ntmps6
  go_wp2_with (first | (go_at_call 15; refine (mailcoachref11_two.calls 10 a1 t _ HT.out).mono ?_; rintro e w1 ⟨rfl, hd⟩; have HB1 := Aside0.mk hd.below; have HB2 := Aside0.mk (bytes_below HB1.out HB1.out.size 5 a2); have HR2 := Aside0.mk (bytes_reads w1 5 a2 (by omega)); clear hd) | (go_at_call 16; refine (mailcoachref10_Len.calls k a2 L _ HLN.out).mono ?_; rintro e w3 ⟨rfl, hd⟩; have HB3 := Aside0.mk (below_step HB2.out hd); have HR3 := Aside0.mk (ReadsInt.below HR2.out hd); clear hd) | (go_at_call 18; refine (mailcoachref01_PutPrefix.calls k a0 (a1 - 1) a2.size pf 0 _ HPF.out).mono ?_; rintro e w5 ⟨v5, rfl, hr5, hd⟩; have HB5 := Aside0.mk (below_step HB3.out hd); have HRD := Aside0.mk (ReadsInt.below HR3.out hd); have HR5 := Aside0.mk (own_weaken (Kd.own_of_R hr5) HB3.out.size); clear hd hr5) | (at_builtin; refine print_append_row (w0 := w) w.heap.size rfl (.tmp 56) (.tmp 57) 23 5 .u8 1 rfl Tryz.underlying23 man_info_u8 (by decide) v5 pf (bytesOf a2) _ a2.size _ rfl rfl HR5.out HRD.out HB5.out HB5.out.size (by omega) ?_; intro v6 w6 ho6 hb6 hg6 hat6; have HO6 := Aside0.mk ho6; have HB6 := Aside0.mk hb6; clear ho6 hb6 hg6 hat6))
  go_ret2
  exact ⟨_, rfl, man_R_of_own HO6.out, HB6.out⟩
set_option maxHeartbeats 1600000 in
set_option maxRecDepth 100000 in
theorem mailcoachref11_Put.few (k : Nat) (a0 a1 t u F L : Int) (pf pk : List Int) (a2 : ByteArray) (w : World) (h2 : 2 ≤ a1) (h8 : a1 ≤ 8) (x0 : 0 ≤ a0) (x1 : a0 < 256) (ht : mailcoachref11_two.f 10 a1 = some t) (t1 : 1 ≤ t) (t2 : t ≤ 256) (hm : a0 % t = 0) (hs : a2.size ≤ 65536)
    (hL : mailcoachref10_Len.f k a2 = some L) (hlt : L < (a2.size : Int)) (hpk : mailcoachref10_Put.f k a2 = some (pk, 0)) (hu : mailcoachref11_two.f 10 (a1 - 1) = some u) (u1 : 1 ≤ u) (u2 : u ≤ 128) (hF : a0 + u = F) (hF2 : F < 256) (hpf : mailcoachref01_PutPrefix.f k F (a1 - 1) pk.length = some (pf, 0)) (hpn : pf.length ≤ 100) (hkn : pk.length ≤ 300000) :
    Calls Tryz.prog 6 #[.int .u8 a0, .int .i64 a1, .string a2] w fun e w' => ∃ v, e = .returned (.tuple #[v, .int .i64 0]) ∧ Kd.R (Kd.int .u8) 5 w' w.heap.size (fun _ => True) v (pf ++ pk) ∧ Below w.heap.size w w' := by
  have HT := Aside0.mk ht
  have HU := Aside0.mk hu
  have HLN := Aside0.mk hL
  have HPUT := Aside0.mk hpk
  have HPF := Aside0.mk (show mailcoachref01_PutPrefix.f k (a0 + u) (a1 - 1) pk.length = some (pf, 0) by rw [hF]; exact hpf)
  have hne : (a0 % t != 0) = false := by simpa using hm
  have hs2 : (a2.size : Int) ≤ (65536 : Int) := by omega
  have hsum : a0 + u < 256 := by omega
  have hdl : decide (L < (a2.size : Int)) = true := decide_eq_true (by omega)
  have kb := fun W => print_bytes (P := Tryz.prog) 9 23 5 Tryz.underlying9 Tryz.underlying23 Tryz.underlying5 a2 W
  clear ht hm hL hpf hu hpk hF hF2
  go_enter Tryz.func6, Tryz.ntmps6
  go_upto_region 8 with (first | (go_at_call 15; refine (mailcoachref11_two.calls 10 a1 t _ HT.out).mono ?_; rintro e w1 ⟨rfl, hd⟩; have HB1 := Aside0.mk hd.below; have HB2 := Aside0.mk (bytes_below HB1.out HB1.out.size 5 a2); clear hd) | (go_at_call 16; refine (mailcoachref10_Len.calls k a2 L _ HLN.out).mono ?_; rintro e w3 ⟨rfl, hd⟩; have HB3 := Aside0.mk (below_step HB2.out hd); clear hd) | (go_at_call 17; refine (mailcoachref10_Put.calls k a2 pk 0 _ HPUT.out).mono ?_; rintro e w4 ⟨v4, rfl, hr4, hd⟩; have HB4 := Aside0.mk (below_step HB3.out hd); obtain ⟨A4, c4, rfl⟩ := Kd.R_slice hr4; have HR4 := Aside0.mk (own_reads' (k := .u8) (show w4.ownsRow w3.heap.size 5 1 (.slice A4 pk.length c4) pk.length (nums .u8 pk) from Kd.own_of_R hr4)); clear hd hr4))
  go_wp2_with (first | (go_at_call 15; refine (mailcoachref11_two.calls 10 (a1 - 1) u _ HU.out).mono ?_; rintro e w5 ⟨rfl, hd⟩; have HB5 := Aside0.mk (below_step HB4.out hd.below); have HR5 := Aside0.mk (ReadsInt.below HR4.out hd.below); clear hd) | (go_at_call 18; refine (mailcoachref01_PutPrefix.calls k (a0 + u) (a1 - 1) pk.length pf 0 _ HPF.out).mono ?_; rintro e w6 ⟨v6, rfl, hr6, hd⟩; have HB6 := Aside0.mk (below_step HB5.out hd); have HRD := Aside0.mk (ReadsInt.below HR5.out hd); have HR6 := Aside0.mk (own_weaken (Kd.own_of_R hr6) HB5.out.size); clear hd hr6) | (at_builtin; refine print_append_row (w0 := w) w.heap.size rfl (.tmp 56) (.tmp 57) 23 5 .u8 1 rfl Tryz.underlying23 man_info_u8 (by decide) v6 pf pk A4 pk.length c4 rfl rfl HR6.out HRD.out HB6.out HB6.out.size (by omega) ?_; intro v7 w7 ho7 hb7 hg7 hat7; have HO7 := Aside0.mk ho7; have HB7 := Aside0.mk hb7; clear ho7 hb7 hg7 hat7))
  go_ret2
  exact ⟨_, rfl, man_R_of_own HO7.out, HB7.out⟩


/-! ### mailcoachlaw01_SameBytes: function 7 -/
def mailcoachlaw01_SameBytes.l0 : Nat → List Int → List Int → Int → Option (Bool)
  | 0, _, _, _ => none
  | k + 1, x0, x1, x5 => if x5 < (x0.length : Int) then (if 0 ≤ x5 then (if x5 < (x1.length : Int) then (if (rd x0 x5) = (rd x1 x5) then (mailcoachlaw01_SameBytes.l0 k x0 x1 (wrap64 (x5 + 1))) else (some false)) else (none)) else (none)) else (some true)
def mailcoachlaw01_SameBytes.f (k : Nat) (l0 : List Int) (l1 : List Int) : Option (Bool) := if (l0.length : Int) = (l1.length : Int) then (mailcoachlaw01_SameBytes.l0 k l0 l1 0) else (some false)
theorem mailcoachlaw01_SameBytes.mono_l : ∀ k, (∀ y0 y1 y2, LeO (mailcoachlaw01_SameBytes.l0 k y0 y1 y2) (mailcoachlaw01_SameBytes.l0 (k + 1) y0 y1 y2))
  | 0 => fun _ _ _ r h => by simp [mailcoachlaw01_SameBytes.l0] at h
  | k + 1 => by
    have ih0 := mailcoachlaw01_SameBytes.mono_l k
    · intro y0 y1 y2
      unfold mailcoachlaw01_SameBytes.l0
      repeat' first
      | (with_reducible exact ih0 _ _ _)
      | (with_reducible exact LeO.refl _)
      | (with_reducible exact LeO.none _)
      | (with_reducible refine LeO.ite ?_ ?_)
      | (with_reducible refine LeO.bind ?_ (fun _ => ?_))
      | exact ih0 _ _ _
      | exact LeO.none _
      | refine LeO.ite ?_ ?_
      | refine LeO.bind ?_ (fun _ => ?_)
theorem mailcoachlaw01_SameBytes.mono : ∀ a0 a1 k, LeO (mailcoachlaw01_SameBytes.f k a0 a1) (mailcoachlaw01_SameBytes.f (k + 1) a0 a1) := by
  intro a0 a1 k
  have ih0 := mailcoachlaw01_SameBytes.mono_l k
  unfold mailcoachlaw01_SameBytes.f
  repeat' first
      | (with_reducible exact ih0 _ _ _)
      | (with_reducible exact LeO.refl _)
      | (with_reducible exact LeO.none _)
      | (with_reducible refine LeO.ite ?_ ?_)
      | (with_reducible refine LeO.bind ?_ (fun _ => ?_))
      | exact ih0 _ _ _
      | exact LeO.none _
      | refine LeO.ite ?_ ?_
      | refine LeO.bind ?_ (fun _ => ?_)
set_option maxHeartbeats 8000000 in
set_option maxRecDepth 100000 in
theorem mailcoachlaw01_SameBytes.calls (k : Nat) (A0 : Option Addr) (c0 : Nat) (l0 : List Int) (A1 : Option Addr) (c1 : Nat) (l1 : List Int) (r : Bool) (w : World) (hr0 : Kd.C (Kd.int .u8) w A0 l0.length l0) (hc0 : l0.length ≤ c0) (hr1 : Kd.C (Kd.int .u8) w A1 l1.length l1) (hc1 : l1.length ≤ c1) (h : mailcoachlaw01_SameBytes.f k l0 l1 = some r) :
    Calls Tryz.prog 7 #[.slice A0 l0.length c0, .slice A1 l1.length c1] w fun e w' => e = .returned (.bool r) ∧ Drawn0 w w' := by
  have HR0 := Aside0.mk hr0
  have HC0 := Aside0.mk hc0
  clear hr0 hc0
  have HR1 := Aside0.mk hr1
  have HC1 := Aside0.mk hc1
  clear hr1 hc1
  have H : (if (l0.length : Int) = (l1.length : Int) then (mailcoachlaw01_SameBytes.l0 k l0 l1 0) else (some false)) = some r := h
  clear h
  by_cases c3 : (l0.length : Int) = (l1.length : Int)
  · rw [if_pos c3] at H
    have c3b0 : ((l0.length : Int) == (l1.length : Int)) = true := beq_iff_eq.mpr c3
    have c3b1 : ((l0.length : Int) != (l1.length : Int)) = false := bne_eq_false_iff_eq.mpr c3
    have c3b2 : (l0.length == l1.length) = true := by first | simpa using c3 | (simp at c3 ⊢; omega)
    clear c3
    have H' := Aside0.mk H
    clear H
    go_enter Tryz.func7, Tryz.ntmps7
    go_wp2
    repeat (go_quiet (fail); try go_wp2)
    go_loopg [5] k (fun kq v5 w' => ∃ (x5_1 : Int), v5 = .int .i64 x5_1 ∧ Aside0 (mailcoachlaw01_SameBytes.l0 kq l0 l1 x5_1 = some r) ∧ Aside0 (kq ≤ k) ∧ Drawn0 w w')
    case atStart => exact ⟨(0), (by first | rfl | (simp; done) | (simp [*]; done)), H', ⟨Nat.le_refl _⟩, by repeat (first | exact Drawn0.refl _ | apply Drawn0.step)⟩
    case round =>
      clear H'
      try clear c1
      try clear p2
      try clear c3
      try clear c3b0
      try clear c3b1
      try clear c3b2
      obtain ⟨x5_1, rfl, HA, HK1, ⟨m1, rfl⟩⟩ := hrel
      cases gk with
      | zero => exact absurd HA.out (by simp [mailcoachlaw01_SameBytes.l0])
      | succ k1 =>
        have H := HA.out
        clear HA
        simp only [mailcoachlaw01_SameBytes.l0] at H
        by_cases c4 : x5_1 < (l0.length : Int)
        · rw [if_pos c4] at H
          have c4b0 : decide (x5_1 < (l0.length : Int)) = true := decide_eq_true c4
          clear c4
          by_cases c5 : 0 ≤ x5_1
          · rw [if_pos c5] at H
            have c5b0 : decide (0 ≤ x5_1) = true := decide_eq_true c5
            clear c5
            by_cases c6 : x5_1 < (l1.length : Int)
            · rw [if_pos c6] at H
              have c6b0 : decide (x5_1 < (l1.length : Int)) = true := decide_eq_true c6
              clear c6
              by_cases c7 : (rd l0 x5_1) = (rd l1 x5_1)
              · rw [if_pos c7] at H
                have c7b0 : ((rd l0 x5_1) == (rd l1 x5_1)) = true := beq_iff_eq.mpr c7
                have c7b1 : ((rd l0 x5_1) != (rd l1 x5_1)) = false := bne_eq_false_iff_eq.mpr c7
                clear c7
                have H' := Aside0.mk H
                clear H
                have p143 : 0 ≤ (x5_1 : Int) := of_decide_eq_true (by first | (with_reducible assumption) | assumption)
                have q143 : x5_1 < (l0.length : Int) := of_decide_eq_true (by first | (with_reducible assumption) | assumption)
                obtain ⟨ad143, e143, hx143_0⟩ := Kd.at_int HR0.out x5_1 p143 q143
                cases e143
                replace p143 := eq_true p143
                replace q143 := eq_true q143
                have p144 : 0 ≤ (x5_1 : Int) := of_decide_eq_true (by first | (with_reducible assumption) | assumption)
                have q144 : x5_1 < (l1.length : Int) := of_decide_eq_true (by first | (with_reducible assumption) | assumption)
                obtain ⟨ad144, e144, hx144_0⟩ := Kd.at_int HR1.out x5_1 p144 q144
                cases e144
                replace p144 := eq_true p144
                replace q144 := eq_true q144
                go_wp2
                repeat (go_quiet (fail); try go_wp2)
                go_roundg k1
                case measure => have := HK1.out; omega
                case rel => exact ⟨(wrap64 (x5_1 + 1)), (by first | rfl | (simp; done) | (simp [*]; done)), H', ⟨by have := HK1.out; omega⟩, by repeat (first | exact Drawn0.refl _ | apply Drawn0.step)⟩
              · rw [if_neg c7] at H
                have c7b0 : ((rd l0 x5_1) == (rd l1 x5_1)) = false := beq_eq_false_iff_ne.mpr c7
                have c7b1 : ((rd l0 x5_1) != (rd l1 x5_1)) = true := bne_iff_ne.mpr c7
                obtain rfl := Option.some.inj H
                have p143 : 0 ≤ (x5_1 : Int) := of_decide_eq_true (by first | (with_reducible assumption) | assumption)
                have q143 : x5_1 < (l0.length : Int) := of_decide_eq_true (by first | (with_reducible assumption) | assumption)
                obtain ⟨ad143, e143, hx143_0⟩ := Kd.at_int HR0.out x5_1 p143 q143
                cases e143
                replace p143 := eq_true p143
                replace q143 := eq_true q143
                have p144 : 0 ≤ (x5_1 : Int) := of_decide_eq_true (by first | (with_reducible assumption) | assumption)
                have q144 : x5_1 < (l1.length : Int) := of_decide_eq_true (by first | (with_reducible assumption) | assumption)
                obtain ⟨ad144, e144, hx144_0⟩ := Kd.at_int HR1.out x5_1 p144 q144
                cases e144
                replace p144 := eq_true p144
                replace q144 := eq_true q144
                go_wp2
                repeat (go_quiet (fail); try go_wp2)
                go_ret
                exact ⟨by first | rfl | (simp; done) | (simp [*]; done), by repeat (first | exact Drawn0.refl _ | apply Drawn0.step)⟩
            · rw [if_neg c6] at H
              exact absurd H (by simp)
          · rw [if_neg c5] at H
            exact absurd H (by simp)
        · rw [if_neg c4] at H
          have c4b0 : decide (x5_1 < (l0.length : Int)) = false := decide_eq_false c4
          clear c4
          obtain rfl := Option.some.inj H
          go_wp2
          repeat (go_quiet (fail); try go_wp2)
          go_ret
          exact ⟨by first | rfl | (simp; done) | (simp [*]; done), by repeat (first | exact Drawn0.refl _ | apply Drawn0.step)⟩
  · rw [if_neg c3] at H
    have c3b0 : ((l0.length : Int) == (l1.length : Int)) = false := beq_eq_false_iff_ne.mpr c3
    have c3b1 : ((l0.length : Int) != (l1.length : Int)) = true := bne_iff_ne.mpr c3
    have c3b2 : (l0.length == l1.length) = false := by first | simpa using c3 | (simp at c3 ⊢; omega)
    obtain rfl := Option.some.inj H
    go_enter Tryz.func7, Tryz.ntmps7
    go_wp2
    repeat (go_quiet (fail); try go_wp2)
    go_ret
    exact ⟨by first | rfl | (simp; done) | (simp [*]; done), by repeat (first | exact Drawn0.refl _ | apply Drawn0.step)⟩

end Go.Proofs.YtmkmefdajbdceaaGreatDoor.PTQ
