import Derived.Test.YtcgbpallpnaclaaGreatDoorPMWx0
import Derived.Test.YtcgbpallpnaclaaGreatDoorPMWx8
namespace Go.Proofs.YtcgbpallpnaclaaGreatDoor.PMW
open Go.RowKit Go.Proofs.YtcgbpallpnaclaaGreatDoorW.PrintWords Go.Proofs.YtcgbpallpnaclaaGreatDoorW.PrintLast Go.Proofs.YtcgbpallpnaclaaGreatDoorW.PrintMore
attribute [local go_sem] max2_int min2_int max_two min_two max_three min_three max_four min_four   -- for this text's walks alone
set_option linter.unusedVariables false
set_option linter.unusedSimpArgs false
/-! ### mailcoachref22_token: function 38 -/
def mailcoachref22_token.l0 : Nat → ByteArray → Bool → Int → Option (Bool)
 | 0, _, _, _ => none
 | k + 1, x0, x1, x5 => if x5 < (x0.size : Int) then (if 0 ≤ x5 then (if (bt x0 x5) ≥ 97 then (if (bt x0 x5) ≤ 122 then (mailcoachref22_token.l0 k x0 x1 (wrap64 (x5 + 1))) else (if (bt x0 x5) ≥ 48 then (if (bt x0 x5) ≤ 57 then (mailcoachref22_token.l0 k x0 x1 (wrap64 (x5 + 1))) else (if x1 = true then (if (bt x0 x5) ≥ 65 then (if (bt x0 x5) ≤ 90 then (mailcoachref22_token.l0 k x0 x1 (wrap64 (x5 + 1))) else ((mailcoachref22_in.f k (bt x0 x5) (⟨#[33, 35, 36, 37, 38, 39, 42, 43, 45, 46, 94, 95, 124, 126]⟩ : ByteArray)).bind fun t152 => (if t152 = true then (mailcoachref22_token.l0 k x0 x1 (wrap64 (x5 + 1))) else (if (bt x0 x5) = 96 then (mailcoachref22_token.l0 k x0 x1 (wrap64 (x5 + 1))) else (some false))))) else ((mailcoachref22_in.f k (bt x0 x5) (⟨#[33, 35, 36, 37, 38, 39, 42, 43, 45, 46, 94, 95, 124, 126]⟩ : ByteArray)).bind fun t153 => (if t153 = true then (mailcoachref22_token.l0 k x0 x1 (wrap64 (x5 + 1))) else (if (bt x0 x5) = 96 then (mailcoachref22_token.l0 k x0 x1 (wrap64 (x5 + 1))) else (some false))))) else ((mailcoachref22_in.f k (bt x0 x5) (⟨#[33, 35, 36, 37, 38, 39, 42, 43, 45, 46, 94, 95, 124, 126]⟩ : ByteArray)).bind fun t154 => (if t154 = true then (mailcoachref22_token.l0 k x0 x1 (wrap64 (x5 + 1))) else (if (bt x0 x5) = 96 then (mailcoachref22_token.l0 k x0 x1 (wrap64 (x5 + 1))) else (some false)))))) else (if x1 = true then (if (bt x0 x5) ≥ 65 then (if (bt x0 x5) ≤ 90 then (mailcoachref22_token.l0 k x0 x1 (wrap64 (x5 + 1))) else ((mailcoachref22_in.f k (bt x0 x5) (⟨#[33, 35, 36, 37, 38, 39, 42, 43, 45, 46, 94, 95, 124, 126]⟩ : ByteArray)).bind fun t155 => (if t155 = true then (mailcoachref22_token.l0 k x0 x1 (wrap64 (x5 + 1))) else (if (bt x0 x5) = 96 then (mailcoachref22_token.l0 k x0 x1 (wrap64 (x5 + 1))) else (some false))))) else ((mailcoachref22_in.f k (bt x0 x5) (⟨#[33, 35, 36, 37, 38, 39, 42, 43, 45, 46, 94, 95, 124, 126]⟩ : ByteArray)).bind fun t156 => (if t156 = true then (mailcoachref22_token.l0 k x0 x1 (wrap64 (x5 + 1))) else (if (bt x0 x5) = 96 then (mailcoachref22_token.l0 k x0 x1 (wrap64 (x5 + 1))) else (some false))))) else ((mailcoachref22_in.f k (bt x0 x5) (⟨#[33, 35, 36, 37, 38, 39, 42, 43, 45, 46, 94, 95, 124, 126]⟩ : ByteArray)).bind fun t157 => (if t157 = true then (mailcoachref22_token.l0 k x0 x1 (wrap64 (x5 + 1))) else (if (bt x0 x5) = 96 then (mailcoachref22_token.l0 k x0 x1 (wrap64 (x5 + 1))) else (some false))))))) else (if (bt x0 x5) ≥ 48 then (if (bt x0 x5) ≤ 57 then (mailcoachref22_token.l0 k x0 x1 (wrap64 (x5 + 1))) else (if x1 = true then (if (bt x0 x5) ≥ 65 then (if (bt x0 x5) ≤ 90 then (mailcoachref22_token.l0 k x0 x1 (wrap64 (x5 + 1))) else ((mailcoachref22_in.f k (bt x0 x5) (⟨#[33, 35, 36, 37, 38, 39, 42, 43, 45, 46, 94, 95, 124, 126]⟩ : ByteArray)).bind fun t158 => (if t158 = true then (mailcoachref22_token.l0 k x0 x1 (wrap64 (x5 + 1))) else (if (bt x0 x5) = 96 then (mailcoachref22_token.l0 k x0 x1 (wrap64 (x5 + 1))) else (some false))))) else ((mailcoachref22_in.f k (bt x0 x5) (⟨#[33, 35, 36, 37, 38, 39, 42, 43, 45, 46, 94, 95, 124, 126]⟩ : ByteArray)).bind fun t159 => (if t159 = true then (mailcoachref22_token.l0 k x0 x1 (wrap64 (x5 + 1))) else (if (bt x0 x5) = 96 then (mailcoachref22_token.l0 k x0 x1 (wrap64 (x5 + 1))) else (some false))))) else ((mailcoachref22_in.f k (bt x0 x5) (⟨#[33, 35, 36, 37, 38, 39, 42, 43, 45, 46, 94, 95, 124, 126]⟩ : ByteArray)).bind fun t160 => (if t160 = true then (mailcoachref22_token.l0 k x0 x1 (wrap64 (x5 + 1))) else (if (bt x0 x5) = 96 then (mailcoachref22_token.l0 k x0 x1 (wrap64 (x5 + 1))) else (some false)))))) else (if x1 = true then (if (bt x0 x5) ≥ 65 then (if (bt x0 x5) ≤ 90 then (mailcoachref22_token.l0 k x0 x1 (wrap64 (x5 + 1))) else ((mailcoachref22_in.f k (bt x0 x5) (⟨#[33, 35, 36, 37, 38, 39, 42, 43, 45, 46, 94, 95, 124, 126]⟩ : ByteArray)).bind fun t161 => (if t161 = true then (mailcoachref22_token.l0 k x0 x1 (wrap64 (x5 + 1))) else (if (bt x0 x5) = 96 then (mailcoachref22_token.l0 k x0 x1 (wrap64 (x5 + 1))) else (some false))))) else ((mailcoachref22_in.f k (bt x0 x5) (⟨#[33, 35, 36, 37, 38, 39, 42, 43, 45, 46, 94, 95, 124, 126]⟩ : ByteArray)).bind fun t162 => (if t162 = true then (mailcoachref22_token.l0 k x0 x1 (wrap64 (x5 + 1))) else (if (bt x0 x5) = 96 then (mailcoachref22_token.l0 k x0 x1 (wrap64 (x5 + 1))) else (some false))))) else ((mailcoachref22_in.f k (bt x0 x5) (⟨#[33, 35, 36, 37, 38, 39, 42, 43, 45, 46, 94, 95, 124, 126]⟩ : ByteArray)).bind fun t163 => (if t163 = true then (mailcoachref22_token.l0 k x0 x1 (wrap64 (x5 + 1))) else (if (bt x0 x5) = 96 then (mailcoachref22_token.l0 k x0 x1 (wrap64 (x5 + 1))) else (some false))))))) else (none)) else (some (x0.toList != ([] : List UInt8)))
def mailcoachref22_token.f (k : Nat) (a0 : ByteArray) (a1 : Bool) : Option (Bool) := mailcoachref22_token.l0 k a0 a1 0
theorem mailcoachref22_token.mono_l : ∀ k, (∀ y0 y1 y2, LeO (mailcoachref22_token.l0 k y0 y1 y2) (mailcoachref22_token.l0 (k + 1) y0 y1 y2))
 | 0 => fun _ _ _ r h => by simp [mailcoachref22_token.l0] at h
 | k + 1 => by
  have ih0 := mailcoachref22_token.mono_l k
  ·intro y0 y1 y2
   unfold mailcoachref22_token.l0
   repeat' first
   | (with_reducible exact ih0 _ _ _)
   | (with_reducible exact mailcoachref22_in.mono _ _ _)
   | (with_reducible exact LeO.refl _)
   | (with_reducible exact LeO.none _)
   | (with_reducible refine LeO.ite ?_ ?_)
   | (with_reducible refine LeO.bind ?_ (fun _ => ?_))
   | exact ih0 _ _ _
   | exact mailcoachref22_in.mono _ _ _
   | exact LeO.none _
   | refine LeO.ite ?_ ?_
   | refine LeO.bind ?_ (fun _ => ?_)
theorem mailcoachref22_token.mono : ∀ a0 a1 k, LeO (mailcoachref22_token.f k a0 a1) (mailcoachref22_token.f (k + 1) a0 a1) := by
 intro a0 a1 k
 have ih0 := mailcoachref22_token.mono_l k
 unfold mailcoachref22_token.f
 repeat' first
   | (with_reducible exact ih0 _ _ _)
   | (with_reducible exact mailcoachref22_in.mono _ _ _)
   | (with_reducible exact LeO.refl _)
   | (with_reducible exact LeO.none _)
   | (with_reducible refine LeO.ite ?_ ?_)
   | (with_reducible refine LeO.bind ?_ (fun _ => ?_))
   | exact ih0 _ _ _
   | exact mailcoachref22_in.mono _ _ _
   | exact LeO.none _
   | refine LeO.ite ?_ ?_
   | refine LeO.bind ?_ (fun _ => ?_)
set_option maxHeartbeats 8000000 in
set_option maxRecDepth 100000 in
theorem mailcoachref22_token.calls (k : Nat) (a0 : ByteArray) (a1 : Bool) (r : Bool) (w : World) (h : mailcoachref22_token.f k a0 a1 = some r) :
  Calls Tryz.prog 38 #[.string a0, .bool a1] w fun e w' => e = .returned (.bool r) ∧ Drawn0 w w' := by
 have H : (mailcoachref22_token.l0 k a0 a1 0) = some r := h
 clear h
 have H' := Aside0.mk H
 clear H
 go_enter Tryz.func38, Tryz.ntmps38
 go_wp2
 go_loopg [5] k (fun kq v5 w' => ∃ (x5_1 : Int), v5 = .int .i64 x5_1 ∧ Aside0 (mailcoachref22_token.l0 kq a0 a1 x5_1 = some r) ∧ Aside0 (kq ≤ k) ∧ Drawn0 w w')
 case atStart => exact ⟨(0), (by first | rfl | (simp; done) | (simp [*]; done)), H', ⟨Nat.le_refl _⟩, by repeat (first | exact Drawn0.refl _ | apply Drawn0.step)⟩
 case round =>
  clear H'
  try clear p2
  obtain ⟨x5_1, rfl, HA, HK1, ⟨m1, rfl⟩⟩ := hrel
  cases gk with
  | zero => exact absurd HA.out (by simp [mailcoachref22_token.l0])
  | succ k1 =>
   have H := HA.out
   clear HA
   simp only [mailcoachref22_token.l0] at H
   by_cases c3 : x5_1 < (a0.size : Int)
   ·rw [if_pos c3] at H
    have c3b0 : decide (x5_1 < (a0.size : Int)) = true := decide_eq_true c3
    clear c3
    by_cases c4 : 0 ≤ x5_1
    ·rw [if_pos c4] at H
     have c4b0 : decide (0 ≤ x5_1) = true := decide_eq_true c4
     clear c4
     by_cases c6 : (bt a0 x5_1) ≥ 97
     ·rw [if_pos c6] at H
      have c6b0 : decide (97 ≤ (bt a0 x5_1)) = true := decide_eq_true c6
      clear c6
      by_cases c7 : (bt a0 x5_1) ≤ 122
      ·rw [if_pos c7] at H
       have c7b0 : decide ((bt a0 x5_1) ≤ 122) = true := decide_eq_true c7
       clear c7
       have H' := Aside0.mk H
       clear H
       have p5 : 0 ≤ (x5_1 : Int) := of_decide_eq_true (by first | (with_reducible assumption) | assumption)
       have q5 : x5_1 < (a0.size : Int) := of_decide_eq_true (by first | (with_reducible assumption) | assumption)
       have hx5 := bt_at a0 x5_1
       replace p5 := eq_true p5
       replace q5 := eq_true q5
       go_wp2
       go_roundg k1
       case measure => have := HK1.out; omega
       case rel => exact ⟨(wrap64 (x5_1 + 1)), (by first | rfl | (simp; done) | (simp [*]; done)), H', ⟨by have := HK1.out; omega⟩, by repeat (first | exact Drawn0.refl _ | apply Drawn0.step)⟩
      ·rw [if_neg c7] at H
       have c7b0 : decide ((bt a0 x5_1) ≤ 122) = false := decide_eq_false c7
       clear c7
       by_cases c8 : (bt a0 x5_1) ≥ 48
       ·rw [if_pos c8] at H
        have c8b0 : decide (48 ≤ (bt a0 x5_1)) = true := decide_eq_true c8
        clear c8
        by_cases c9 : (bt a0 x5_1) ≤ 57
        ·rw [if_pos c9] at H
         have c9b0 : decide ((bt a0 x5_1) ≤ 57) = true := decide_eq_true c9
         clear c9
         have H' := Aside0.mk H
         clear H
         have p5 : 0 ≤ (x5_1 : Int) := of_decide_eq_true (by first | (with_reducible assumption) | assumption)
         have q5 : x5_1 < (a0.size : Int) := of_decide_eq_true (by first | (with_reducible assumption) | assumption)
         have hx5 := bt_at a0 x5_1
         replace p5 := eq_true p5
         replace q5 := eq_true q5
         go_wp2
         go_roundg k1
         case measure => have := HK1.out; omega
         case rel => exact ⟨(wrap64 (x5_1 + 1)), (by first | rfl | (simp; done) | (simp [*]; done)), H', ⟨by have := HK1.out; omega⟩, by repeat (first | exact Drawn0.refl _ | apply Drawn0.step)⟩
        ·rw [if_neg c9] at H
         have c9b0 : decide ((bt a0 x5_1) ≤ 57) = false := decide_eq_false c9
         clear c9
         by_cases c10 : a1 = true
         ·subst c10
          have H1 : (if (bt a0 x5_1) ≥ 65 then (if (bt a0 x5_1) ≤ 90 then (mailcoachref22_token.l0 k1 a0 true (wrap64 (x5_1 + 1))) else ((mailcoachref22_in.f k1 (bt a0 x5_1) (⟨#[33, 35, 36, 37, 38, 39, 42, 43, 45, 46, 94, 95, 124, 126]⟩ : ByteArray)).bind fun t152 => (if t152 = true then (mailcoachref22_token.l0 k1 a0 true (wrap64 (x5_1 + 1))) else (if (bt a0 x5_1) = 96 then (mailcoachref22_token.l0 k1 a0 true (wrap64 (x5_1 + 1))) else (some false))))) else ((mailcoachref22_in.f k1 (bt a0 x5_1) (⟨#[33, 35, 36, 37, 38, 39, 42, 43, 45, 46, 94, 95, 124, 126]⟩ : ByteArray)).bind fun t153 => (if t153 = true then (mailcoachref22_token.l0 k1 a0 true (wrap64 (x5_1 + 1))) else (if (bt a0 x5_1) = 96 then (mailcoachref22_token.l0 k1 a0 true (wrap64 (x5_1 + 1))) else (some false))))) = some r := by rw [if_pos rfl] at H; exact H
          clear H
          have H := H1
          clear H1
          by_cases c11 : (bt a0 x5_1) ≥ 65
          ·rw [if_pos c11] at H
           have c11b0 : decide (65 ≤ (bt a0 x5_1)) = true := decide_eq_true c11
           clear c11
           by_cases c12 : (bt a0 x5_1) ≤ 90
           ·rw [if_pos c12] at H
            have c12b0 : decide ((bt a0 x5_1) ≤ 90) = true := decide_eq_true c12
            clear c12
            have H' := Aside0.mk H
            clear H
            have p5 : 0 ≤ (x5_1 : Int) := of_decide_eq_true (by first | (with_reducible assumption) | assumption)
            have q5 : x5_1 < (a0.size : Int) := of_decide_eq_true (by first | (with_reducible assumption) | assumption)
            have hx5 := bt_at a0 x5_1
            replace p5 := eq_true p5
            replace q5 := eq_true q5
            go_wp2
            go_roundg k1
            case measure => have := HK1.out; omega
            case rel => exact ⟨(wrap64 (x5_1 + 1)), (by first | rfl | (simp; done) | (simp [*]; done)), H', ⟨by have := HK1.out; omega⟩, by repeat (first | exact Drawn0.refl _ | apply Drawn0.step)⟩
           ·rw [if_neg c12] at H
            have c12b0 : decide ((bt a0 x5_1) ≤ 90) = false := decide_eq_false c12
            clear c12
            replace H := Option.bind_eq_some_iff.mp H
            obtain ⟨t152, A130, H⟩ := H
            replace H : (if t152 = true then (mailcoachref22_token.l0 k1 a0 true (wrap64 (x5_1 + 1))) else (if (bt a0 x5_1) = 96 then (mailcoachref22_token.l0 k1 a0 true (wrap64 (x5_1 + 1))) else (some false))) = some r := H
            have A13 := Aside0.mk A130
            clear A130
            by_cases c14 : t152 = true
            ·subst c14
             have H1 : (mailcoachref22_token.l0 k1 a0 true (wrap64 (x5_1 + 1))) = some r := by rw [if_pos rfl] at H; exact H
             clear H
             have H := H1
             clear H1
             have H' := Aside0.mk H
             clear H
             have p5 : 0 ≤ (x5_1 : Int) := of_decide_eq_true (by first | (with_reducible assumption) | assumption)
             have q5 : x5_1 < (a0.size : Int) := of_decide_eq_true (by first | (with_reducible assumption) | assumption)
             have hx5 := bt_at a0 x5_1
             replace p5 := eq_true p5
             replace q5 := eq_true q5
             go_wp2_with (first | (go_at_call 108; (with_reducible refine (mailcoachref22_in.calls k1 (bt a0 x5_1) (⟨#[33, 35, 36, 37, 38, 39, 42, 43, 45, 46, 94, 95, 124, 126]⟩ : ByteArray) true _ A13.out).mono ?_); rintro e w' ⟨rfl, ⟨nd, rfl⟩⟩))
             go_roundg k1
             case measure => have := HK1.out; omega
             case rel => exact ⟨(wrap64 (x5_1 + 1)), (by first | rfl | (simp; done) | (simp [*]; done)), H', ⟨by have := HK1.out; omega⟩, by repeat (first | exact Drawn0.refl _ | apply Drawn0.step)⟩
            ·replace c14 := Bool.eq_false_iff.mpr c14
             subst c14
             have H1 : (if (bt a0 x5_1) = 96 then (mailcoachref22_token.l0 k1 a0 true (wrap64 (x5_1 + 1))) else (some false)) = some r := by rw [if_neg (show ¬ (false = true) by decide)] at H; exact H
             clear H
             have H := H1
             clear H1
             by_cases c15 : (bt a0 x5_1) = 96
             ·rw [if_pos c15] at H
              have c15b0 : ((bt a0 x5_1) == 96) = true := beq_iff_eq.mpr c15
              have c15b1 : ((bt a0 x5_1) != 96) = false := bne_eq_false_iff_eq.mpr c15
              clear c15
              have H' := Aside0.mk H
              clear H
              have p5 : 0 ≤ (x5_1 : Int) := of_decide_eq_true (by first | (with_reducible assumption) | assumption)
              have q5 : x5_1 < (a0.size : Int) := of_decide_eq_true (by first | (with_reducible assumption) | assumption)
              have hx5 := bt_at a0 x5_1
              replace p5 := eq_true p5
              replace q5 := eq_true q5
              go_wp2_with (first | (go_at_call 108; (with_reducible refine (mailcoachref22_in.calls k1 (bt a0 x5_1) (⟨#[33, 35, 36, 37, 38, 39, 42, 43, 45, 46, 94, 95, 124, 126]⟩ : ByteArray) false _ A13.out).mono ?_); rintro e w' ⟨rfl, ⟨nd, rfl⟩⟩))
              go_roundg k1
              case measure => have := HK1.out; omega
              case rel => exact ⟨(wrap64 (x5_1 + 1)), (by first | rfl | (simp; done) | (simp [*]; done)), H', ⟨by have := HK1.out; omega⟩, by repeat (first | exact Drawn0.refl _ | apply Drawn0.step)⟩
             ·rw [if_neg c15] at H
              have c15b0 : ((bt a0 x5_1) == 96) = false := beq_eq_false_iff_ne.mpr c15
              have c15b1 : ((bt a0 x5_1) != 96) = true := bne_iff_ne.mpr c15
              obtain rfl := Option.some.inj H
              have p5 : 0 ≤ (x5_1 : Int) := of_decide_eq_true (by first | (with_reducible assumption) | assumption)
              have q5 : x5_1 < (a0.size : Int) := of_decide_eq_true (by first | (with_reducible assumption) | assumption)
              have hx5 := bt_at a0 x5_1
              replace p5 := eq_true p5
              replace q5 := eq_true q5
              go_wp2_with (first | (go_at_call 108; (with_reducible refine (mailcoachref22_in.calls k1 (bt a0 x5_1) (⟨#[33, 35, 36, 37, 38, 39, 42, 43, 45, 46, 94, 95, 124, 126]⟩ : ByteArray) false _ A13.out).mono ?_); rintro e w' ⟨rfl, ⟨nd, rfl⟩⟩))
              go_ret
              exact ⟨by first | rfl | (simp; done) | (simp [*]; done), by repeat (first | exact Drawn0.refl _ | apply Drawn0.step)⟩
          ·rw [if_neg c11] at H
           have c11b0 : decide (65 ≤ (bt a0 x5_1)) = false := decide_eq_false c11
           clear c11
           replace H := Option.bind_eq_some_iff.mp H
           obtain ⟨t153, A160, H⟩ := H
           replace H : (if t153 = true then (mailcoachref22_token.l0 k1 a0 true (wrap64 (x5_1 + 1))) else (if (bt a0 x5_1) = 96 then (mailcoachref22_token.l0 k1 a0 true (wrap64 (x5_1 + 1))) else (some false))) = some r := H
           have A16 := Aside0.mk A160
           clear A160
           by_cases c17 : t153 = true
           ·subst c17
            have H1 : (mailcoachref22_token.l0 k1 a0 true (wrap64 (x5_1 + 1))) = some r := by rw [if_pos rfl] at H; exact H
            clear H
            have H := H1
            clear H1
            have H' := Aside0.mk H
            clear H
            have p5 : 0 ≤ (x5_1 : Int) := of_decide_eq_true (by first | (with_reducible assumption) | assumption)
            have q5 : x5_1 < (a0.size : Int) := of_decide_eq_true (by first | (with_reducible assumption) | assumption)
            have hx5 := bt_at a0 x5_1
            replace p5 := eq_true p5
            replace q5 := eq_true q5
            go_wp2_with (first | (go_at_call 108; (with_reducible refine (mailcoachref22_in.calls k1 (bt a0 x5_1) (⟨#[33, 35, 36, 37, 38, 39, 42, 43, 45, 46, 94, 95, 124, 126]⟩ : ByteArray) true _ A16.out).mono ?_); rintro e w' ⟨rfl, ⟨nd, rfl⟩⟩))
            go_roundg k1
            case measure => have := HK1.out; omega
            case rel => exact ⟨(wrap64 (x5_1 + 1)), (by first | rfl | (simp; done) | (simp [*]; done)), H', ⟨by have := HK1.out; omega⟩, by repeat (first | exact Drawn0.refl _ | apply Drawn0.step)⟩
           ·replace c17 := Bool.eq_false_iff.mpr c17
            subst c17
            have H1 : (if (bt a0 x5_1) = 96 then (mailcoachref22_token.l0 k1 a0 true (wrap64 (x5_1 + 1))) else (some false)) = some r := by rw [if_neg (show ¬ (false = true) by decide)] at H; exact H
            clear H
            have H := H1
            clear H1
            by_cases c18 : (bt a0 x5_1) = 96
            ·rw [if_pos c18] at H
             have c18b0 : ((bt a0 x5_1) == 96) = true := beq_iff_eq.mpr c18
             have c18b1 : ((bt a0 x5_1) != 96) = false := bne_eq_false_iff_eq.mpr c18
             clear c18
             have H' := Aside0.mk H
             clear H
             have p5 : 0 ≤ (x5_1 : Int) := of_decide_eq_true (by first | (with_reducible assumption) | assumption)
             have q5 : x5_1 < (a0.size : Int) := of_decide_eq_true (by first | (with_reducible assumption) | assumption)
             have hx5 := bt_at a0 x5_1
             replace p5 := eq_true p5
             replace q5 := eq_true q5
             go_wp2_with (first | (go_at_call 108; (with_reducible refine (mailcoachref22_in.calls k1 (bt a0 x5_1) (⟨#[33, 35, 36, 37, 38, 39, 42, 43, 45, 46, 94, 95, 124, 126]⟩ : ByteArray) false _ A16.out).mono ?_); rintro e w' ⟨rfl, ⟨nd, rfl⟩⟩))
             go_roundg k1
             case measure => have := HK1.out; omega
             case rel => exact ⟨(wrap64 (x5_1 + 1)), (by first | rfl | (simp; done) | (simp [*]; done)), H', ⟨by have := HK1.out; omega⟩, by repeat (first | exact Drawn0.refl _ | apply Drawn0.step)⟩
            ·rw [if_neg c18] at H
             have c18b0 : ((bt a0 x5_1) == 96) = false := beq_eq_false_iff_ne.mpr c18
             have c18b1 : ((bt a0 x5_1) != 96) = true := bne_iff_ne.mpr c18
             obtain rfl := Option.some.inj H
             have p5 : 0 ≤ (x5_1 : Int) := of_decide_eq_true (by first | (with_reducible assumption) | assumption)
             have q5 : x5_1 < (a0.size : Int) := of_decide_eq_true (by first | (with_reducible assumption) | assumption)
             have hx5 := bt_at a0 x5_1
             replace p5 := eq_true p5
             replace q5 := eq_true q5
             go_wp2_with (first | (go_at_call 108; (with_reducible refine (mailcoachref22_in.calls k1 (bt a0 x5_1) (⟨#[33, 35, 36, 37, 38, 39, 42, 43, 45, 46, 94, 95, 124, 126]⟩ : ByteArray) false _ A16.out).mono ?_); rintro e w' ⟨rfl, ⟨nd, rfl⟩⟩))
             go_ret
             exact ⟨by first | rfl | (simp; done) | (simp [*]; done), by repeat (first | exact Drawn0.refl _ | apply Drawn0.step)⟩
         ·replace c10 := Bool.eq_false_iff.mpr c10
          subst c10
          have H1 : ((mailcoachref22_in.f k1 (bt a0 x5_1) (⟨#[33, 35, 36, 37, 38, 39, 42, 43, 45, 46, 94, 95, 124, 126]⟩ : ByteArray)).bind fun t154 => (if t154 = true then (mailcoachref22_token.l0 k1 a0 false (wrap64 (x5_1 + 1))) else (if (bt a0 x5_1) = 96 then (mailcoachref22_token.l0 k1 a0 false (wrap64 (x5_1 + 1))) else (some false)))) = some r := by rw [if_neg (show ¬ (false = true) by decide)] at H; exact H
          clear H
          have H := H1
          clear H1
          replace H := Option.bind_eq_some_iff.mp H
          obtain ⟨t154, A190, H⟩ := H
          replace H : (if t154 = true then (mailcoachref22_token.l0 k1 a0 false (wrap64 (x5_1 + 1))) else (if (bt a0 x5_1) = 96 then (mailcoachref22_token.l0 k1 a0 false (wrap64 (x5_1 + 1))) else (some false))) = some r := H
          have A19 := Aside0.mk A190
          clear A190
          by_cases c20 : t154 = true
          ·subst c20
           have H1 : (mailcoachref22_token.l0 k1 a0 false (wrap64 (x5_1 + 1))) = some r := by rw [if_pos rfl] at H; exact H
           clear H
           have H := H1
           clear H1
           have H' := Aside0.mk H
           clear H
           have p5 : 0 ≤ (x5_1 : Int) := of_decide_eq_true (by first | (with_reducible assumption) | assumption)
           have q5 : x5_1 < (a0.size : Int) := of_decide_eq_true (by first | (with_reducible assumption) | assumption)
           have hx5 := bt_at a0 x5_1
           replace p5 := eq_true p5
           replace q5 := eq_true q5
           go_wp2_with (first | (go_at_call 108; (with_reducible refine (mailcoachref22_in.calls k1 (bt a0 x5_1) (⟨#[33, 35, 36, 37, 38, 39, 42, 43, 45, 46, 94, 95, 124, 126]⟩ : ByteArray) true _ A19.out).mono ?_); rintro e w' ⟨rfl, ⟨nd, rfl⟩⟩))
           go_roundg k1
           case measure => have := HK1.out; omega
           case rel => exact ⟨(wrap64 (x5_1 + 1)), (by first | rfl | (simp; done) | (simp [*]; done)), H', ⟨by have := HK1.out; omega⟩, by repeat (first | exact Drawn0.refl _ | apply Drawn0.step)⟩
          ·replace c20 := Bool.eq_false_iff.mpr c20
           subst c20
           have H1 : (if (bt a0 x5_1) = 96 then (mailcoachref22_token.l0 k1 a0 false (wrap64 (x5_1 + 1))) else (some false)) = some r := by rw [if_neg (show ¬ (false = true) by decide)] at H; exact H
           clear H
           have H := H1
           clear H1
           by_cases c21 : (bt a0 x5_1) = 96
           ·rw [if_pos c21] at H
            have c21b0 : ((bt a0 x5_1) == 96) = true := beq_iff_eq.mpr c21
            have c21b1 : ((bt a0 x5_1) != 96) = false := bne_eq_false_iff_eq.mpr c21
            clear c21
            have H' := Aside0.mk H
            clear H
            have p5 : 0 ≤ (x5_1 : Int) := of_decide_eq_true (by first | (with_reducible assumption) | assumption)
            have q5 : x5_1 < (a0.size : Int) := of_decide_eq_true (by first | (with_reducible assumption) | assumption)
            have hx5 := bt_at a0 x5_1
            replace p5 := eq_true p5
            replace q5 := eq_true q5
            go_wp2_with (first | (go_at_call 108; (with_reducible refine (mailcoachref22_in.calls k1 (bt a0 x5_1) (⟨#[33, 35, 36, 37, 38, 39, 42, 43, 45, 46, 94, 95, 124, 126]⟩ : ByteArray) false _ A19.out).mono ?_); rintro e w' ⟨rfl, ⟨nd, rfl⟩⟩))
            go_roundg k1
            case measure => have := HK1.out; omega
            case rel => exact ⟨(wrap64 (x5_1 + 1)), (by first | rfl | (simp; done) | (simp [*]; done)), H', ⟨by have := HK1.out; omega⟩, by repeat (first | exact Drawn0.refl _ | apply Drawn0.step)⟩
           ·rw [if_neg c21] at H
            have c21b0 : ((bt a0 x5_1) == 96) = false := beq_eq_false_iff_ne.mpr c21
            have c21b1 : ((bt a0 x5_1) != 96) = true := bne_iff_ne.mpr c21
            obtain rfl := Option.some.inj H
            have p5 : 0 ≤ (x5_1 : Int) := of_decide_eq_true (by first | (with_reducible assumption) | assumption)
            have q5 : x5_1 < (a0.size : Int) := of_decide_eq_true (by first | (with_reducible assumption) | assumption)
            have hx5 := bt_at a0 x5_1
            replace p5 := eq_true p5
            replace q5 := eq_true q5
            go_wp2_with (first | (go_at_call 108; (with_reducible refine (mailcoachref22_in.calls k1 (bt a0 x5_1) (⟨#[33, 35, 36, 37, 38, 39, 42, 43, 45, 46, 94, 95, 124, 126]⟩ : ByteArray) false _ A19.out).mono ?_); rintro e w' ⟨rfl, ⟨nd, rfl⟩⟩))
            go_ret
            exact ⟨by first | rfl | (simp; done) | (simp [*]; done), by repeat (first | exact Drawn0.refl _ | apply Drawn0.step)⟩
       ·rw [if_neg c8] at H
        have c8b0 : decide (48 ≤ (bt a0 x5_1)) = false := decide_eq_false c8
        clear c8
        by_cases c22 : a1 = true
        ·subst c22
         have H1 : (if (bt a0 x5_1) ≥ 65 then (if (bt a0 x5_1) ≤ 90 then (mailcoachref22_token.l0 k1 a0 true (wrap64 (x5_1 + 1))) else ((mailcoachref22_in.f k1 (bt a0 x5_1) (⟨#[33, 35, 36, 37, 38, 39, 42, 43, 45, 46, 94, 95, 124, 126]⟩ : ByteArray)).bind fun t155 => (if t155 = true then (mailcoachref22_token.l0 k1 a0 true (wrap64 (x5_1 + 1))) else (if (bt a0 x5_1) = 96 then (mailcoachref22_token.l0 k1 a0 true (wrap64 (x5_1 + 1))) else (some false))))) else ((mailcoachref22_in.f k1 (bt a0 x5_1) (⟨#[33, 35, 36, 37, 38, 39, 42, 43, 45, 46, 94, 95, 124, 126]⟩ : ByteArray)).bind fun t156 => (if t156 = true then (mailcoachref22_token.l0 k1 a0 true (wrap64 (x5_1 + 1))) else (if (bt a0 x5_1) = 96 then (mailcoachref22_token.l0 k1 a0 true (wrap64 (x5_1 + 1))) else (some false))))) = some r := by rw [if_pos rfl] at H; exact H
         clear H
         have H := H1
         clear H1
         by_cases c23 : (bt a0 x5_1) ≥ 65
         ·rw [if_pos c23] at H
          have c23b0 : decide (65 ≤ (bt a0 x5_1)) = true := decide_eq_true c23
          clear c23
          by_cases c24 : (bt a0 x5_1) ≤ 90
          ·rw [if_pos c24] at H
           have c24b0 : decide ((bt a0 x5_1) ≤ 90) = true := decide_eq_true c24
           clear c24
           have H' := Aside0.mk H
           clear H
           have p5 : 0 ≤ (x5_1 : Int) := of_decide_eq_true (by first | (with_reducible assumption) | assumption)
           have q5 : x5_1 < (a0.size : Int) := of_decide_eq_true (by first | (with_reducible assumption) | assumption)
           have hx5 := bt_at a0 x5_1
           replace p5 := eq_true p5
           replace q5 := eq_true q5
           go_wp2
           go_roundg k1
           case measure => have := HK1.out; omega
           case rel => exact ⟨(wrap64 (x5_1 + 1)), (by first | rfl | (simp; done) | (simp [*]; done)), H', ⟨by have := HK1.out; omega⟩, by repeat (first | exact Drawn0.refl _ | apply Drawn0.step)⟩
          ·rw [if_neg c24] at H
           have c24b0 : decide ((bt a0 x5_1) ≤ 90) = false := decide_eq_false c24
           clear c24
           replace H := Option.bind_eq_some_iff.mp H
           obtain ⟨t155, A250, H⟩ := H
           replace H : (if t155 = true then (mailcoachref22_token.l0 k1 a0 true (wrap64 (x5_1 + 1))) else (if (bt a0 x5_1) = 96 then (mailcoachref22_token.l0 k1 a0 true (wrap64 (x5_1 + 1))) else (some false))) = some r := H
           have A25 := Aside0.mk A250
           clear A250
           by_cases c26 : t155 = true
           ·subst c26
            have H1 : (mailcoachref22_token.l0 k1 a0 true (wrap64 (x5_1 + 1))) = some r := by rw [if_pos rfl] at H; exact H
            clear H
            have H := H1
            clear H1
            have H' := Aside0.mk H
            clear H
            have p5 : 0 ≤ (x5_1 : Int) := of_decide_eq_true (by first | (with_reducible assumption) | assumption)
            have q5 : x5_1 < (a0.size : Int) := of_decide_eq_true (by first | (with_reducible assumption) | assumption)
            have hx5 := bt_at a0 x5_1
            replace p5 := eq_true p5
            replace q5 := eq_true q5
            go_wp2_with (first | (go_at_call 108; (with_reducible refine (mailcoachref22_in.calls k1 (bt a0 x5_1) (⟨#[33, 35, 36, 37, 38, 39, 42, 43, 45, 46, 94, 95, 124, 126]⟩ : ByteArray) true _ A25.out).mono ?_); rintro e w' ⟨rfl, ⟨nd, rfl⟩⟩))
            go_roundg k1
            case measure => have := HK1.out; omega
            case rel => exact ⟨(wrap64 (x5_1 + 1)), (by first | rfl | (simp; done) | (simp [*]; done)), H', ⟨by have := HK1.out; omega⟩, by repeat (first | exact Drawn0.refl _ | apply Drawn0.step)⟩
           ·replace c26 := Bool.eq_false_iff.mpr c26
            subst c26
            have H1 : (if (bt a0 x5_1) = 96 then (mailcoachref22_token.l0 k1 a0 true (wrap64 (x5_1 + 1))) else (some false)) = some r := by rw [if_neg (show ¬ (false = true) by decide)] at H; exact H
            clear H
            have H := H1
            clear H1
            by_cases c27 : (bt a0 x5_1) = 96
            ·rw [if_pos c27] at H
             have c27b0 : ((bt a0 x5_1) == 96) = true := beq_iff_eq.mpr c27
             have c27b1 : ((bt a0 x5_1) != 96) = false := bne_eq_false_iff_eq.mpr c27
             clear c27
             have H' := Aside0.mk H
             clear H
             have p5 : 0 ≤ (x5_1 : Int) := of_decide_eq_true (by first | (with_reducible assumption) | assumption)
             have q5 : x5_1 < (a0.size : Int) := of_decide_eq_true (by first | (with_reducible assumption) | assumption)
             have hx5 := bt_at a0 x5_1
             replace p5 := eq_true p5
             replace q5 := eq_true q5
             go_wp2_with (first | (go_at_call 108; (with_reducible refine (mailcoachref22_in.calls k1 (bt a0 x5_1) (⟨#[33, 35, 36, 37, 38, 39, 42, 43, 45, 46, 94, 95, 124, 126]⟩ : ByteArray) false _ A25.out).mono ?_); rintro e w' ⟨rfl, ⟨nd, rfl⟩⟩))
             go_roundg k1
             case measure => have := HK1.out; omega
             case rel => exact ⟨(wrap64 (x5_1 + 1)), (by first | rfl | (simp; done) | (simp [*]; done)), H', ⟨by have := HK1.out; omega⟩, by repeat (first | exact Drawn0.refl _ | apply Drawn0.step)⟩
            ·rw [if_neg c27] at H
             have c27b0 : ((bt a0 x5_1) == 96) = false := beq_eq_false_iff_ne.mpr c27
             have c27b1 : ((bt a0 x5_1) != 96) = true := bne_iff_ne.mpr c27
             obtain rfl := Option.some.inj H
             have p5 : 0 ≤ (x5_1 : Int) := of_decide_eq_true (by first | (with_reducible assumption) | assumption)
             have q5 : x5_1 < (a0.size : Int) := of_decide_eq_true (by first | (with_reducible assumption) | assumption)
             have hx5 := bt_at a0 x5_1
             replace p5 := eq_true p5
             replace q5 := eq_true q5
             go_wp2_with (first | (go_at_call 108; (with_reducible refine (mailcoachref22_in.calls k1 (bt a0 x5_1) (⟨#[33, 35, 36, 37, 38, 39, 42, 43, 45, 46, 94, 95, 124, 126]⟩ : ByteArray) false _ A25.out).mono ?_); rintro e w' ⟨rfl, ⟨nd, rfl⟩⟩))
             go_ret
             exact ⟨by first | rfl | (simp; done) | (simp [*]; done), by repeat (first | exact Drawn0.refl _ | apply Drawn0.step)⟩
         ·rw [if_neg c23] at H
          have c23b0 : decide (65 ≤ (bt a0 x5_1)) = false := decide_eq_false c23
          clear c23
          replace H := Option.bind_eq_some_iff.mp H
          obtain ⟨t156, A280, H⟩ := H
          replace H : (if t156 = true then (mailcoachref22_token.l0 k1 a0 true (wrap64 (x5_1 + 1))) else (if (bt a0 x5_1) = 96 then (mailcoachref22_token.l0 k1 a0 true (wrap64 (x5_1 + 1))) else (some false))) = some r := H
          have A28 := Aside0.mk A280
          clear A280
          by_cases c29 : t156 = true
          ·subst c29
           have H1 : (mailcoachref22_token.l0 k1 a0 true (wrap64 (x5_1 + 1))) = some r := by rw [if_pos rfl] at H; exact H
           clear H
           have H := H1
           clear H1
           have H' := Aside0.mk H
           clear H
           have p5 : 0 ≤ (x5_1 : Int) := of_decide_eq_true (by first | (with_reducible assumption) | assumption)
           have q5 : x5_1 < (a0.size : Int) := of_decide_eq_true (by first | (with_reducible assumption) | assumption)
           have hx5 := bt_at a0 x5_1
           replace p5 := eq_true p5
           replace q5 := eq_true q5
           go_wp2_with (first | (go_at_call 108; (with_reducible refine (mailcoachref22_in.calls k1 (bt a0 x5_1) (⟨#[33, 35, 36, 37, 38, 39, 42, 43, 45, 46, 94, 95, 124, 126]⟩ : ByteArray) true _ A28.out).mono ?_); rintro e w' ⟨rfl, ⟨nd, rfl⟩⟩))
           go_roundg k1
           case measure => have := HK1.out; omega
           case rel => exact ⟨(wrap64 (x5_1 + 1)), (by first | rfl | (simp; done) | (simp [*]; done)), H', ⟨by have := HK1.out; omega⟩, by repeat (first | exact Drawn0.refl _ | apply Drawn0.step)⟩
          ·replace c29 := Bool.eq_false_iff.mpr c29
           subst c29
           have H1 : (if (bt a0 x5_1) = 96 then (mailcoachref22_token.l0 k1 a0 true (wrap64 (x5_1 + 1))) else (some false)) = some r := by rw [if_neg (show ¬ (false = true) by decide)] at H; exact H
           clear H
           have H := H1
           clear H1
           by_cases c30 : (bt a0 x5_1) = 96
           ·rw [if_pos c30] at H
            have c30b0 : ((bt a0 x5_1) == 96) = true := beq_iff_eq.mpr c30
            have c30b1 : ((bt a0 x5_1) != 96) = false := bne_eq_false_iff_eq.mpr c30
            clear c30
            have H' := Aside0.mk H
            clear H
            have p5 : 0 ≤ (x5_1 : Int) := of_decide_eq_true (by first | (with_reducible assumption) | assumption)
            have q5 : x5_1 < (a0.size : Int) := of_decide_eq_true (by first | (with_reducible assumption) | assumption)
            have hx5 := bt_at a0 x5_1
            replace p5 := eq_true p5
            replace q5 := eq_true q5
            go_wp2_with (first | (go_at_call 108; (with_reducible refine (mailcoachref22_in.calls k1 (bt a0 x5_1) (⟨#[33, 35, 36, 37, 38, 39, 42, 43, 45, 46, 94, 95, 124, 126]⟩ : ByteArray) false _ A28.out).mono ?_); rintro e w' ⟨rfl, ⟨nd, rfl⟩⟩))
            go_roundg k1
            case measure => have := HK1.out; omega
            case rel => exact ⟨(wrap64 (x5_1 + 1)), (by first | rfl | (simp; done) | (simp [*]; done)), H', ⟨by have := HK1.out; omega⟩, by repeat (first | exact Drawn0.refl _ | apply Drawn0.step)⟩
           ·rw [if_neg c30] at H
            have c30b0 : ((bt a0 x5_1) == 96) = false := beq_eq_false_iff_ne.mpr c30
            have c30b1 : ((bt a0 x5_1) != 96) = true := bne_iff_ne.mpr c30
            obtain rfl := Option.some.inj H
            have p5 : 0 ≤ (x5_1 : Int) := of_decide_eq_true (by first | (with_reducible assumption) | assumption)
            have q5 : x5_1 < (a0.size : Int) := of_decide_eq_true (by first | (with_reducible assumption) | assumption)
            have hx5 := bt_at a0 x5_1
            replace p5 := eq_true p5
            replace q5 := eq_true q5
            go_wp2_with (first | (go_at_call 108; (with_reducible refine (mailcoachref22_in.calls k1 (bt a0 x5_1) (⟨#[33, 35, 36, 37, 38, 39, 42, 43, 45, 46, 94, 95, 124, 126]⟩ : ByteArray) false _ A28.out).mono ?_); rintro e w' ⟨rfl, ⟨nd, rfl⟩⟩))
            go_ret
            exact ⟨by first | rfl | (simp; done) | (simp [*]; done), by repeat (first | exact Drawn0.refl _ | apply Drawn0.step)⟩
        ·replace c22 := Bool.eq_false_iff.mpr c22
         subst c22
         have H1 : ((mailcoachref22_in.f k1 (bt a0 x5_1) (⟨#[33, 35, 36, 37, 38, 39, 42, 43, 45, 46, 94, 95, 124, 126]⟩ : ByteArray)).bind fun t157 => (if t157 = true then (mailcoachref22_token.l0 k1 a0 false (wrap64 (x5_1 + 1))) else (if (bt a0 x5_1) = 96 then (mailcoachref22_token.l0 k1 a0 false (wrap64 (x5_1 + 1))) else (some false)))) = some r := by rw [if_neg (show ¬ (false = true) by decide)] at H; exact H
         clear H
         have H := H1
         clear H1
         replace H := Option.bind_eq_some_iff.mp H
         obtain ⟨t157, A310, H⟩ := H
         replace H : (if t157 = true then (mailcoachref22_token.l0 k1 a0 false (wrap64 (x5_1 + 1))) else (if (bt a0 x5_1) = 96 then (mailcoachref22_token.l0 k1 a0 false (wrap64 (x5_1 + 1))) else (some false))) = some r := H
         have A31 := Aside0.mk A310
         clear A310
         by_cases c32 : t157 = true
         ·subst c32
          have H1 : (mailcoachref22_token.l0 k1 a0 false (wrap64 (x5_1 + 1))) = some r := by rw [if_pos rfl] at H; exact H
          clear H
          have H := H1
          clear H1
          have H' := Aside0.mk H
          clear H
          have p5 : 0 ≤ (x5_1 : Int) := of_decide_eq_true (by first | (with_reducible assumption) | assumption)
          have q5 : x5_1 < (a0.size : Int) := of_decide_eq_true (by first | (with_reducible assumption) | assumption)
          have hx5 := bt_at a0 x5_1
          replace p5 := eq_true p5
          replace q5 := eq_true q5
          go_wp2_with (first | (go_at_call 108; (with_reducible refine (mailcoachref22_in.calls k1 (bt a0 x5_1) (⟨#[33, 35, 36, 37, 38, 39, 42, 43, 45, 46, 94, 95, 124, 126]⟩ : ByteArray) true _ A31.out).mono ?_); rintro e w' ⟨rfl, ⟨nd, rfl⟩⟩))
          go_roundg k1
          case measure => have := HK1.out; omega
          case rel => exact ⟨(wrap64 (x5_1 + 1)), (by first | rfl | (simp; done) | (simp [*]; done)), H', ⟨by have := HK1.out; omega⟩, by repeat (first | exact Drawn0.refl _ | apply Drawn0.step)⟩
         ·replace c32 := Bool.eq_false_iff.mpr c32
          subst c32
          have H1 : (if (bt a0 x5_1) = 96 then (mailcoachref22_token.l0 k1 a0 false (wrap64 (x5_1 + 1))) else (some false)) = some r := by rw [if_neg (show ¬ (false = true) by decide)] at H; exact H
          clear H
          have H := H1
          clear H1
          by_cases c33 : (bt a0 x5_1) = 96
          ·rw [if_pos c33] at H
           have c33b0 : ((bt a0 x5_1) == 96) = true := beq_iff_eq.mpr c33
           have c33b1 : ((bt a0 x5_1) != 96) = false := bne_eq_false_iff_eq.mpr c33
           clear c33
           have H' := Aside0.mk H
           clear H
           have p5 : 0 ≤ (x5_1 : Int) := of_decide_eq_true (by first | (with_reducible assumption) | assumption)
           have q5 : x5_1 < (a0.size : Int) := of_decide_eq_true (by first | (with_reducible assumption) | assumption)
           have hx5 := bt_at a0 x5_1
           replace p5 := eq_true p5
           replace q5 := eq_true q5
           go_wp2_with (first | (go_at_call 108; (with_reducible refine (mailcoachref22_in.calls k1 (bt a0 x5_1) (⟨#[33, 35, 36, 37, 38, 39, 42, 43, 45, 46, 94, 95, 124, 126]⟩ : ByteArray) false _ A31.out).mono ?_); rintro e w' ⟨rfl, ⟨nd, rfl⟩⟩))
           go_roundg k1
           case measure => have := HK1.out; omega
           case rel => exact ⟨(wrap64 (x5_1 + 1)), (by first | rfl | (simp; done) | (simp [*]; done)), H', ⟨by have := HK1.out; omega⟩, by repeat (first | exact Drawn0.refl _ | apply Drawn0.step)⟩
          ·rw [if_neg c33] at H
           have c33b0 : ((bt a0 x5_1) == 96) = false := beq_eq_false_iff_ne.mpr c33
           have c33b1 : ((bt a0 x5_1) != 96) = true := bne_iff_ne.mpr c33
           obtain rfl := Option.some.inj H
           have p5 : 0 ≤ (x5_1 : Int) := of_decide_eq_true (by first | (with_reducible assumption) | assumption)
           have q5 : x5_1 < (a0.size : Int) := of_decide_eq_true (by first | (with_reducible assumption) | assumption)
           have hx5 := bt_at a0 x5_1
           replace p5 := eq_true p5
           replace q5 := eq_true q5
           go_wp2_with (first | (go_at_call 108; (with_reducible refine (mailcoachref22_in.calls k1 (bt a0 x5_1) (⟨#[33, 35, 36, 37, 38, 39, 42, 43, 45, 46, 94, 95, 124, 126]⟩ : ByteArray) false _ A31.out).mono ?_); rintro e w' ⟨rfl, ⟨nd, rfl⟩⟩))
           go_ret
           exact ⟨by first | rfl | (simp; done) | (simp [*]; done), by repeat (first | exact Drawn0.refl _ | apply Drawn0.step)⟩
     ·rw [if_neg c6] at H
      have c6b0 : decide (97 ≤ (bt a0 x5_1)) = false := decide_eq_false c6
      clear c6
      by_cases c34 : (bt a0 x5_1) ≥ 48
      ·rw [if_pos c34] at H
       have c34b0 : decide (48 ≤ (bt a0 x5_1)) = true := decide_eq_true c34
       clear c34
       by_cases c35 : (bt a0 x5_1) ≤ 57
       ·rw [if_pos c35] at H
        have c35b0 : decide ((bt a0 x5_1) ≤ 57) = true := decide_eq_true c35
        clear c35
        have H' := Aside0.mk H
        clear H
        have p5 : 0 ≤ (x5_1 : Int) := of_decide_eq_true (by first | (with_reducible assumption) | assumption)
        have q5 : x5_1 < (a0.size : Int) := of_decide_eq_true (by first | (with_reducible assumption) | assumption)
        have hx5 := bt_at a0 x5_1
        replace p5 := eq_true p5
        replace q5 := eq_true q5
        go_wp2
        go_roundg k1
        case measure => have := HK1.out; omega
        case rel => exact ⟨(wrap64 (x5_1 + 1)), (by first | rfl | (simp; done) | (simp [*]; done)), H', ⟨by have := HK1.out; omega⟩, by repeat (first | exact Drawn0.refl _ | apply Drawn0.step)⟩
       ·rw [if_neg c35] at H
        have c35b0 : decide ((bt a0 x5_1) ≤ 57) = false := decide_eq_false c35
        clear c35
        by_cases c36 : a1 = true
        ·subst c36
         have H1 : (if (bt a0 x5_1) ≥ 65 then (if (bt a0 x5_1) ≤ 90 then (mailcoachref22_token.l0 k1 a0 true (wrap64 (x5_1 + 1))) else ((mailcoachref22_in.f k1 (bt a0 x5_1) (⟨#[33, 35, 36, 37, 38, 39, 42, 43, 45, 46, 94, 95, 124, 126]⟩ : ByteArray)).bind fun t158 => (if t158 = true then (mailcoachref22_token.l0 k1 a0 true (wrap64 (x5_1 + 1))) else (if (bt a0 x5_1) = 96 then (mailcoachref22_token.l0 k1 a0 true (wrap64 (x5_1 + 1))) else (some false))))) else ((mailcoachref22_in.f k1 (bt a0 x5_1) (⟨#[33, 35, 36, 37, 38, 39, 42, 43, 45, 46, 94, 95, 124, 126]⟩ : ByteArray)).bind fun t159 => (if t159 = true then (mailcoachref22_token.l0 k1 a0 true (wrap64 (x5_1 + 1))) else (if (bt a0 x5_1) = 96 then (mailcoachref22_token.l0 k1 a0 true (wrap64 (x5_1 + 1))) else (some false))))) = some r := by rw [if_pos rfl] at H; exact H
         clear H
         have H := H1
         clear H1
         by_cases c37 : (bt a0 x5_1) ≥ 65
         ·rw [if_pos c37] at H
          have c37b0 : decide (65 ≤ (bt a0 x5_1)) = true := decide_eq_true c37
          clear c37
          by_cases c38 : (bt a0 x5_1) ≤ 90
          ·rw [if_pos c38] at H
           have c38b0 : decide ((bt a0 x5_1) ≤ 90) = true := decide_eq_true c38
           clear c38
           have H' := Aside0.mk H
           clear H
           have p5 : 0 ≤ (x5_1 : Int) := of_decide_eq_true (by first | (with_reducible assumption) | assumption)
           have q5 : x5_1 < (a0.size : Int) := of_decide_eq_true (by first | (with_reducible assumption) | assumption)
           have hx5 := bt_at a0 x5_1
           replace p5 := eq_true p5
           replace q5 := eq_true q5
           go_wp2
           go_roundg k1
           case measure => have := HK1.out; omega
           case rel => exact ⟨(wrap64 (x5_1 + 1)), (by first | rfl | (simp; done) | (simp [*]; done)), H', ⟨by have := HK1.out; omega⟩, by repeat (first | exact Drawn0.refl _ | apply Drawn0.step)⟩
          ·rw [if_neg c38] at H
           have c38b0 : decide ((bt a0 x5_1) ≤ 90) = false := decide_eq_false c38
           clear c38
           replace H := Option.bind_eq_some_iff.mp H
           obtain ⟨t158, A390, H⟩ := H
           replace H : (if t158 = true then (mailcoachref22_token.l0 k1 a0 true (wrap64 (x5_1 + 1))) else (if (bt a0 x5_1) = 96 then (mailcoachref22_token.l0 k1 a0 true (wrap64 (x5_1 + 1))) else (some false))) = some r := H
           have A39 := Aside0.mk A390
           clear A390
           by_cases c40 : t158 = true
           ·subst c40
            have H1 : (mailcoachref22_token.l0 k1 a0 true (wrap64 (x5_1 + 1))) = some r := by rw [if_pos rfl] at H; exact H
            clear H
            have H := H1
            clear H1
            have H' := Aside0.mk H
            clear H
            have p5 : 0 ≤ (x5_1 : Int) := of_decide_eq_true (by first | (with_reducible assumption) | assumption)
            have q5 : x5_1 < (a0.size : Int) := of_decide_eq_true (by first | (with_reducible assumption) | assumption)
            have hx5 := bt_at a0 x5_1
            replace p5 := eq_true p5
            replace q5 := eq_true q5
            go_wp2_with (first | (go_at_call 108; (with_reducible refine (mailcoachref22_in.calls k1 (bt a0 x5_1) (⟨#[33, 35, 36, 37, 38, 39, 42, 43, 45, 46, 94, 95, 124, 126]⟩ : ByteArray) true _ A39.out).mono ?_); rintro e w' ⟨rfl, ⟨nd, rfl⟩⟩))
            go_roundg k1
            case measure => have := HK1.out; omega
            case rel => exact ⟨(wrap64 (x5_1 + 1)), (by first | rfl | (simp; done) | (simp [*]; done)), H', ⟨by have := HK1.out; omega⟩, by repeat (first | exact Drawn0.refl _ | apply Drawn0.step)⟩
           ·replace c40 := Bool.eq_false_iff.mpr c40
            subst c40
            have H1 : (if (bt a0 x5_1) = 96 then (mailcoachref22_token.l0 k1 a0 true (wrap64 (x5_1 + 1))) else (some false)) = some r := by rw [if_neg (show ¬ (false = true) by decide)] at H; exact H
            clear H
            have H := H1
            clear H1
            by_cases c41 : (bt a0 x5_1) = 96
            ·rw [if_pos c41] at H
             have c41b0 : ((bt a0 x5_1) == 96) = true := beq_iff_eq.mpr c41
             have c41b1 : ((bt a0 x5_1) != 96) = false := bne_eq_false_iff_eq.mpr c41
             clear c41
             have H' := Aside0.mk H
             clear H
             have p5 : 0 ≤ (x5_1 : Int) := of_decide_eq_true (by first | (with_reducible assumption) | assumption)
             have q5 : x5_1 < (a0.size : Int) := of_decide_eq_true (by first | (with_reducible assumption) | assumption)
             have hx5 := bt_at a0 x5_1
             replace p5 := eq_true p5
             replace q5 := eq_true q5
             go_wp2_with (first | (go_at_call 108; (with_reducible refine (mailcoachref22_in.calls k1 (bt a0 x5_1) (⟨#[33, 35, 36, 37, 38, 39, 42, 43, 45, 46, 94, 95, 124, 126]⟩ : ByteArray) false _ A39.out).mono ?_); rintro e w' ⟨rfl, ⟨nd, rfl⟩⟩))
             go_roundg k1
             case measure => have := HK1.out; omega
             case rel => exact ⟨(wrap64 (x5_1 + 1)), (by first | rfl | (simp; done) | (simp [*]; done)), H', ⟨by have := HK1.out; omega⟩, by repeat (first | exact Drawn0.refl _ | apply Drawn0.step)⟩
            ·rw [if_neg c41] at H
             have c41b0 : ((bt a0 x5_1) == 96) = false := beq_eq_false_iff_ne.mpr c41
             have c41b1 : ((bt a0 x5_1) != 96) = true := bne_iff_ne.mpr c41
             obtain rfl := Option.some.inj H
             have p5 : 0 ≤ (x5_1 : Int) := of_decide_eq_true (by first | (with_reducible assumption) | assumption)
             have q5 : x5_1 < (a0.size : Int) := of_decide_eq_true (by first | (with_reducible assumption) | assumption)
             have hx5 := bt_at a0 x5_1
             replace p5 := eq_true p5
             replace q5 := eq_true q5
             go_wp2_with (first | (go_at_call 108; (with_reducible refine (mailcoachref22_in.calls k1 (bt a0 x5_1) (⟨#[33, 35, 36, 37, 38, 39, 42, 43, 45, 46, 94, 95, 124, 126]⟩ : ByteArray) false _ A39.out).mono ?_); rintro e w' ⟨rfl, ⟨nd, rfl⟩⟩))
             go_ret
             exact ⟨by first | rfl | (simp; done) | (simp [*]; done), by repeat (first | exact Drawn0.refl _ | apply Drawn0.step)⟩
         ·rw [if_neg c37] at H
          have c37b0 : decide (65 ≤ (bt a0 x5_1)) = false := decide_eq_false c37
          clear c37
          replace H := Option.bind_eq_some_iff.mp H
          obtain ⟨t159, A420, H⟩ := H
          replace H : (if t159 = true then (mailcoachref22_token.l0 k1 a0 true (wrap64 (x5_1 + 1))) else (if (bt a0 x5_1) = 96 then (mailcoachref22_token.l0 k1 a0 true (wrap64 (x5_1 + 1))) else (some false))) = some r := H
          have A42 := Aside0.mk A420
          clear A420
          by_cases c43 : t159 = true
          ·subst c43
           have H1 : (mailcoachref22_token.l0 k1 a0 true (wrap64 (x5_1 + 1))) = some r := by rw [if_pos rfl] at H; exact H
           clear H
           have H := H1
           clear H1
           have H' := Aside0.mk H
           clear H
           have p5 : 0 ≤ (x5_1 : Int) := of_decide_eq_true (by first | (with_reducible assumption) | assumption)
           have q5 : x5_1 < (a0.size : Int) := of_decide_eq_true (by first | (with_reducible assumption) | assumption)
           have hx5 := bt_at a0 x5_1
           replace p5 := eq_true p5
           replace q5 := eq_true q5
           go_wp2_with (first | (go_at_call 108; (with_reducible refine (mailcoachref22_in.calls k1 (bt a0 x5_1) (⟨#[33, 35, 36, 37, 38, 39, 42, 43, 45, 46, 94, 95, 124, 126]⟩ : ByteArray) true _ A42.out).mono ?_); rintro e w' ⟨rfl, ⟨nd, rfl⟩⟩))
           go_roundg k1
           case measure => have := HK1.out; omega
           case rel => exact ⟨(wrap64 (x5_1 + 1)), (by first | rfl | (simp; done) | (simp [*]; done)), H', ⟨by have := HK1.out; omega⟩, by repeat (first | exact Drawn0.refl _ | apply Drawn0.step)⟩
          ·replace c43 := Bool.eq_false_iff.mpr c43
           subst c43
           have H1 : (if (bt a0 x5_1) = 96 then (mailcoachref22_token.l0 k1 a0 true (wrap64 (x5_1 + 1))) else (some false)) = some r := by rw [if_neg (show ¬ (false = true) by decide)] at H; exact H
           clear H
           have H := H1
           clear H1
           by_cases c44 : (bt a0 x5_1) = 96
           ·rw [if_pos c44] at H
            have c44b0 : ((bt a0 x5_1) == 96) = true := beq_iff_eq.mpr c44
            have c44b1 : ((bt a0 x5_1) != 96) = false := bne_eq_false_iff_eq.mpr c44
            clear c44
            have H' := Aside0.mk H
            clear H
            have p5 : 0 ≤ (x5_1 : Int) := of_decide_eq_true (by first | (with_reducible assumption) | assumption)
            have q5 : x5_1 < (a0.size : Int) := of_decide_eq_true (by first | (with_reducible assumption) | assumption)
            have hx5 := bt_at a0 x5_1
            replace p5 := eq_true p5
            replace q5 := eq_true q5
            go_wp2_with (first | (go_at_call 108; (with_reducible refine (mailcoachref22_in.calls k1 (bt a0 x5_1) (⟨#[33, 35, 36, 37, 38, 39, 42, 43, 45, 46, 94, 95, 124, 126]⟩ : ByteArray) false _ A42.out).mono ?_); rintro e w' ⟨rfl, ⟨nd, rfl⟩⟩))
            go_roundg k1
            case measure => have := HK1.out; omega
            case rel => exact ⟨(wrap64 (x5_1 + 1)), (by first | rfl | (simp; done) | (simp [*]; done)), H', ⟨by have := HK1.out; omega⟩, by repeat (first | exact Drawn0.refl _ | apply Drawn0.step)⟩
           ·rw [if_neg c44] at H
            have c44b0 : ((bt a0 x5_1) == 96) = false := beq_eq_false_iff_ne.mpr c44
            have c44b1 : ((bt a0 x5_1) != 96) = true := bne_iff_ne.mpr c44
            obtain rfl := Option.some.inj H
            have p5 : 0 ≤ (x5_1 : Int) := of_decide_eq_true (by first | (with_reducible assumption) | assumption)
            have q5 : x5_1 < (a0.size : Int) := of_decide_eq_true (by first | (with_reducible assumption) | assumption)
            have hx5 := bt_at a0 x5_1
            replace p5 := eq_true p5
            replace q5 := eq_true q5
            go_wp2_with (first | (go_at_call 108; (with_reducible refine (mailcoachref22_in.calls k1 (bt a0 x5_1) (⟨#[33, 35, 36, 37, 38, 39, 42, 43, 45, 46, 94, 95, 124, 126]⟩ : ByteArray) false _ A42.out).mono ?_); rintro e w' ⟨rfl, ⟨nd, rfl⟩⟩))
            go_ret
            exact ⟨by first | rfl | (simp; done) | (simp [*]; done), by repeat (first | exact Drawn0.refl _ | apply Drawn0.step)⟩
        ·replace c36 := Bool.eq_false_iff.mpr c36
         subst c36
         have H1 : ((mailcoachref22_in.f k1 (bt a0 x5_1) (⟨#[33, 35, 36, 37, 38, 39, 42, 43, 45, 46, 94, 95, 124, 126]⟩ : ByteArray)).bind fun t160 => (if t160 = true then (mailcoachref22_token.l0 k1 a0 false (wrap64 (x5_1 + 1))) else (if (bt a0 x5_1) = 96 then (mailcoachref22_token.l0 k1 a0 false (wrap64 (x5_1 + 1))) else (some false)))) = some r := by rw [if_neg (show ¬ (false = true) by decide)] at H; exact H
         clear H
         have H := H1
         clear H1
         replace H := Option.bind_eq_some_iff.mp H
         obtain ⟨t160, A450, H⟩ := H
         replace H : (if t160 = true then (mailcoachref22_token.l0 k1 a0 false (wrap64 (x5_1 + 1))) else (if (bt a0 x5_1) = 96 then (mailcoachref22_token.l0 k1 a0 false (wrap64 (x5_1 + 1))) else (some false))) = some r := H
         have A45 := Aside0.mk A450
         clear A450
         by_cases c46 : t160 = true
         ·subst c46
          have H1 : (mailcoachref22_token.l0 k1 a0 false (wrap64 (x5_1 + 1))) = some r := by rw [if_pos rfl] at H; exact H
          clear H
          have H := H1
          clear H1
          have H' := Aside0.mk H
          clear H
          have p5 : 0 ≤ (x5_1 : Int) := of_decide_eq_true (by first | (with_reducible assumption) | assumption)
          have q5 : x5_1 < (a0.size : Int) := of_decide_eq_true (by first | (with_reducible assumption) | assumption)
          have hx5 := bt_at a0 x5_1
          replace p5 := eq_true p5
          replace q5 := eq_true q5
          go_wp2_with (first | (go_at_call 108; (with_reducible refine (mailcoachref22_in.calls k1 (bt a0 x5_1) (⟨#[33, 35, 36, 37, 38, 39, 42, 43, 45, 46, 94, 95, 124, 126]⟩ : ByteArray) true _ A45.out).mono ?_); rintro e w' ⟨rfl, ⟨nd, rfl⟩⟩))
          go_roundg k1
          case measure => have := HK1.out; omega
          case rel => exact ⟨(wrap64 (x5_1 + 1)), (by first | rfl | (simp; done) | (simp [*]; done)), H', ⟨by have := HK1.out; omega⟩, by repeat (first | exact Drawn0.refl _ | apply Drawn0.step)⟩
         ·replace c46 := Bool.eq_false_iff.mpr c46
          subst c46
          have H1 : (if (bt a0 x5_1) = 96 then (mailcoachref22_token.l0 k1 a0 false (wrap64 (x5_1 + 1))) else (some false)) = some r := by rw [if_neg (show ¬ (false = true) by decide)] at H; exact H
          clear H
          have H := H1
          clear H1
          by_cases c47 : (bt a0 x5_1) = 96
          ·rw [if_pos c47] at H
           have c47b0 : ((bt a0 x5_1) == 96) = true := beq_iff_eq.mpr c47
           have c47b1 : ((bt a0 x5_1) != 96) = false := bne_eq_false_iff_eq.mpr c47
           clear c47
           have H' := Aside0.mk H
           clear H
           have p5 : 0 ≤ (x5_1 : Int) := of_decide_eq_true (by first | (with_reducible assumption) | assumption)
           have q5 : x5_1 < (a0.size : Int) := of_decide_eq_true (by first | (with_reducible assumption) | assumption)
           have hx5 := bt_at a0 x5_1
           replace p5 := eq_true p5
           replace q5 := eq_true q5
           go_wp2_with (first | (go_at_call 108; (with_reducible refine (mailcoachref22_in.calls k1 (bt a0 x5_1) (⟨#[33, 35, 36, 37, 38, 39, 42, 43, 45, 46, 94, 95, 124, 126]⟩ : ByteArray) false _ A45.out).mono ?_); rintro e w' ⟨rfl, ⟨nd, rfl⟩⟩))
           go_roundg k1
           case measure => have := HK1.out; omega
           case rel => exact ⟨(wrap64 (x5_1 + 1)), (by first | rfl | (simp; done) | (simp [*]; done)), H', ⟨by have := HK1.out; omega⟩, by repeat (first | exact Drawn0.refl _ | apply Drawn0.step)⟩
          ·rw [if_neg c47] at H
           have c47b0 : ((bt a0 x5_1) == 96) = false := beq_eq_false_iff_ne.mpr c47
           have c47b1 : ((bt a0 x5_1) != 96) = true := bne_iff_ne.mpr c47
           obtain rfl := Option.some.inj H
           have p5 : 0 ≤ (x5_1 : Int) := of_decide_eq_true (by first | (with_reducible assumption) | assumption)
           have q5 : x5_1 < (a0.size : Int) := of_decide_eq_true (by first | (with_reducible assumption) | assumption)
           have hx5 := bt_at a0 x5_1
           replace p5 := eq_true p5
           replace q5 := eq_true q5
           go_wp2_with (first | (go_at_call 108; (with_reducible refine (mailcoachref22_in.calls k1 (bt a0 x5_1) (⟨#[33, 35, 36, 37, 38, 39, 42, 43, 45, 46, 94, 95, 124, 126]⟩ : ByteArray) false _ A45.out).mono ?_); rintro e w' ⟨rfl, ⟨nd, rfl⟩⟩))
           go_ret
           exact ⟨by first | rfl | (simp; done) | (simp [*]; done), by repeat (first | exact Drawn0.refl _ | apply Drawn0.step)⟩
      ·rw [if_neg c34] at H
       have c34b0 : decide (48 ≤ (bt a0 x5_1)) = false := decide_eq_false c34
       clear c34
       by_cases c48 : a1 = true
       ·subst c48
        have H1 : (if (bt a0 x5_1) ≥ 65 then (if (bt a0 x5_1) ≤ 90 then (mailcoachref22_token.l0 k1 a0 true (wrap64 (x5_1 + 1))) else ((mailcoachref22_in.f k1 (bt a0 x5_1) (⟨#[33, 35, 36, 37, 38, 39, 42, 43, 45, 46, 94, 95, 124, 126]⟩ : ByteArray)).bind fun t161 => (if t161 = true then (mailcoachref22_token.l0 k1 a0 true (wrap64 (x5_1 + 1))) else (if (bt a0 x5_1) = 96 then (mailcoachref22_token.l0 k1 a0 true (wrap64 (x5_1 + 1))) else (some false))))) else ((mailcoachref22_in.f k1 (bt a0 x5_1) (⟨#[33, 35, 36, 37, 38, 39, 42, 43, 45, 46, 94, 95, 124, 126]⟩ : ByteArray)).bind fun t162 => (if t162 = true then (mailcoachref22_token.l0 k1 a0 true (wrap64 (x5_1 + 1))) else (if (bt a0 x5_1) = 96 then (mailcoachref22_token.l0 k1 a0 true (wrap64 (x5_1 + 1))) else (some false))))) = some r := by rw [if_pos rfl] at H; exact H
        clear H
        have H := H1
        clear H1
        by_cases c49 : (bt a0 x5_1) ≥ 65
        ·rw [if_pos c49] at H
         have c49b0 : decide (65 ≤ (bt a0 x5_1)) = true := decide_eq_true c49
         clear c49
         by_cases c50 : (bt a0 x5_1) ≤ 90
         ·rw [if_pos c50] at H
          have c50b0 : decide ((bt a0 x5_1) ≤ 90) = true := decide_eq_true c50
          clear c50
          have H' := Aside0.mk H
          clear H
          have p5 : 0 ≤ (x5_1 : Int) := of_decide_eq_true (by first | (with_reducible assumption) | assumption)
          have q5 : x5_1 < (a0.size : Int) := of_decide_eq_true (by first | (with_reducible assumption) | assumption)
          have hx5 := bt_at a0 x5_1
          replace p5 := eq_true p5
          replace q5 := eq_true q5
          go_wp2
          go_roundg k1
          case measure => have := HK1.out; omega
          case rel => exact ⟨(wrap64 (x5_1 + 1)), (by first | rfl | (simp; done) | (simp [*]; done)), H', ⟨by have := HK1.out; omega⟩, by repeat (first | exact Drawn0.refl _ | apply Drawn0.step)⟩
         ·rw [if_neg c50] at H
          have c50b0 : decide ((bt a0 x5_1) ≤ 90) = false := decide_eq_false c50
          clear c50
          replace H := Option.bind_eq_some_iff.mp H
          obtain ⟨t161, A510, H⟩ := H
          replace H : (if t161 = true then (mailcoachref22_token.l0 k1 a0 true (wrap64 (x5_1 + 1))) else (if (bt a0 x5_1) = 96 then (mailcoachref22_token.l0 k1 a0 true (wrap64 (x5_1 + 1))) else (some false))) = some r := H
          have A51 := Aside0.mk A510
          clear A510
          by_cases c52 : t161 = true
          ·subst c52
           have H1 : (mailcoachref22_token.l0 k1 a0 true (wrap64 (x5_1 + 1))) = some r := by rw [if_pos rfl] at H; exact H
           clear H
           have H := H1
           clear H1
           have H' := Aside0.mk H
           clear H
           have p5 : 0 ≤ (x5_1 : Int) := of_decide_eq_true (by first | (with_reducible assumption) | assumption)
           have q5 : x5_1 < (a0.size : Int) := of_decide_eq_true (by first | (with_reducible assumption) | assumption)
           have hx5 := bt_at a0 x5_1
           replace p5 := eq_true p5
           replace q5 := eq_true q5
           go_wp2_with (first | (go_at_call 108; (with_reducible refine (mailcoachref22_in.calls k1 (bt a0 x5_1) (⟨#[33, 35, 36, 37, 38, 39, 42, 43, 45, 46, 94, 95, 124, 126]⟩ : ByteArray) true _ A51.out).mono ?_); rintro e w' ⟨rfl, ⟨nd, rfl⟩⟩))
           go_roundg k1
           case measure => have := HK1.out; omega
           case rel => exact ⟨(wrap64 (x5_1 + 1)), (by first | rfl | (simp; done) | (simp [*]; done)), H', ⟨by have := HK1.out; omega⟩, by repeat (first | exact Drawn0.refl _ | apply Drawn0.step)⟩
          ·replace c52 := Bool.eq_false_iff.mpr c52
           subst c52
           have H1 : (if (bt a0 x5_1) = 96 then (mailcoachref22_token.l0 k1 a0 true (wrap64 (x5_1 + 1))) else (some false)) = some r := by rw [if_neg (show ¬ (false = true) by decide)] at H; exact H
           clear H
           have H := H1
           clear H1
           by_cases c53 : (bt a0 x5_1) = 96
           ·rw [if_pos c53] at H
            have c53b0 : ((bt a0 x5_1) == 96) = true := beq_iff_eq.mpr c53
            have c53b1 : ((bt a0 x5_1) != 96) = false := bne_eq_false_iff_eq.mpr c53
            clear c53
            have H' := Aside0.mk H
            clear H
            have p5 : 0 ≤ (x5_1 : Int) := of_decide_eq_true (by first | (with_reducible assumption) | assumption)
            have q5 : x5_1 < (a0.size : Int) := of_decide_eq_true (by first | (with_reducible assumption) | assumption)
            have hx5 := bt_at a0 x5_1
            replace p5 := eq_true p5
            replace q5 := eq_true q5
            go_wp2_with (first | (go_at_call 108; (with_reducible refine (mailcoachref22_in.calls k1 (bt a0 x5_1) (⟨#[33, 35, 36, 37, 38, 39, 42, 43, 45, 46, 94, 95, 124, 126]⟩ : ByteArray) false _ A51.out).mono ?_); rintro e w' ⟨rfl, ⟨nd, rfl⟩⟩))
            go_roundg k1
            case measure => have := HK1.out; omega
            case rel => exact ⟨(wrap64 (x5_1 + 1)), (by first | rfl | (simp; done) | (simp [*]; done)), H', ⟨by have := HK1.out; omega⟩, by repeat (first | exact Drawn0.refl _ | apply Drawn0.step)⟩
           ·rw [if_neg c53] at H
            have c53b0 : ((bt a0 x5_1) == 96) = false := beq_eq_false_iff_ne.mpr c53
            have c53b1 : ((bt a0 x5_1) != 96) = true := bne_iff_ne.mpr c53
            obtain rfl := Option.some.inj H
            have p5 : 0 ≤ (x5_1 : Int) := of_decide_eq_true (by first | (with_reducible assumption) | assumption)
            have q5 : x5_1 < (a0.size : Int) := of_decide_eq_true (by first | (with_reducible assumption) | assumption)
            have hx5 := bt_at a0 x5_1
            replace p5 := eq_true p5
            replace q5 := eq_true q5
            go_wp2_with (first | (go_at_call 108; (with_reducible refine (mailcoachref22_in.calls k1 (bt a0 x5_1) (⟨#[33, 35, 36, 37, 38, 39, 42, 43, 45, 46, 94, 95, 124, 126]⟩ : ByteArray) false _ A51.out).mono ?_); rintro e w' ⟨rfl, ⟨nd, rfl⟩⟩))
            go_ret
            exact ⟨by first | rfl | (simp; done) | (simp [*]; done), by repeat (first | exact Drawn0.refl _ | apply Drawn0.step)⟩
        ·rw [if_neg c49] at H
         have c49b0 : decide (65 ≤ (bt a0 x5_1)) = false := decide_eq_false c49
         clear c49
         replace H := Option.bind_eq_some_iff.mp H
         obtain ⟨t162, A540, H⟩ := H
         replace H : (if t162 = true then (mailcoachref22_token.l0 k1 a0 true (wrap64 (x5_1 + 1))) else (if (bt a0 x5_1) = 96 then (mailcoachref22_token.l0 k1 a0 true (wrap64 (x5_1 + 1))) else (some false))) = some r := H
         have A54 := Aside0.mk A540
         clear A540
         by_cases c55 : t162 = true
         ·subst c55
          have H1 : (mailcoachref22_token.l0 k1 a0 true (wrap64 (x5_1 + 1))) = some r := by rw [if_pos rfl] at H; exact H
          clear H
          have H := H1
          clear H1
          have H' := Aside0.mk H
          clear H
          have p5 : 0 ≤ (x5_1 : Int) := of_decide_eq_true (by first | (with_reducible assumption) | assumption)
          have q5 : x5_1 < (a0.size : Int) := of_decide_eq_true (by first | (with_reducible assumption) | assumption)
          have hx5 := bt_at a0 x5_1
          replace p5 := eq_true p5
          replace q5 := eq_true q5
          go_wp2_with (first | (go_at_call 108; (with_reducible refine (mailcoachref22_in.calls k1 (bt a0 x5_1) (⟨#[33, 35, 36, 37, 38, 39, 42, 43, 45, 46, 94, 95, 124, 126]⟩ : ByteArray) true _ A54.out).mono ?_); rintro e w' ⟨rfl, ⟨nd, rfl⟩⟩))
          go_roundg k1
          case measure => have := HK1.out; omega
          case rel => exact ⟨(wrap64 (x5_1 + 1)), (by first | rfl | (simp; done) | (simp [*]; done)), H', ⟨by have := HK1.out; omega⟩, by repeat (first | exact Drawn0.refl _ | apply Drawn0.step)⟩
         ·replace c55 := Bool.eq_false_iff.mpr c55
          subst c55
          have H1 : (if (bt a0 x5_1) = 96 then (mailcoachref22_token.l0 k1 a0 true (wrap64 (x5_1 + 1))) else (some false)) = some r := by rw [if_neg (show ¬ (false = true) by decide)] at H; exact H
          clear H
          have H := H1
          clear H1
          by_cases c56 : (bt a0 x5_1) = 96
          ·rw [if_pos c56] at H
           have c56b0 : ((bt a0 x5_1) == 96) = true := beq_iff_eq.mpr c56
           have c56b1 : ((bt a0 x5_1) != 96) = false := bne_eq_false_iff_eq.mpr c56
           clear c56
           have H' := Aside0.mk H
           clear H
           have p5 : 0 ≤ (x5_1 : Int) := of_decide_eq_true (by first | (with_reducible assumption) | assumption)
           have q5 : x5_1 < (a0.size : Int) := of_decide_eq_true (by first | (with_reducible assumption) | assumption)
           have hx5 := bt_at a0 x5_1
           replace p5 := eq_true p5
           replace q5 := eq_true q5
           go_wp2_with (first | (go_at_call 108; (with_reducible refine (mailcoachref22_in.calls k1 (bt a0 x5_1) (⟨#[33, 35, 36, 37, 38, 39, 42, 43, 45, 46, 94, 95, 124, 126]⟩ : ByteArray) false _ A54.out).mono ?_); rintro e w' ⟨rfl, ⟨nd, rfl⟩⟩))
           go_roundg k1
           case measure => have := HK1.out; omega
           case rel => exact ⟨(wrap64 (x5_1 + 1)), (by first | rfl | (simp; done) | (simp [*]; done)), H', ⟨by have := HK1.out; omega⟩, by repeat (first | exact Drawn0.refl _ | apply Drawn0.step)⟩
          ·rw [if_neg c56] at H
           have c56b0 : ((bt a0 x5_1) == 96) = false := beq_eq_false_iff_ne.mpr c56
           have c56b1 : ((bt a0 x5_1) != 96) = true := bne_iff_ne.mpr c56
           obtain rfl := Option.some.inj H
           have p5 : 0 ≤ (x5_1 : Int) := of_decide_eq_true (by first | (with_reducible assumption) | assumption)
           have q5 : x5_1 < (a0.size : Int) := of_decide_eq_true (by first | (with_reducible assumption) | assumption)
           have hx5 := bt_at a0 x5_1
           replace p5 := eq_true p5
           replace q5 := eq_true q5
           go_wp2_with (first | (go_at_call 108; (with_reducible refine (mailcoachref22_in.calls k1 (bt a0 x5_1) (⟨#[33, 35, 36, 37, 38, 39, 42, 43, 45, 46, 94, 95, 124, 126]⟩ : ByteArray) false _ A54.out).mono ?_); rintro e w' ⟨rfl, ⟨nd, rfl⟩⟩))
           go_ret
           exact ⟨by first | rfl | (simp; done) | (simp [*]; done), by repeat (first | exact Drawn0.refl _ | apply Drawn0.step)⟩
       ·replace c48 := Bool.eq_false_iff.mpr c48
        subst c48
        have H1 : ((mailcoachref22_in.f k1 (bt a0 x5_1) (⟨#[33, 35, 36, 37, 38, 39, 42, 43, 45, 46, 94, 95, 124, 126]⟩ : ByteArray)).bind fun t163 => (if t163 = true then (mailcoachref22_token.l0 k1 a0 false (wrap64 (x5_1 + 1))) else (if (bt a0 x5_1) = 96 then (mailcoachref22_token.l0 k1 a0 false (wrap64 (x5_1 + 1))) else (some false)))) = some r := by rw [if_neg (show ¬ (false = true) by decide)] at H; exact H
        clear H
        have H := H1
        clear H1
        replace H := Option.bind_eq_some_iff.mp H
        obtain ⟨t163, A570, H⟩ := H
        replace H : (if t163 = true then (mailcoachref22_token.l0 k1 a0 false (wrap64 (x5_1 + 1))) else (if (bt a0 x5_1) = 96 then (mailcoachref22_token.l0 k1 a0 false (wrap64 (x5_1 + 1))) else (some false))) = some r := H
        have A57 := Aside0.mk A570
        clear A570
        by_cases c58 : t163 = true
        ·subst c58
         have H1 : (mailcoachref22_token.l0 k1 a0 false (wrap64 (x5_1 + 1))) = some r := by rw [if_pos rfl] at H; exact H
         clear H
         have H := H1
         clear H1
         have H' := Aside0.mk H
         clear H
         have p5 : 0 ≤ (x5_1 : Int) := of_decide_eq_true (by first | (with_reducible assumption) | assumption)
         have q5 : x5_1 < (a0.size : Int) := of_decide_eq_true (by first | (with_reducible assumption) | assumption)
         have hx5 := bt_at a0 x5_1
         replace p5 := eq_true p5
         replace q5 := eq_true q5
         go_wp2_with (first | (go_at_call 108; (with_reducible refine (mailcoachref22_in.calls k1 (bt a0 x5_1) (⟨#[33, 35, 36, 37, 38, 39, 42, 43, 45, 46, 94, 95, 124, 126]⟩ : ByteArray) true _ A57.out).mono ?_); rintro e w' ⟨rfl, ⟨nd, rfl⟩⟩))
         go_roundg k1
         case measure => have := HK1.out; omega
         case rel => exact ⟨(wrap64 (x5_1 + 1)), (by first | rfl | (simp; done) | (simp [*]; done)), H', ⟨by have := HK1.out; omega⟩, by repeat (first | exact Drawn0.refl _ | apply Drawn0.step)⟩
        ·replace c58 := Bool.eq_false_iff.mpr c58
         subst c58
         have H1 : (if (bt a0 x5_1) = 96 then (mailcoachref22_token.l0 k1 a0 false (wrap64 (x5_1 + 1))) else (some false)) = some r := by rw [if_neg (show ¬ (false = true) by decide)] at H; exact H
         clear H
         have H := H1
         clear H1
         by_cases c59 : (bt a0 x5_1) = 96
         ·rw [if_pos c59] at H
          have c59b0 : ((bt a0 x5_1) == 96) = true := beq_iff_eq.mpr c59
          have c59b1 : ((bt a0 x5_1) != 96) = false := bne_eq_false_iff_eq.mpr c59
          clear c59
          have H' := Aside0.mk H
          clear H
          have p5 : 0 ≤ (x5_1 : Int) := of_decide_eq_true (by first | (with_reducible assumption) | assumption)
          have q5 : x5_1 < (a0.size : Int) := of_decide_eq_true (by first | (with_reducible assumption) | assumption)
          have hx5 := bt_at a0 x5_1
          replace p5 := eq_true p5
          replace q5 := eq_true q5
          go_wp2_with (first | (go_at_call 108; (with_reducible refine (mailcoachref22_in.calls k1 (bt a0 x5_1) (⟨#[33, 35, 36, 37, 38, 39, 42, 43, 45, 46, 94, 95, 124, 126]⟩ : ByteArray) false _ A57.out).mono ?_); rintro e w' ⟨rfl, ⟨nd, rfl⟩⟩))
          go_roundg k1
          case measure => have := HK1.out; omega
          case rel => exact ⟨(wrap64 (x5_1 + 1)), (by first | rfl | (simp; done) | (simp [*]; done)), H', ⟨by have := HK1.out; omega⟩, by repeat (first | exact Drawn0.refl _ | apply Drawn0.step)⟩
         ·rw [if_neg c59] at H
          have c59b0 : ((bt a0 x5_1) == 96) = false := beq_eq_false_iff_ne.mpr c59
          have c59b1 : ((bt a0 x5_1) != 96) = true := bne_iff_ne.mpr c59
          obtain rfl := Option.some.inj H
          have p5 : 0 ≤ (x5_1 : Int) := of_decide_eq_true (by first | (with_reducible assumption) | assumption)
          have q5 : x5_1 < (a0.size : Int) := of_decide_eq_true (by first | (with_reducible assumption) | assumption)
          have hx5 := bt_at a0 x5_1
          replace p5 := eq_true p5
          replace q5 := eq_true q5
          go_wp2_with (first | (go_at_call 108; (with_reducible refine (mailcoachref22_in.calls k1 (bt a0 x5_1) (⟨#[33, 35, 36, 37, 38, 39, 42, 43, 45, 46, 94, 95, 124, 126]⟩ : ByteArray) false _ A57.out).mono ?_); rintro e w' ⟨rfl, ⟨nd, rfl⟩⟩))
          go_ret
          exact ⟨by first | rfl | (simp; done) | (simp [*]; done), by repeat (first | exact Drawn0.refl _ | apply Drawn0.step)⟩
    ·rw [if_neg c4] at H
     exact absurd H (by simp)
   ·rw [if_neg c3] at H
    have c3b0 : decide (x5_1 < (a0.size : Int)) = false := decide_eq_false c3
    clear c3
    obtain rfl := Option.some.inj H
    go_wp2
    go_ret
    exact ⟨by first | rfl | (simp; done) | (simp [*]; done) | (cases hz_ : a0.toList <;> simp_all), by repeat (first | exact Drawn0.refl _ | apply Drawn0.step)⟩
end Go.Proofs.YtcgbpallpnaclaaGreatDoor.PMW
