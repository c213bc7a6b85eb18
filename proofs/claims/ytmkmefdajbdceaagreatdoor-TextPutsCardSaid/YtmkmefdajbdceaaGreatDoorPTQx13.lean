-- Written by wip/mprint.py (the kit's printer, and texts of this claim's own for what it does not take). Not trusted: Lean checks it.
import Derived.Test.YtmkmefdajbdceaaGreatDoorPTQx0
import Derived.Test.YtmkmefdajbdceaaGreatDoorPTQx9
import Derived.Test.YtmkmefdajbdceaaGreatDoorPTQx10
import Derived.Test.YtmkmefdajbdceaaGreatDoorPTQx11
import Derived.Test.YtmkmefdajbdceaaGreatDoorPTQx12
namespace Go.Proofs.YtmkmefdajbdceaaGreatDoor.PTQ
open Go.RowKit Go.Proofs.YtmkmefdajbdceaaGreatDoorW.PrintWords Go.Proofs.YtmkmefdajbdceaaGreatDoorW.PrintLast Go.Proofs.YtmkmefdajbdceaaGreatDoorW.PrintMore
attribute [local go_sem] max2_int min2_int max_two min_two max_three min_three max_four min_four   -- for this text's walks alone
set_option linter.unusedVariables false
set_option linter.unusedSimpArgs false

/-! ### mailcoachlaw01_Book_Apart: function 9, by hand -/
set_option maxHeartbeats 1600000 in
theorem book_fillNumber (g : Nat) (w : World) (hc : w.cell? ⟨g, 2, none⟩ = some (.slice none 0 0)) : Calls Tryz.prog 21 #[.pointer (some ⟨g, 0, none⟩)] w fun e w' => e = .returned (.tuple #[]) ∧ Drawn0 w w' := by
  go_enter Tryz.func21, Tryz.ntmps21
  go_wp2
  go_loopw [2] (fun v2 wr => v2 = .int .i64 0 ∧ Drawn0 w wr) (fun _ _ => 0)
  case atStart => exact ⟨rfl, Drawn0.refl _⟩
  case round =>
    obtain ⟨rfl, HD⟩ := hrel
    obtain ⟨m1, rfl⟩ := HD.out
    go_wp2
    exact bodyPost_end (v := .tuple #[]) (by simp [results, Tryz.results21, go_sem]) rfl ⟨rfl, HD⟩
set_option maxHeartbeats 1600000 in
theorem book_growNumber (g : Nat) (w : World) (hc : w.cell? ⟨g, 2, none⟩ = some (.slice none 0 0)) : Calls Tryz.prog 33 #[.pointer (some ⟨g, 0, none⟩)] w fun e w' => e = .returned (.tuple #[]) ∧ Drawn0 w w' := by
  go_enter Tryz.func33, Tryz.ntmps33
  go_wp2
  go_loopw [2] (fun v2 wr => v2 = .int .i64 0 ∧ Drawn0 w wr) (fun _ _ => 0)
  case atStart => exact ⟨rfl, Drawn0.refl _⟩
  case round =>
    obtain ⟨rfl, HD⟩ := hrel
    obtain ⟨m1, rfl⟩ := HD.out
    go_wp2
    exact bodyPost_end (v := .tuple #[]) (by simp [results, Tryz.results33, go_sem]) rfl ⟨rfl, HD⟩
set_option maxHeartbeats 1600000 in
theorem book_lookNumber (g : Nat) (w : World) (hc : w.cell? ⟨g, 2, none⟩ = some (.slice none 0 0)) : Calls Tryz.prog 45 #[.pointer (some ⟨g, 0, none⟩)] w fun e w' => e = .returned (.bool true) ∧ Drawn0 w w' := by
  go_enter Tryz.func45, Tryz.ntmps45
  go_wp2
  go_loopw [3] (fun v2 wr => v2 = .int .i64 0 ∧ Drawn0 w wr) (fun _ _ => 0)
  case atStart => exact ⟨rfl, Drawn0.refl _⟩
  case round =>
    obtain ⟨rfl, HD⟩ := hrel
    obtain ⟨m1, rfl⟩ := HD.out
    go_wp2
    go_ret
    exact ⟨rfl, HD⟩
set_option maxHeartbeats 1600000 in
theorem book_fillInt (g : Nat) (w : World) (hc : w.cell? ⟨g, 3, none⟩ = some (.slice none 0 0)) : Calls Tryz.prog 22 #[.pointer (some ⟨g, 0, none⟩)] w fun e w' => e = .returned (.tuple #[]) ∧ Drawn0 w w' := by
  go_enter Tryz.func22, Tryz.ntmps22
  go_wp2
  go_loopw [2] (fun v2 wr => v2 = .int .i64 0 ∧ Drawn0 w wr) (fun _ _ => 0)
  case atStart => exact ⟨rfl, Drawn0.refl _⟩
  case round =>
    obtain ⟨rfl, HD⟩ := hrel
    obtain ⟨m1, rfl⟩ := HD.out
    go_wp2
    exact bodyPost_end (v := .tuple #[]) (by simp [results, Tryz.results22, go_sem]) rfl ⟨rfl, HD⟩
set_option maxHeartbeats 1600000 in
theorem book_growInt (g : Nat) (w : World) (hc : w.cell? ⟨g, 3, none⟩ = some (.slice none 0 0)) : Calls Tryz.prog 34 #[.pointer (some ⟨g, 0, none⟩)] w fun e w' => e = .returned (.tuple #[]) ∧ Drawn0 w w' := by
  go_enter Tryz.func34, Tryz.ntmps34
  go_wp2
  go_loopw [2] (fun v2 wr => v2 = .int .i64 0 ∧ Drawn0 w wr) (fun _ _ => 0)
  case atStart => exact ⟨rfl, Drawn0.refl _⟩
  case round =>
    obtain ⟨rfl, HD⟩ := hrel
    obtain ⟨m1, rfl⟩ := HD.out
    go_wp2
    exact bodyPost_end (v := .tuple #[]) (by simp [results, Tryz.results34, go_sem]) rfl ⟨rfl, HD⟩
set_option maxHeartbeats 1600000 in
theorem book_lookInt (g : Nat) (w : World) (hc : w.cell? ⟨g, 3, none⟩ = some (.slice none 0 0)) : Calls Tryz.prog 46 #[.pointer (some ⟨g, 0, none⟩)] w fun e w' => e = .returned (.bool true) ∧ Drawn0 w w' := by
  go_enter Tryz.func46, Tryz.ntmps46
  go_wp2
  go_loopw [3] (fun v2 wr => v2 = .int .i64 0 ∧ Drawn0 w wr) (fun _ _ => 0)
  case atStart => exact ⟨rfl, Drawn0.refl _⟩
  case round =>
    obtain ⟨rfl, HD⟩ := hrel
    obtain ⟨m1, rfl⟩ := HD.out
    go_wp2
    go_ret
    exact ⟨rfl, HD⟩
set_option maxHeartbeats 1600000 in
theorem book_fillText (g : Nat) (w : World) (hc : w.cell? ⟨g, 4, none⟩ = some (.slice none 0 0)) : Calls Tryz.prog 23 #[.pointer (some ⟨g, 0, none⟩)] w fun e w' => e = .returned (.tuple #[]) ∧ Drawn0 w w' := by
  go_enter Tryz.func23, Tryz.ntmps23
  go_wp2
  go_loopw [2] (fun v2 wr => v2 = .int .i64 0 ∧ Drawn0 w wr) (fun _ _ => 0)
  case atStart => exact ⟨rfl, Drawn0.refl _⟩
  case round =>
    obtain ⟨rfl, HD⟩ := hrel
    obtain ⟨m1, rfl⟩ := HD.out
    go_wp2
    exact bodyPost_end (v := .tuple #[]) (by simp [results, Tryz.results23, go_sem]) rfl ⟨rfl, HD⟩
set_option maxHeartbeats 1600000 in
theorem book_growText (g : Nat) (w : World) (hc : w.cell? ⟨g, 4, none⟩ = some (.slice none 0 0)) : Calls Tryz.prog 35 #[.pointer (some ⟨g, 0, none⟩)] w fun e w' => e = .returned (.tuple #[]) ∧ Drawn0 w w' := by
  go_enter Tryz.func35, Tryz.ntmps35
  go_wp2
  go_loopw [2] (fun v2 wr => v2 = .int .i64 0 ∧ Drawn0 w wr) (fun _ _ => 0)
  case atStart => exact ⟨rfl, Drawn0.refl _⟩
  case round =>
    obtain ⟨rfl, HD⟩ := hrel
    obtain ⟨m1, rfl⟩ := HD.out
    go_wp2
    exact bodyPost_end (v := .tuple #[]) (by simp [results, Tryz.results35, go_sem]) rfl ⟨rfl, HD⟩
set_option maxHeartbeats 1600000 in
theorem book_lookText (g : Nat) (w : World) (hc : w.cell? ⟨g, 4, none⟩ = some (.slice none 0 0)) : Calls Tryz.prog 47 #[.pointer (some ⟨g, 0, none⟩)] w fun e w' => e = .returned (.bool true) ∧ Drawn0 w w' := by
  go_enter Tryz.func47, Tryz.ntmps47
  go_wp2
  go_loopw [3] (fun v2 wr => v2 = .int .i64 0 ∧ Drawn0 w wr) (fun _ _ => 0)
  case atStart => exact ⟨rfl, Drawn0.refl _⟩
  case round =>
    obtain ⟨rfl, HD⟩ := hrel
    obtain ⟨m1, rfl⟩ := HD.out
    go_wp2
    go_ret
    exact ⟨rfl, HD⟩
set_option maxHeartbeats 1600000 in
theorem book_fillBlob (g : Nat) (w : World) (hc : w.cell? ⟨g, 5, none⟩ = some (.slice none 0 0)) : Calls Tryz.prog 24 #[.pointer (some ⟨g, 0, none⟩)] w fun e w' => e = .returned (.tuple #[]) ∧ Drawn0 w w' := by
  go_enter Tryz.func24, Tryz.ntmps24
  go_wp2
  go_loopw [2] (fun v2 wr => v2 = .int .i64 0 ∧ Drawn0 w wr) (fun _ _ => 0)
  case atStart => exact ⟨rfl, Drawn0.refl _⟩
  case round =>
    obtain ⟨rfl, HD⟩ := hrel
    obtain ⟨m1, rfl⟩ := HD.out
    go_wp2
    exact bodyPost_end (v := .tuple #[]) (by simp [results, Tryz.results24, go_sem]) rfl ⟨rfl, HD⟩
set_option maxHeartbeats 1600000 in
theorem book_growBlob (g : Nat) (w : World) (hc : w.cell? ⟨g, 5, none⟩ = some (.slice none 0 0)) : Calls Tryz.prog 36 #[.pointer (some ⟨g, 0, none⟩)] w fun e w' => e = .returned (.tuple #[]) ∧ Drawn0 w w' := by
  go_enter Tryz.func36, Tryz.ntmps36
  go_wp2
  go_loopw [2] (fun v2 wr => v2 = .int .i64 0 ∧ Drawn0 w wr) (fun _ _ => 0)
  case atStart => exact ⟨rfl, Drawn0.refl _⟩
  case round =>
    obtain ⟨rfl, HD⟩ := hrel
    obtain ⟨m1, rfl⟩ := HD.out
    go_wp2
    exact bodyPost_end (v := .tuple #[]) (by simp [results, Tryz.results36, go_sem]) rfl ⟨rfl, HD⟩
set_option maxHeartbeats 1600000 in
theorem book_lookBlob (g : Nat) (w : World) (hc : w.cell? ⟨g, 5, none⟩ = some (.slice none 0 0)) : Calls Tryz.prog 48 #[.pointer (some ⟨g, 0, none⟩)] w fun e w' => e = .returned (.bool true) ∧ Drawn0 w w' := by
  go_enter Tryz.func48, Tryz.ntmps48
  go_wp2
  go_loopw [3] (fun v2 wr => v2 = .int .i64 0 ∧ Drawn0 w wr) (fun _ _ => 0)
  case atStart => exact ⟨rfl, Drawn0.refl _⟩
  case round =>
    obtain ⟨rfl, HD⟩ := hrel
    obtain ⟨m1, rfl⟩ := HD.out
    go_wp2
    go_ret
    exact ⟨rfl, HD⟩
set_option maxHeartbeats 1600000 in
theorem book_fillRange (g : Nat) (w : World) (hc : w.cell? ⟨g, 6, none⟩ = some (.slice none 0 0)) : Calls Tryz.prog 25 #[.pointer (some ⟨g, 0, none⟩)] w fun e w' => e = .returned (.tuple #[]) ∧ Drawn0 w w' := by
  go_enter Tryz.func25, Tryz.ntmps25
  go_wp2
  go_loopw [2] (fun v2 wr => v2 = .int .i64 0 ∧ Drawn0 w wr) (fun _ _ => 0)
  case atStart => exact ⟨rfl, Drawn0.refl _⟩
  case round =>
    obtain ⟨rfl, HD⟩ := hrel
    obtain ⟨m1, rfl⟩ := HD.out
    go_wp2
    exact bodyPost_end (v := .tuple #[]) (by simp [results, Tryz.results25, go_sem]) rfl ⟨rfl, HD⟩
set_option maxHeartbeats 1600000 in
theorem book_growRange (g : Nat) (w : World) (hc : w.cell? ⟨g, 6, none⟩ = some (.slice none 0 0)) : Calls Tryz.prog 37 #[.pointer (some ⟨g, 0, none⟩)] w fun e w' => e = .returned (.tuple #[]) ∧ Drawn0 w w' := by
  go_enter Tryz.func37, Tryz.ntmps37
  go_wp2
  go_loopw [2] (fun v2 wr => v2 = .int .i64 0 ∧ Drawn0 w wr) (fun _ _ => 0)
  case atStart => exact ⟨rfl, Drawn0.refl _⟩
  case round =>
    obtain ⟨rfl, HD⟩ := hrel
    obtain ⟨m1, rfl⟩ := HD.out
    go_wp2
    exact bodyPost_end (v := .tuple #[]) (by simp [results, Tryz.results37, go_sem]) rfl ⟨rfl, HD⟩
set_option maxHeartbeats 1600000 in
theorem book_lookRange (g : Nat) (w : World) (hc : w.cell? ⟨g, 6, none⟩ = some (.slice none 0 0)) : Calls Tryz.prog 49 #[.pointer (some ⟨g, 0, none⟩)] w fun e w' => e = .returned (.bool true) ∧ Drawn0 w w' := by
  go_enter Tryz.func49, Tryz.ntmps49
  go_wp2
  go_loopw [3] (fun v2 wr => v2 = .int .i64 0 ∧ Drawn0 w wr) (fun _ _ => 0)
  case atStart => exact ⟨rfl, Drawn0.refl _⟩
  case round =>
    obtain ⟨rfl, HD⟩ := hrel
    obtain ⟨m1, rfl⟩ := HD.out
    go_wp2
    go_ret
    exact ⟨rfl, HD⟩
set_option maxHeartbeats 1600000 in
theorem book_fillFrame (g : Nat) (w : World) (hc : w.cell? ⟨g, 7, none⟩ = some (.slice none 0 0)) : Calls Tryz.prog 26 #[.pointer (some ⟨g, 0, none⟩)] w fun e w' => e = .returned (.tuple #[]) ∧ Drawn0 w w' := by
  go_enter Tryz.func26, Tryz.ntmps26
  go_wp2
  go_loopw [2] (fun v2 wr => v2 = .int .i64 0 ∧ Drawn0 w wr) (fun _ _ => 0)
  case atStart => exact ⟨rfl, Drawn0.refl _⟩
  case round =>
    obtain ⟨rfl, HD⟩ := hrel
    obtain ⟨m1, rfl⟩ := HD.out
    go_wp2
    exact bodyPost_end (v := .tuple #[]) (by simp [results, Tryz.results26, go_sem]) rfl ⟨rfl, HD⟩
set_option maxHeartbeats 1600000 in
theorem book_growFrame (g : Nat) (w : World) (hc : w.cell? ⟨g, 7, none⟩ = some (.slice none 0 0)) : Calls Tryz.prog 38 #[.pointer (some ⟨g, 0, none⟩)] w fun e w' => e = .returned (.tuple #[]) ∧ Drawn0 w w' := by
  go_enter Tryz.func38, Tryz.ntmps38
  go_wp2
  go_loopw [2] (fun v2 wr => v2 = .int .i64 0 ∧ Drawn0 w wr) (fun _ _ => 0)
  case atStart => exact ⟨rfl, Drawn0.refl _⟩
  case round =>
    obtain ⟨rfl, HD⟩ := hrel
    obtain ⟨m1, rfl⟩ := HD.out
    go_wp2
    exact bodyPost_end (v := .tuple #[]) (by simp [results, Tryz.results38, go_sem]) rfl ⟨rfl, HD⟩
set_option maxHeartbeats 1600000 in
theorem book_lookFrame (g : Nat) (w : World) (hc : w.cell? ⟨g, 7, none⟩ = some (.slice none 0 0)) : Calls Tryz.prog 50 #[.pointer (some ⟨g, 0, none⟩)] w fun e w' => e = .returned (.bool true) ∧ Drawn0 w w' := by
  go_enter Tryz.func50, Tryz.ntmps50
  go_wp2
  go_loopw [3] (fun v2 wr => v2 = .int .i64 0 ∧ Drawn0 w wr) (fun _ _ => 0)
  case atStart => exact ⟨rfl, Drawn0.refl _⟩
  case round =>
    obtain ⟨rfl, HD⟩ := hrel
    obtain ⟨m1, rfl⟩ := HD.out
    go_wp2
    go_ret
    exact ⟨rfl, HD⟩
set_option maxHeartbeats 1600000 in
theorem book_fillField (g : Nat) (w : World) (hc : w.cell? ⟨g, 8, none⟩ = some (.slice none 0 0)) : Calls Tryz.prog 27 #[.pointer (some ⟨g, 0, none⟩)] w fun e w' => e = .returned (.tuple #[]) ∧ Drawn0 w w' := by
  go_enter Tryz.func27, Tryz.ntmps27
  go_wp2
  go_loopw [2] (fun v2 wr => v2 = .int .i64 0 ∧ Drawn0 w wr) (fun _ _ => 0)
  case atStart => exact ⟨rfl, Drawn0.refl _⟩
  case round =>
    obtain ⟨rfl, HD⟩ := hrel
    obtain ⟨m1, rfl⟩ := HD.out
    go_wp2
    exact bodyPost_end (v := .tuple #[]) (by simp [results, Tryz.results27, go_sem]) rfl ⟨rfl, HD⟩
set_option maxHeartbeats 1600000 in
theorem book_growField (g : Nat) (w : World) (hc : w.cell? ⟨g, 8, none⟩ = some (.slice none 0 0)) : Calls Tryz.prog 39 #[.pointer (some ⟨g, 0, none⟩)] w fun e w' => e = .returned (.tuple #[]) ∧ Drawn0 w w' := by
  go_enter Tryz.func39, Tryz.ntmps39
  go_wp2
  go_loopw [2] (fun v2 wr => v2 = .int .i64 0 ∧ Drawn0 w wr) (fun _ _ => 0)
  case atStart => exact ⟨rfl, Drawn0.refl _⟩
  case round =>
    obtain ⟨rfl, HD⟩ := hrel
    obtain ⟨m1, rfl⟩ := HD.out
    go_wp2
    exact bodyPost_end (v := .tuple #[]) (by simp [results, Tryz.results39, go_sem]) rfl ⟨rfl, HD⟩
set_option maxHeartbeats 1600000 in
theorem book_lookField (g : Nat) (w : World) (hc : w.cell? ⟨g, 8, none⟩ = some (.slice none 0 0)) : Calls Tryz.prog 51 #[.pointer (some ⟨g, 0, none⟩)] w fun e w' => e = .returned (.bool true) ∧ Drawn0 w w' := by
  go_enter Tryz.func51, Tryz.ntmps51
  go_wp2
  go_loopw [3] (fun v2 wr => v2 = .int .i64 0 ∧ Drawn0 w wr) (fun _ _ => 0)
  case atStart => exact ⟨rfl, Drawn0.refl _⟩
  case round =>
    obtain ⟨rfl, HD⟩ := hrel
    obtain ⟨m1, rfl⟩ := HD.out
    go_wp2
    go_ret
    exact ⟨rfl, HD⟩
set_option maxHeartbeats 1600000 in
theorem book_fillMessage (g : Nat) (w : World) (hc : w.cell? ⟨g, 9, none⟩ = some (.slice none 0 0)) : Calls Tryz.prog 28 #[.pointer (some ⟨g, 0, none⟩)] w fun e w' => e = .returned (.tuple #[]) ∧ Drawn0 w w' := by
  go_enter Tryz.func28, Tryz.ntmps28
  go_wp2
  go_loopw [2] (fun v2 wr => v2 = .int .i64 0 ∧ Drawn0 w wr) (fun _ _ => 0)
  case atStart => exact ⟨rfl, Drawn0.refl _⟩
  case round =>
    obtain ⟨rfl, HD⟩ := hrel
    obtain ⟨m1, rfl⟩ := HD.out
    go_wp2
    exact bodyPost_end (v := .tuple #[]) (by simp [results, Tryz.results28, go_sem]) rfl ⟨rfl, HD⟩
set_option maxHeartbeats 1600000 in
theorem book_growMessage (g : Nat) (w : World) (hc : w.cell? ⟨g, 9, none⟩ = some (.slice none 0 0)) : Calls Tryz.prog 40 #[.pointer (some ⟨g, 0, none⟩)] w fun e w' => e = .returned (.tuple #[]) ∧ Drawn0 w w' := by
  go_enter Tryz.func40, Tryz.ntmps40
  go_wp2
  go_loopw [2] (fun v2 wr => v2 = .int .i64 0 ∧ Drawn0 w wr) (fun _ _ => 0)
  case atStart => exact ⟨rfl, Drawn0.refl _⟩
  case round =>
    obtain ⟨rfl, HD⟩ := hrel
    obtain ⟨m1, rfl⟩ := HD.out
    go_wp2
    exact bodyPost_end (v := .tuple #[]) (by simp [results, Tryz.results40, go_sem]) rfl ⟨rfl, HD⟩
set_option maxHeartbeats 1600000 in
theorem book_lookMessage (g : Nat) (w : World) (hc : w.cell? ⟨g, 9, none⟩ = some (.slice none 0 0)) : Calls Tryz.prog 52 #[.pointer (some ⟨g, 0, none⟩)] w fun e w' => e = .returned (.bool true) ∧ Drawn0 w w' := by
  go_enter Tryz.func52, Tryz.ntmps52
  go_wp2
  go_loopw [3] (fun v2 wr => v2 = .int .i64 0 ∧ Drawn0 w wr) (fun _ _ => 0)
  case atStart => exact ⟨rfl, Drawn0.refl _⟩
  case round =>
    obtain ⟨rfl, HD⟩ := hrel
    obtain ⟨m1, rfl⟩ := HD.out
    go_wp2
    go_ret
    exact ⟨rfl, HD⟩
set_option maxHeartbeats 1600000 in
theorem book_fillRule (g : Nat) (w : World) (hc : w.cell? ⟨g, 10, none⟩ = some (.slice none 0 0)) : Calls Tryz.prog 29 #[.pointer (some ⟨g, 0, none⟩)] w fun e w' => e = .returned (.tuple #[]) ∧ Drawn0 w w' := by
  go_enter Tryz.func29, Tryz.ntmps29
  go_wp2
  go_loopw [2] (fun v2 wr => v2 = .int .i64 0 ∧ Drawn0 w wr) (fun _ _ => 0)
  case atStart => exact ⟨rfl, Drawn0.refl _⟩
  case round =>
    obtain ⟨rfl, HD⟩ := hrel
    obtain ⟨m1, rfl⟩ := HD.out
    go_wp2
    exact bodyPost_end (v := .tuple #[]) (by simp [results, Tryz.results29, go_sem]) rfl ⟨rfl, HD⟩
set_option maxHeartbeats 1600000 in
theorem book_growRule (g : Nat) (w : World) (hc : w.cell? ⟨g, 10, none⟩ = some (.slice none 0 0)) : Calls Tryz.prog 41 #[.pointer (some ⟨g, 0, none⟩)] w fun e w' => e = .returned (.tuple #[]) ∧ Drawn0 w w' := by
  go_enter Tryz.func41, Tryz.ntmps41
  go_wp2
  go_loopw [2] (fun v2 wr => v2 = .int .i64 0 ∧ Drawn0 w wr) (fun _ _ => 0)
  case atStart => exact ⟨rfl, Drawn0.refl _⟩
  case round =>
    obtain ⟨rfl, HD⟩ := hrel
    obtain ⟨m1, rfl⟩ := HD.out
    go_wp2
    exact bodyPost_end (v := .tuple #[]) (by simp [results, Tryz.results41, go_sem]) rfl ⟨rfl, HD⟩
set_option maxHeartbeats 1600000 in
theorem book_lookRule (g : Nat) (w : World) (hc : w.cell? ⟨g, 10, none⟩ = some (.slice none 0 0)) : Calls Tryz.prog 53 #[.pointer (some ⟨g, 0, none⟩)] w fun e w' => e = .returned (.bool true) ∧ Drawn0 w w' := by
  go_enter Tryz.func53, Tryz.ntmps53
  go_wp2
  go_loopw [3] (fun v2 wr => v2 = .int .i64 0 ∧ Drawn0 w wr) (fun _ _ => 0)
  case atStart => exact ⟨rfl, Drawn0.refl _⟩
  case round =>
    obtain ⟨rfl, HD⟩ := hrel
    obtain ⟨m1, rfl⟩ := HD.out
    go_wp2
    go_ret
    exact ⟨rfl, HD⟩
set_option maxHeartbeats 1600000 in
theorem book_fillEvent (g : Nat) (w : World) (hc : w.cell? ⟨g, 11, none⟩ = some (.slice none 0 0)) : Calls Tryz.prog 30 #[.pointer (some ⟨g, 0, none⟩)] w fun e w' => e = .returned (.tuple #[]) ∧ Drawn0 w w' := by
  go_enter Tryz.func30, Tryz.ntmps30
  go_wp2
  go_loopw [2] (fun v2 wr => v2 = .int .i64 0 ∧ Drawn0 w wr) (fun _ _ => 0)
  case atStart => exact ⟨rfl, Drawn0.refl _⟩
  case round =>
    obtain ⟨rfl, HD⟩ := hrel
    obtain ⟨m1, rfl⟩ := HD.out
    go_wp2
    exact bodyPost_end (v := .tuple #[]) (by simp [results, Tryz.results30, go_sem]) rfl ⟨rfl, HD⟩
set_option maxHeartbeats 1600000 in
theorem book_growEvent (g : Nat) (w : World) (hc : w.cell? ⟨g, 11, none⟩ = some (.slice none 0 0)) : Calls Tryz.prog 42 #[.pointer (some ⟨g, 0, none⟩)] w fun e w' => e = .returned (.tuple #[]) ∧ Drawn0 w w' := by
  go_enter Tryz.func42, Tryz.ntmps42
  go_wp2
  go_loopw [2] (fun v2 wr => v2 = .int .i64 0 ∧ Drawn0 w wr) (fun _ _ => 0)
  case atStart => exact ⟨rfl, Drawn0.refl _⟩
  case round =>
    obtain ⟨rfl, HD⟩ := hrel
    obtain ⟨m1, rfl⟩ := HD.out
    go_wp2
    exact bodyPost_end (v := .tuple #[]) (by simp [results, Tryz.results42, go_sem]) rfl ⟨rfl, HD⟩
set_option maxHeartbeats 1600000 in
theorem book_lookEvent (g : Nat) (w : World) (hc : w.cell? ⟨g, 11, none⟩ = some (.slice none 0 0)) : Calls Tryz.prog 54 #[.pointer (some ⟨g, 0, none⟩)] w fun e w' => e = .returned (.bool true) ∧ Drawn0 w w' := by
  go_enter Tryz.func54, Tryz.ntmps54
  go_wp2
  go_loopw [3] (fun v2 wr => v2 = .int .i64 0 ∧ Drawn0 w wr) (fun _ _ => 0)
  case atStart => exact ⟨rfl, Drawn0.refl _⟩
  case round =>
    obtain ⟨rfl, HD⟩ := hrel
    obtain ⟨m1, rfl⟩ := HD.out
    go_wp2
    go_ret
    exact ⟨rfl, HD⟩
set_option maxHeartbeats 1600000 in
theorem book_fillReply (g : Nat) (w : World) (hc : w.cell? ⟨g, 12, none⟩ = some (.slice none 0 0)) : Calls Tryz.prog 31 #[.pointer (some ⟨g, 0, none⟩)] w fun e w' => e = .returned (.tuple #[]) ∧ Drawn0 w w' := by
  go_enter Tryz.func31, Tryz.ntmps31
  go_wp2
  go_loopw [2] (fun v2 wr => v2 = .int .i64 0 ∧ Drawn0 w wr) (fun _ _ => 0)
  case atStart => exact ⟨rfl, Drawn0.refl _⟩
  case round =>
    obtain ⟨rfl, HD⟩ := hrel
    obtain ⟨m1, rfl⟩ := HD.out
    go_wp2
    exact bodyPost_end (v := .tuple #[]) (by simp [results, Tryz.results31, go_sem]) rfl ⟨rfl, HD⟩
set_option maxHeartbeats 1600000 in
theorem book_growReply (g : Nat) (w : World) (hc : w.cell? ⟨g, 12, none⟩ = some (.slice none 0 0)) : Calls Tryz.prog 43 #[.pointer (some ⟨g, 0, none⟩)] w fun e w' => e = .returned (.tuple #[]) ∧ Drawn0 w w' := by
  go_enter Tryz.func43, Tryz.ntmps43
  go_wp2
  go_loopw [2] (fun v2 wr => v2 = .int .i64 0 ∧ Drawn0 w wr) (fun _ _ => 0)
  case atStart => exact ⟨rfl, Drawn0.refl _⟩
  case round =>
    obtain ⟨rfl, HD⟩ := hrel
    obtain ⟨m1, rfl⟩ := HD.out
    go_wp2
    exact bodyPost_end (v := .tuple #[]) (by simp [results, Tryz.results43, go_sem]) rfl ⟨rfl, HD⟩
set_option maxHeartbeats 1600000 in
theorem book_lookReply (g : Nat) (w : World) (hc : w.cell? ⟨g, 12, none⟩ = some (.slice none 0 0)) : Calls Tryz.prog 55 #[.pointer (some ⟨g, 0, none⟩)] w fun e w' => e = .returned (.bool true) ∧ Drawn0 w w' := by
  go_enter Tryz.func55, Tryz.ntmps55
  go_wp2
  go_loopw [3] (fun v2 wr => v2 = .int .i64 0 ∧ Drawn0 w wr) (fun _ _ => 0)
  case atStart => exact ⟨rfl, Drawn0.refl _⟩
  case round =>
    obtain ⟨rfl, HD⟩ := hrel
    obtain ⟨m1, rfl⟩ := HD.out
    go_wp2
    go_ret
    exact ⟨rfl, HD⟩

theorem BookGrow.init {base g gb cap m : Nat} {n : Int} {A : Nat → Option Addr} {C : Nat → Nat} {L : Nat → List Int} {w : World}
    (h : BookSt base g n m (book_row (fun j => .slice (A j) (L j).length (C j)) (fun _ => .slice none 0 0) m) (.slice (some ⟨gb, 0, none⟩) m cap) w) (ho : BookOwn base m A C (fun j => (L j).length) (fun j => List.replicate (L j).length (book_mark j)) w) :
    BookGrow base g gb cap m n A C (fun j => (L j).length) w A C 0 w :=
  ⟨by simpa using h, fun j _ hj => ho j hj, fun j hj => absurd hj (by omega), fun j hj => absurd hj (by omega), fun j i hj => absurd hj (by omega), Below.refl _ _⟩
set_option maxHeartbeats 6400000 in
set_option maxRecDepth 100000 in
theorem book_Apart (base g gb cap m : Nat) (n : Int) (A : Nat → Option Addr) (C : Nat → Nat) (L : Nat → List Int) (w : World) (hm : m ≤ 10) (hL : ∀ j, j < m → (L j).length ≤ 100000000)
    (h : BookSt base g n m (book_row (fun j => .slice (A j) (L j).length (C j)) (fun _ => .slice none 0 0) m) (.slice (some ⟨gb, 0, none⟩) m cap) w) (ho : BookOwn base m A C (fun j => (L j).length) L w)
    (hap : ∀ j k, j < m → k < m → j ≠ k → (Value.slice (A j) (L j).length (C j)).ownBlock = none ∨ (Value.slice (A j) (L j).length (C j)).ownBlock ≠ (Value.slice (A k) (L k).length (C k)).ownBlock) :
    Calls Tryz.prog 9 #[.pointer (some ⟨g, 0, none⟩)] w fun e w' => e = .returned (.bool true) ∧ Below base w w' := by
  have H := Aside0.mk h
  have HO := Aside0.mk ho
  have HAP := Aside0.mk hap
  have HL := Aside0.mk hL
  clear h ho hap hL
  go_enter Tryz.func9, Tryz.ntmps9
  go_upto_region 13 with (first | (go_at_call 20; refine (book_fillByte base g gb cap m n A C L _ hm (fun j hj => Nat.le_trans (HL.out j hj) (by omega)) H.out HO.out HAP.out).mono ?_; rintro e w1 ⟨rfl, hs, ho1, hb⟩; have HF := Aside0.mk (BookGrow.init hs ho1); have HB1 := Aside0.mk hb; clear hs ho1 hb) | (go_at_call 21; refine (book_fillNumber g _ (by exact HF.out.st.cell 2 (.slice none 0 0) rfl)).mono ?_; rintro e wf0 ⟨rfl, hd⟩; obtain ⟨mf0, rfl⟩ := hd.out) | (go_at_call 22; refine (book_fillInt g _ (by exact HF.out.st.cell 3 (.slice none 0 0) rfl)).mono ?_; rintro e wf1 ⟨rfl, hd⟩; obtain ⟨mf1, rfl⟩ := hd.out) | (go_at_call 23; refine (book_fillText g _ (by exact HF.out.st.cell 4 (.slice none 0 0) rfl)).mono ?_; rintro e wf2 ⟨rfl, hd⟩; obtain ⟨mf2, rfl⟩ := hd.out) | (go_at_call 24; refine (book_fillBlob g _ (by exact HF.out.st.cell 5 (.slice none 0 0) rfl)).mono ?_; rintro e wf3 ⟨rfl, hd⟩; obtain ⟨mf3, rfl⟩ := hd.out) | (go_at_call 25; refine (book_fillRange g _ (by exact HF.out.st.cell 6 (.slice none 0 0) rfl)).mono ?_; rintro e wf4 ⟨rfl, hd⟩; obtain ⟨mf4, rfl⟩ := hd.out) | (go_at_call 26; refine (book_fillFrame g _ (by exact HF.out.st.cell 7 (.slice none 0 0) rfl)).mono ?_; rintro e wf5 ⟨rfl, hd⟩; obtain ⟨mf5, rfl⟩ := hd.out) | (go_at_call 27; refine (book_fillField g _ (by exact HF.out.st.cell 8 (.slice none 0 0) rfl)).mono ?_; rintro e wf6 ⟨rfl, hd⟩; obtain ⟨mf6, rfl⟩ := hd.out) | (go_at_call 28; refine (book_fillMessage g _ (by exact HF.out.st.cell 9 (.slice none 0 0) rfl)).mono ?_; rintro e wf7 ⟨rfl, hd⟩; obtain ⟨mf7, rfl⟩ := hd.out) | (go_at_call 29; refine (book_fillRule g _ (by exact HF.out.st.cell 10 (.slice none 0 0) rfl)).mono ?_; rintro e wf8 ⟨rfl, hd⟩; obtain ⟨mf8, rfl⟩ := hd.out) | (go_at_call 30; refine (book_fillEvent g _ (by exact HF.out.st.cell 11 (.slice none 0 0) rfl)).mono ?_; rintro e wf9 ⟨rfl, hd⟩; obtain ⟨mf9, rfl⟩ := hd.out) | (go_at_call 31; refine (book_fillReply g _ (by exact HF.out.st.cell 12 (.slice none 0 0) rfl)).mono ?_; rintro e wf10 ⟨rfl, hd⟩; obtain ⟨mf10, rfl⟩ := hd.out))
  go_upto_region 25 with (first | (go_at_call 32; refine (book_growByte base g gb cap m n A C (fun j => (L j).length) _ hm HL.out A C (by exact (HF.out.step (book_below_n (Below.refl _ _) _)).from) HAP.out).mono ?_; rintro e w2 ⟨rfl, A2, C2, hg⟩; have HG := Aside0.mk hg.from; have HB2 := Aside0.mk (HB1.out.trans (book_below_n (Below.refl _ _) _ |>.trans hg.below)); clear hg) | (go_at_call 33; refine (book_growNumber g _ (by exact HG.out.st.cell 2 (.slice none 0 0) rfl)).mono ?_; rintro e wg0 ⟨rfl, hd⟩; obtain ⟨mg0, rfl⟩ := hd.out) | (go_at_call 34; refine (book_growInt g _ (by exact HG.out.st.cell 3 (.slice none 0 0) rfl)).mono ?_; rintro e wg1 ⟨rfl, hd⟩; obtain ⟨mg1, rfl⟩ := hd.out) | (go_at_call 35; refine (book_growText g _ (by exact HG.out.st.cell 4 (.slice none 0 0) rfl)).mono ?_; rintro e wg2 ⟨rfl, hd⟩; obtain ⟨mg2, rfl⟩ := hd.out) | (go_at_call 36; refine (book_growBlob g _ (by exact HG.out.st.cell 5 (.slice none 0 0) rfl)).mono ?_; rintro e wg3 ⟨rfl, hd⟩; obtain ⟨mg3, rfl⟩ := hd.out) | (go_at_call 37; refine (book_growRange g _ (by exact HG.out.st.cell 6 (.slice none 0 0) rfl)).mono ?_; rintro e wg4 ⟨rfl, hd⟩; obtain ⟨mg4, rfl⟩ := hd.out) | (go_at_call 38; refine (book_growFrame g _ (by exact HG.out.st.cell 7 (.slice none 0 0) rfl)).mono ?_; rintro e wg5 ⟨rfl, hd⟩; obtain ⟨mg5, rfl⟩ := hd.out) | (go_at_call 39; refine (book_growField g _ (by exact HG.out.st.cell 8 (.slice none 0 0) rfl)).mono ?_; rintro e wg6 ⟨rfl, hd⟩; obtain ⟨mg6, rfl⟩ := hd.out) | (go_at_call 40; refine (book_growMessage g _ (by exact HG.out.st.cell 9 (.slice none 0 0) rfl)).mono ?_; rintro e wg7 ⟨rfl, hd⟩; obtain ⟨mg7, rfl⟩ := hd.out) | (go_at_call 41; refine (book_growRule g _ (by exact HG.out.st.cell 10 (.slice none 0 0) rfl)).mono ?_; rintro e wg8 ⟨rfl, hd⟩; obtain ⟨mg8, rfl⟩ := hd.out) | (go_at_call 42; refine (book_growEvent g _ (by exact HG.out.st.cell 11 (.slice none 0 0) rfl)).mono ?_; rintro e wg9 ⟨rfl, hd⟩; obtain ⟨mg9, rfl⟩ := hd.out) | (go_at_call 43; refine (book_growReply g _ (by exact HG.out.st.cell 12 (.slice none 0 0) rfl)).mono ?_; rintro e wg10 ⟨rfl, hd⟩; obtain ⟨mg10, rfl⟩ := hd.out))
  go_wp2_with (first | (go_at_call 44; refine (book_lookByte base g gb cap m n A C (fun j => (L j).length) _ hm HL.out A2 C2 (by exact (HG.out.step (book_below_n (Below.refl _ _) _)).from)).mono ?_; rintro e w3 ⟨rfl, hg⟩; have HB3 := Aside0.mk (HB2.out.trans (book_below_n (Below.refl _ _) _ |>.trans hg.below)); have HG := Aside0.mk hg.from; clear hg) | (go_at_call 45; refine (book_lookNumber g _ (by exact HG.out.st.cell 2 (.slice none 0 0) rfl)).mono ?_; rintro e wl0 ⟨rfl, hd⟩; obtain ⟨ml0, rfl⟩ := hd.out) | (go_at_call 46; refine (book_lookInt g _ (by exact HG.out.st.cell 3 (.slice none 0 0) rfl)).mono ?_; rintro e wl1 ⟨rfl, hd⟩; obtain ⟨ml1, rfl⟩ := hd.out) | (go_at_call 47; refine (book_lookText g _ (by exact HG.out.st.cell 4 (.slice none 0 0) rfl)).mono ?_; rintro e wl2 ⟨rfl, hd⟩; obtain ⟨ml2, rfl⟩ := hd.out) | (go_at_call 48; refine (book_lookBlob g _ (by exact HG.out.st.cell 5 (.slice none 0 0) rfl)).mono ?_; rintro e wl3 ⟨rfl, hd⟩; obtain ⟨ml3, rfl⟩ := hd.out) | (go_at_call 49; refine (book_lookRange g _ (by exact HG.out.st.cell 6 (.slice none 0 0) rfl)).mono ?_; rintro e wl4 ⟨rfl, hd⟩; obtain ⟨ml4, rfl⟩ := hd.out) | (go_at_call 50; refine (book_lookFrame g _ (by exact HG.out.st.cell 7 (.slice none 0 0) rfl)).mono ?_; rintro e wl5 ⟨rfl, hd⟩; obtain ⟨ml5, rfl⟩ := hd.out) | (go_at_call 51; refine (book_lookField g _ (by exact HG.out.st.cell 8 (.slice none 0 0) rfl)).mono ?_; rintro e wl6 ⟨rfl, hd⟩; obtain ⟨ml6, rfl⟩ := hd.out) | (go_at_call 52; refine (book_lookMessage g _ (by exact HG.out.st.cell 9 (.slice none 0 0) rfl)).mono ?_; rintro e wl7 ⟨rfl, hd⟩; obtain ⟨ml7, rfl⟩ := hd.out) | (go_at_call 53; refine (book_lookRule g _ (by exact HG.out.st.cell 10 (.slice none 0 0) rfl)).mono ?_; rintro e wl8 ⟨rfl, hd⟩; obtain ⟨ml8, rfl⟩ := hd.out) | (go_at_call 54; refine (book_lookEvent g _ (by exact HG.out.st.cell 11 (.slice none 0 0) rfl)).mono ?_; rintro e wl9 ⟨rfl, hd⟩; obtain ⟨ml9, rfl⟩ := hd.out) | (go_at_call 55; refine (book_lookReply g _ (by exact HG.out.st.cell 12 (.slice none 0 0) rfl)).mono ?_; rintro e wl10 ⟨rfl, hd⟩; obtain ⟨ml10, rfl⟩ := hd.out))
  go_ret
  exact ⟨rfl, book_below_n HB3.out _⟩


end Go.Proofs.YtmkmefdajbdceaaGreatDoor.PTQ
