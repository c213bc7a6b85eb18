import Derived.Test.YtcgbpallpnaclaaGreatDoorPMWx0
import Derived.Test.YtcgbpallpnaclaaGreatDoorPMWx17
namespace Go.Proofs.YtcgbpallpnaclaaGreatDoor.PMW
open Go.RowKit Go.Proofs.YtcgbpallpnaclaaGreatDoorW.PrintWords Go.Proofs.YtcgbpallpnaclaaGreatDoorW.PrintLast Go.Proofs.YtcgbpallpnaclaaGreatDoorW.PrintMore
attribute [local go_sem] max2_int min2_int max_two min_two max_three min_three max_four min_four   -- for this text's walks alone
set_option linter.unusedVariables false
set_option linter.unusedSimpArgs false
/-! ### mailcoachlaw01_SameBytes: function 50 -/
def mailcoachlaw01_SameBytes.l0 : Nat → List Int → List Int → Int → Option (Bool)
  | 0, _, _, _ => none
  | k + 1, x0, x1, x5 => if x5 < (x0.length : Int) then (if 0 ≤ x5 then (if x5 < (x1.length : Int) then (if (rd x0 x5) = (rd x1 x5) then (mailcoachlaw01_SameBytes.l0 k x0 x1 (wrap64 (x5 + 1))) else (some false)) else (none)) else (none)) else (some true)
def mailcoachlaw01_SameBytes.f (k : Nat) (l0 : List Int) (l1 : List Int) : Option (Bool) := if (l0.length : Int) = (l1.length : Int) then (mailcoachlaw01_SameBytes.l0 k l0 l1 0) else (some false)
theorem mailcoachlaw01_SameBytes.mono_l : ∀ k, (∀ y0 y1 y2, LeO (mailcoachlaw01_SameBytes.l0 k y0 y1 y2) (mailcoachlaw01_SameBytes.l0 (k + 1) y0 y1 y2))
  | 0 => fun _ _ _ r h => by simp [mailcoachlaw01_SameBytes.l0] at h
  | k + 1 => by
    have ih0 := mailcoachlaw01_SameBytes.mono_l k
    · intro y0 y1 y2
      unfold mailcoachlaw01_SameBytes.l0
      repeat' first
      | (with_reducible exact ih0 _ _ _)
      | (with_reducible exact LeO.refl _)
      | (with_reducible exact LeO.none _)
      | (with_reducible refine LeO.ite ?_ ?_)
      | (with_reducible refine LeO.bind ?_ (fun _ => ?_))
      | exact ih0 _ _ _
      | exact LeO.none _
      | refine LeO.ite ?_ ?_
      | refine LeO.bind ?_ (fun _ => ?_)
theorem mailcoachlaw01_SameBytes.mono : ∀ a0 a1 k, LeO (mailcoachlaw01_SameBytes.f k a0 a1) (mailcoachlaw01_SameBytes.f (k + 1) a0 a1) := by
  intro a0 a1 k
  have ih0 := mailcoachlaw01_SameBytes.mono_l k
  unfold mailcoachlaw01_SameBytes.f
  repeat' first
      | (with_reducible exact ih0 _ _ _)
      | (with_reducible exact LeO.refl _)
      | (with_reducible exact LeO.none _)
      | (with_reducible refine LeO.ite ?_ ?_)
      | (with_reducible refine LeO.bind ?_ (fun _ => ?_))
      | exact ih0 _ _ _
      | exact LeO.none _
      | refine LeO.ite ?_ ?_
      | refine LeO.bind ?_ (fun _ => ?_)
/-! ### mailcoachlaw01_SameMessage: function 17 -/
def mailcoachlaw01_SameMessage.f (k : Nat) (l0_0 : List (S62)) (l0_1 : List Int) (l0_2 : List (S62)) (l1_0 : List (S62)) (l1_1 : List Int) (l1_2 : List (S62)) : Option (Bool) := (mailcoachlaw01_SameFields.f k l0_0 l1_0).bind fun t253 => (if t253 = true then ((mailcoachlaw01_SameBytes.f k l0_1 l1_1).bind fun t254 => (if t254 = true then ((mailcoachlaw01_SameFields.f k l0_2 l1_2).bind fun t255 => (some t255)) else (some false))) else (some false))
theorem mailcoachlaw01_SameMessage.mono : ∀ a0 a1 a2 a3 a4 a5 k, LeO (mailcoachlaw01_SameMessage.f k a0 a1 a2 a3 a4 a5) (mailcoachlaw01_SameMessage.f (k + 1) a0 a1 a2 a3 a4 a5) := by
  intro a0 a1 a2 a3 a4 a5 k
  unfold mailcoachlaw01_SameMessage.f
  repeat' first
      | (with_reducible exact mailcoachlaw01_SameBytes.mono _ _ _)
      | (with_reducible exact mailcoachlaw01_SameFields.mono _ _ _)
      | (with_reducible exact LeO.refl _)
      | (with_reducible exact LeO.none _)
      | (with_reducible refine LeO.ite ?_ ?_)
      | (with_reducible refine LeO.bind ?_ (fun _ => ?_))
      | exact mailcoachlaw01_SameBytes.mono _ _ _
      | exact mailcoachlaw01_SameFields.mono _ _ _
      | exact LeO.none _
      | refine LeO.ite ?_ ?_
      | refine LeO.bind ?_ (fun _ => ?_)
end Go.Proofs.YtcgbpallpnaclaaGreatDoor.PMW
