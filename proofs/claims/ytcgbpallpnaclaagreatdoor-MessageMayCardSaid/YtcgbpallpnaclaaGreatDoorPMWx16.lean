import Derived.Test.YtcgbpallpnaclaaGreatDoorPMWx0
import Derived.Test.YtcgbpallpnaclaaGreatDoorPMWx2
import Derived.Test.YtcgbpallpnaclaaGreatDoorPMWx6
namespace Go.Proofs.YtcgbpallpnaclaaGreatDoor.PMW
open Go.RowKit Go.Proofs.YtcgbpallpnaclaaGreatDoorW.PrintWords Go.Proofs.YtcgbpallpnaclaaGreatDoorW.PrintLast Go.Proofs.YtcgbpallpnaclaaGreatDoorW.PrintMore
attribute [local go_sem] max2_int min2_int max_two min_two max_three min_three max_four min_four   -- for this text's walks alone
set_option linter.unusedVariables false
set_option linter.unusedSimpArgs false
/-! ### mailcoachlaw01_LeftBytes: function 41, by hand -/
/-! ### mailcoachlaw01_RuleSize: function 42 -/
def mailcoachlaw01_RuleSize.f (k : Nat) (a0_0 : ByteArray) (a0_1 : ByteArray) (a0_2 : Int) (l0_3 : List (S62)) (l0_4 : List Int) (a0_5 : Bool) : Option (Int) := if (wrap64 ((wrap64 (1 + (a0_0.size : Int))) + (a0_1.size : Int))) ≤ 1048576 then ((mailcoachlaw01_FieldsSize.f k l0_3).bind fun t222 => (if (wrap64 ((wrap64 ((wrap64 (1 + (a0_0.size : Int))) + (a0_1.size : Int))) + t222)) ≤ 1048576 then ((mailcoachlaw01_BytesSize.f l0_4).bind fun t223 => (some (wrap64 ((wrap64 ((wrap64 ((wrap64 (1 + (a0_0.size : Int))) + (a0_1.size : Int))) + t222)) + t223)))) else (some (wrap64 ((wrap64 ((wrap64 (1 + (a0_0.size : Int))) + (a0_1.size : Int))) + t222))))) else (some (wrap64 ((wrap64 (1 + (a0_0.size : Int))) + (a0_1.size : Int))))
theorem mailcoachlaw01_RuleSize.mono : ∀ a0 a1 a2 a3 a4 a5 k, LeO (mailcoachlaw01_RuleSize.f k a0 a1 a2 a3 a4 a5) (mailcoachlaw01_RuleSize.f (k + 1) a0 a1 a2 a3 a4 a5) := by
 intro a0 a1 a2 a3 a4 a5 k
 unfold mailcoachlaw01_RuleSize.f
 repeat' first
   | (with_reducible exact mailcoachlaw01_FieldsSize.mono _ _)
   | (with_reducible exact LeO.refl _)
   | (with_reducible exact LeO.none _)
   | (with_reducible refine LeO.ite ?_ ?_)
   | (with_reducible refine LeO.bind ?_ (fun _ => ?_))
   | exact mailcoachlaw01_FieldsSize.mono _ _
   | exact LeO.none _
   | refine LeO.ite ?_ ?_
   | refine LeO.bind ?_ (fun _ => ?_)
/-! ### mailcoachlaw01_RulesSize: function 13 -/
def mailcoachlaw01_RulesSize.l0 : Nat → List (S64) → Int → Int → Option (Int)
 | 0, _, _, _ => none
 | k + 1, x0, x3, x4 => if x4 < (x0.length : Int) then (if x3 ≤ 1048576 then (if 0 ≤ x4 then ((mailcoachlaw01_RuleSize.f k ((rd_T64 x0 x4).f0) ((rd_T64 x0 x4).f1) ((rd_T64 x0 x4).f2) ((rd_T64 x0 x4).f3) ((rd_T64 x0 x4).f4) ((rd_T64 x0 x4).f5)).bind fun t225 => (mailcoachlaw01_RulesSize.l0 k x0 (wrap64 (x3 + t225)) (wrap64 (x4 + 1)))) else (none)) else (some x3)) else (some x3)
def mailcoachlaw01_RulesSize.f (k : Nat) (l0 : List (S64)) : Option (Int) := mailcoachlaw01_RulesSize.l0 k l0 (l0.length : Int) 0
theorem mailcoachlaw01_RulesSize.mono_l : ∀ k, (∀ y0 y1 y2, LeO (mailcoachlaw01_RulesSize.l0 k y0 y1 y2) (mailcoachlaw01_RulesSize.l0 (k + 1) y0 y1 y2))
 | 0 => fun _ _ _ r h => by simp [mailcoachlaw01_RulesSize.l0] at h
 | k + 1 => by
  have ih0 := mailcoachlaw01_RulesSize.mono_l k
  ·intro y0 y1 y2
   unfold mailcoachlaw01_RulesSize.l0
   repeat' first
   | (with_reducible exact ih0 _ _ _)
   | (with_reducible exact mailcoachlaw01_RuleSize.mono _ _ _ _ _ _ _)
   | (with_reducible exact LeO.refl _)
   | (with_reducible exact LeO.none _)
   | (with_reducible refine LeO.ite ?_ ?_)
   | (with_reducible refine LeO.bind ?_ (fun _ => ?_))
   | exact ih0 _ _ _
   | exact mailcoachlaw01_RuleSize.mono _ _ _ _ _ _ _
   | exact LeO.none _
   | refine LeO.ite ?_ ?_
   | refine LeO.bind ?_ (fun _ => ?_)
theorem mailcoachlaw01_RulesSize.mono : ∀ a0 k, LeO (mailcoachlaw01_RulesSize.f k a0) (mailcoachlaw01_RulesSize.f (k + 1) a0) := by
 intro a0 k
 have ih0 := mailcoachlaw01_RulesSize.mono_l k
 unfold mailcoachlaw01_RulesSize.f
 repeat' first
   | (with_reducible exact ih0 _ _ _)
   | (with_reducible exact mailcoachlaw01_RuleSize.mono _ _ _ _ _ _ _)
   | (with_reducible exact LeO.refl _)
   | (with_reducible exact LeO.none _)
   | (with_reducible refine LeO.ite ?_ ?_)
   | (with_reducible refine LeO.bind ?_ (fun _ => ?_))
   | exact ih0 _ _ _
   | exact mailcoachlaw01_RuleSize.mono _ _ _ _ _ _ _
   | exact LeO.none _
   | refine LeO.ite ?_ ?_
   | refine LeO.bind ?_ (fun _ => ?_)
end Go.Proofs.YtcgbpallpnaclaaGreatDoor.PMW
