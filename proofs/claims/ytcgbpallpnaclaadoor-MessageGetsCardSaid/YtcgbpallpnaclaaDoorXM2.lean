/- A part of the walk of the laws of layer 22 (message): contracts of functions of the program, each walked once. -/
import Derived.Test.YtcgbpallpnaclaaDoorXM1
import Derived.RangeFuncNested
import Derived.RangeFuncBound
import Derived.RangeFuncCalls
import Derived.RangeFuncLeaves
import Derived.RangeFuncBox
import Derived.OwnWalkIn
import Derived.TacticsInMore
import Derived.LoopNIn
import Derived.LoopIn
import Derived.Deep.DeepMust
import Derived.LoopN
import Derived.Laws.BitsAllLaws
import Derived.Maps.OwnIn
import Derived.Maps.Own
import Derived.Maps.OwnSet
import Derived.Maps.OwnOps
import Derived.Shelf.Abstract
import Derived.Sort.CutIn
import Derived.Shelf.RegionOpen
import Derived.StillTailTactics
import Derived.Outline
import Derived.Deep.RegionHeld3
import Derived.Laws.StructEq
import Derived.Laws.RangeAny
import Derived.Laws.EntriesVeiled
import Derived.WalkSpells
import Derived.Lib.SlBytesConst
import Derived.Deep.RegionLaw
import Derived.Deep.RegionWith
import Derived.ArgAppend
import Derived.Shelf.Strings.SlTrimAscii
import Derived.Shelf.Strings.IndexAnyAll
import Derived.Test.YtcgbpallpnaclaaDoorSh
import Derived.Test.YtcgbpallpnaclaaDoorWEqStruct
namespace Go.Proofs.YtcgbpallpnaclaaDoor.T
open Go.RowKit Go.Proofs.YtcgbpallpnaclaaDoorW.PrintWords Go.Proofs.YtcgbpallpnaclaaDoorW.PrintLast Go.Proofs.YtcgbpallpnaclaaDoorW.PrintMore
open Go.Proofs.YtcgbpallpnaclaaDoor.PMG
set_option linter.unusedVariables false
set_option linter.unusedSimpArgs false
attribute [local go_sem high] eqA45
theorem tw_rd (l : List S45) (k : Nat) (hk : k < l.length) : rd_T45 (l ++ [tw_spare]) k = rd_T45 l k := by
  simp [rd_T45, List.getD_eq_getElem?_getD, List.getElem?_append_left hk]
theorem tw_last (l : List S45) : rd_T45 (l ++ [tw_spare]) l.length = tw_spare := by
  simp [rd_T45, List.getD_eq_getElem?_getD]
theorem tw_name : (tw_spare.f0.toList == [115, 112, 97, 114, 101]) = true := by kernel_rfl
set_option maxHeartbeats 3200000 in
set_option maxRecDepth 100000 in
theorem mailcoachlaw01_LeftFields.left (A0 : Option Addr) (c0 : Nat) (A1 : Option Addr) (c1 : Nat) (l1 : List S45) (w : World) (hr2 : Kd.C k45 w A0 (l1.length + 1) (l1 ++ [tw_spare])) (hc0 : l1.length + 1 ≤ c0) (hr1 : Kd.C k45 w A1 l1.length l1) (hc1 : l1.length ≤ c1) (hl : (l1.length + 1) * 32 ≤ 140737488355328) :
    Calls Tryd.prog 10 #[.slice A0 l1.length c0, .slice A1 l1.length c1] w fun e w' => e = .returned (.bool true) ∧ Below w.heap.size w w' := by
  have HR1 := Aside0.mk hr1
  have HR2 := Aside0.mk hr2
  clear hr1 hr2
  obtain ⟨i0, hi, hzz⟩ := Option.map_eq_some_iff.1 info45
  obtain ⟨ad, e0, hx7, hx8⟩ := at_T45 HR2.out l1.length (by omega) (by omega)
  cases e0
  rw [tw_last] at hx7 hx8
  simp only [Int.toNat_natCast] at hx7 hx8
  have hcut := cut_to (P := Tryd.prog) 22 45 .i64 (i := i0) Tryd.underlying22 hi (some ad) c0 c0 ((l1.length : Int) + 1) (by omega) (by omega) (by omega)
  clear hzz hi
  have hcap : decide (c0 ≤ l1.length) = false := by simp; omega
  have hne : ((l1.length : Int) != (l1.length : Int)) = false := by simp
  go_enter Tryd.func10, Tryd.ntmps10
  go_wp2
  go_loopw [5] (fun v5 wr => ∃ k : Nat, k ≤ l1.length ∧ v5 = .int .i64 k ∧ Drawn0 w wr) (fun v5 _ => l1.length - (intOf v5).toNat)
  case atStart => exact ⟨0, by omega, rfl, Drawn0.refl _⟩
  case round =>
    obtain ⟨k, hk, rfl, HD⟩ := hrel
    obtain ⟨m1, rfl⟩ := HD.out
    by_cases hk2 : k < l1.length
    · obtain ⟨ad2, e2, hx2, hy2⟩ := at_T45 HR1.out k (by omega) (by omega)
      cases e2
      obtain ⟨ad3, e3, hx3, hy3⟩ := at_T45 HR2.out k (by omega) (by omega)
      cases e3
      rw [tw_rd l1 k hk2] at hx3 hy3
      simp only [Int.toNat_natCast] at hx2 hx3 hy2 hy3
      go_wp2
      go_quiet (fail)
      go_wp2
      go_roundw
      case rel => exact ⟨k + 1, by omega, by go_num, by repeat (first | exact Drawn0.refl _ | apply Drawn0.step)⟩
      case measure => simp [intOf]; omega
    · obtain ⟨wz, hwz⟩ : ∃ wz, wz = w.drewN m1 := ⟨_, rfl⟩
      have HBz : Below w.heap.size w wz := by rw [hwz]; exact pw_below_drewN (Below.refl _ _) _
      rw [← hwz]
      clear hwz hx7 hx8 HD
      obtain ⟨ad', e0, hx7, hx8⟩ := at_T45 (Kd.C_below HR2.out HBz) l1.length (by omega) (by omega)
      cases e0
      rw [tw_last] at hx7 hx8
      simp only [Int.toNat_natCast] at hx7 hx8
      go_wp2
      go_ret
      exact ⟨by show Ending.returned (.bool (tw_spare.f0.toList == [115, 112, 97, 114, 101])) = _; rw [tw_name], below_alloc HBz _⟩
end Go.Proofs.YtcgbpallpnaclaaDoor.T
