/- A part of the walk of the laws of layer 22 (message): contracts of functions of the program, each walked once. -/
import Derived.Test.YtcgbpallpnaclaaDoorXM2
import Derived.RangeFuncNested
import Derived.RangeFuncBound
import Derived.RangeFuncCalls
import Derived.RangeFuncLeaves
import Derived.RangeFuncBox
import Derived.OwnWalkIn
import Derived.TacticsInMore
import Derived.LoopNIn
import Derived.LoopIn
import Derived.Deep.DeepMust
import Derived.LoopN
import Derived.Laws.BitsAllLaws
import Derived.Maps.OwnIn
import Derived.Maps.Own
import Derived.Maps.OwnSet
import Derived.Maps.OwnOps
import Derived.Shelf.Abstract
import Derived.Sort.CutIn
import Derived.Shelf.RegionOpen
import Derived.StillTailTactics
import Derived.Outline
import Derived.Deep.RegionHeld3
import Derived.Laws.StructEq
import Derived.Laws.RangeAny
import Derived.Laws.EntriesVeiled
import Derived.WalkSpells
import Derived.Lib.SlBytesConst
import Derived.Deep.RegionLaw
import Derived.Deep.RegionWith
import Derived.ArgAppend
import Derived.Shelf.Strings.SlTrimAscii
import Derived.Shelf.Strings.IndexAnyAll
import Derived.Test.YtcgbpallpnaclaaDoorSh
import Derived.Test.YtcgbpallpnaclaaDoorWEqStruct
namespace Go.Proofs.YtcgbpallpnaclaaDoor.T
open Go.RowKit Go.Proofs.YtcgbpallpnaclaaDoorW.PrintWords Go.Proofs.YtcgbpallpnaclaaDoorW.PrintLast Go.Proofs.YtcgbpallpnaclaaDoorW.PrintMore
open Go.Proofs.YtcgbpallpnaclaaDoor.PMG
set_option linter.unusedVariables false
set_option linter.unusedSimpArgs false
theorem gets_ref (a1 : ByteArray) (l : List S45) (hl : l.length ≤ 140737488355328) : ∀ (d k : Nat), k + d = l.length → mailcoachref22_Get.l0 (d + 1) l a1 k = some (match (l.drop k).find? (get_hit a1) with | some x => (x.f1, true) | none => (⟨#[]⟩, false))
  | 0, k, h => by
    rw [mailcoachref22_Get.l0, if_neg (by omega), List.drop_eq_nil_of_le (by omega)]
    rfl
  | d + 1, k, h => by
    have hk : k < l.length := by omega
    have hd : l.drop k = l[k] :: l.drop (k + 1) := List.drop_eq_getElem_cons hk
    have hr : rd_T45 l (k : Int) = l[k] := by simp [rd_T45, List.getD_eq_getElem?_getD, List.getElem?_eq_getElem hk]
    have hw : wrap64 ((k : Int) + 1) = ((k + 1 : Nat) : Int) := by unfold wrap64; omega
    rw [mailcoachref22_Get.l0, if_pos (by omega), if_pos (by omega), hr, hd, List.find?_cons]
    by_cases hh : get_hit a1 l[k] = true
    · rw [if_pos (by simpa [get_hit] using hh), hh]
    · rw [if_neg (by simpa [get_hit] using hh), hw, gets_ref a1 l hl d (k + 1) (by omega)]
      simp [hh]
theorem gets_same (a1 : ByteArray) (l : List S45) (hl : l.length ≤ 140737488355328) : mailcoachref22_Get.f (l.length + 1) l a1 = message_Get.f l a1 := by
  have := gets_ref a1 l hl l.length 0 (by omega)
  rw [List.drop_zero] at this
  exact this
theorem tw_c {w : World} {A : Option Addr} {l : List S45} (h : Kd.C k45 w A (l ++ [tw_spare]).length (l ++ [tw_spare])) : Kd.C k45 w A l.length l := by
  have := Kd.C_take h (show l.length ≤ (l ++ [tw_spare]).length by simp)
  rwa [List.take_left] at this
set_option maxHeartbeats 3200000 in
set_option maxRecDepth 100000 in
theorem mailcoachlaw22_MessageGets.calls (A0 : Option Addr) (c0 : Nat) (l0 : List S45) (a1 : ByteArray) (w : World) (hr0 : Kd.C k45 w A0 l0.length l0) (hc0 : l0.length ≤ c0) (hn : l0.length * 32 ≤ 140737488351232) (hT : MsgTab w) :
    Calls Tryd.prog 3 #[.slice A0 l0.length c0, .string a1] w fun e w' => e = .returned (.bool true) ∧ Below w.heap.size w w' := by
  have HR0 := Aside0.mk hr0
  have HT := Aside0.mk hT
  clear hr0 hT
  have hg1 : message_Get.f l0 a1 = some ((message_Get.f l0 a1).getD default) := by unfold message_Get.f; rfl
  obtain ⟨⟨r1, r2⟩, hg⟩ : ∃ r, message_Get.f l0 a1 = some r := ⟨_, hg1⟩
  clear hg1
  have hg2 := gets_same a1 l0 (by omega)
  rw [hg] at hg2
  have HG := Aside0.mk hg
  have HG2 := Aside0.mk hg2
  clear hg hg2
  go_enter Tryd.func3, Tryd.ntmps3
  go_wp2_with (go_at_call 7; refine (mailcoachlaw01_TwinFields.twin A0 c0 l0 w HR0.out hc0 (by omega)).mono ?_; rintro e w1 ⟨⟨A, cap, rfl, hcap, ho⟩, hb⟩; have HC1 := Aside0.mk (Kd.R_reads' ho).2.2; have HC2 := Aside0.mk (tw_c HC1.out); have HB1 := Aside0.mk hb; clear hb ho)
  have ht1 : MsgTab w1 := HT.out.below HB1.out
  go_wp2_with (go_at_call 8; refine (message_Get.calls A cap l0 a1 r1 r2 w1 HC2.out (by omega) HG.out).mono ?_; rintro e w2 ⟨rfl, hb⟩; have HB2 := Aside0.mk (below_step HB1.out hb); have HC3 := Aside0.mk (Kd.C_below HC1.out hb); clear hb)
  go_wp2_with (go_at_call 9; refine (mailcoachref22_Get.calls (l0.length + 1) A0 c0 l0 a1 r1 r2 w2 (Kd.C_below HR0.out HB2.out) hc0 HG2.out).mono ?_; rintro e w3 ⟨rfl, hd⟩; have hb3 : Below w2.heap.size w2 w3 := (by obtain ⟨m3, rfl⟩ := hd.out; exact pw_below_drewN (Below.refl _ _) _); have HB3 := Aside0.mk (below_step HB2.out hb3); have HC4 := Aside0.mk (Kd.C_below HC3.out hb3); clear hd hb3)
  go_wp2_with (first | (go_at_call 10; refine (mailcoachlaw01_LeftFields.left A cap A0 c0 l0 w3 (by have h := HC4.out; simpa using h) hcap (Kd.C_below HR0.out HB3.out) hc0 (by omega)).mono ?_; rintro e w4 ⟨rfl, hb⟩; have HB4 := Aside0.mk (below_step HB3.out hb); clear hb) | (go_at_call 11; refine (mailcoachlaw22_lives.calls w4 (HT.out.below HB4.out)).mono ?_; rintro e w5 ⟨rfl, hb⟩; have HB5 := Aside0.mk (below_step HB4.out hb); clear hb))
  go_ret
  exact ⟨rfl, HB5.out⟩
end Go.Proofs.YtcgbpallpnaclaaDoor.T
