/- A part of the walk of the laws of layer 22 (message): contracts of functions of the program, each walked once. -/
import Derived.Test.YtcgbpallpnaclaaGreatDoorUT
import Derived.RangeFuncNested
import Derived.RangeFuncBound
import Derived.RangeFuncCalls
import Derived.RangeFuncLeaves
import Derived.RangeFuncBox
import Derived.OwnWalkIn
import Derived.TacticsInMore
import Derived.LoopNIn
import Derived.LoopIn
import Derived.Deep.DeepMust
import Derived.LoopN
import Derived.Laws.BitsAllLaws
import Derived.Maps.OwnIn
import Derived.Maps.Own
import Derived.Maps.OwnSet
import Derived.Maps.OwnOps
import Derived.Shelf.Abstract
import Derived.Sort.CutIn
import Derived.Shelf.RegionOpen
import Derived.StillTailTactics
import Derived.Outline
import Derived.Deep.RegionHeld3
import Derived.Laws.StructEq
import Derived.Laws.RangeAny
import Derived.Laws.EntriesVeiled
import Derived.WalkSpells
import Derived.Lib.SlBytesConst
import Derived.Deep.RegionLaw
import Derived.Deep.RegionWith
import Derived.ArgAppend
import Derived.Shelf.Strings.SlTrimAscii
import Derived.Shelf.Strings.IndexAnyAll
import Derived.Test.YtcgbpallpnaclaaGreatDoorSh
import Derived.Test.YtcgbpallpnaclaaGreatDoorWEqStruct
namespace Go.Proofs.YtcgbpallpnaclaaGreatDoor.T
open Go.RowKit Go.Proofs.YtcgbpallpnaclaaGreatDoorW.PrintWords Go.Proofs.YtcgbpallpnaclaaGreatDoorW.PrintLast Go.Proofs.YtcgbpallpnaclaaGreatDoorW.PrintMore
open Go.Proofs.YtcgbpallpnaclaaGreatDoor.PMW
set_option linter.unusedVariables false
set_option linter.unusedSimpArgs false
/-! ### message.great (made by wip/gen_great.py) -/
def msg_sum (l : List S62) : Nat := (l.map (fun x => x.f0.size + x.f1.size)).sum
theorem msg_sum_take {l : List S62} {k : Nat} (h : k < l.length) : msg_sum (l.take (k + 1)) = msg_sum (l.take k) + ((rd_T62 l (k : Int)).f0.size + (rd_T62 l (k : Int)).f1.size) := by
  unfold msg_sum
  rw [List.take_add_one, List.map_append, List.sum_append, List.getElem?_eq_getElem h]
  simp [rd_T62, List.getD_eq_getElem?_getD, List.getElem?_eq_getElem h]
theorem msg_sum_le (l : List S62) (k : Nat) : msg_sum (l.take k) ≤ msg_sum l := by
  have : msg_sum l = msg_sum (l.take k) + msg_sum (l.drop k) := by
    unfold msg_sum
    rw [← List.sum_append, ← List.map_append, List.take_append_drop]
  omega
def great_at (a b : Nat) : Nat → Nat
  | 0 => 0
  | 1 => a
  | _ => a + b
def message_great.f (l0 : List S62) (l1 : List Int) (l2 : List S62) : Option Bool := if msg_sum l0 + msg_sum l2 ≤ 4611686018427387904 ∧ l0.length + l2.length ≤ 4611686018427387904 then some (decide (256 < l0.length + l2.length) || (decide (65536 < msg_sum l0 + msg_sum l2) || decide (65536 < l1.length))) else none
theorem great_ix0 (W : World) (A B : Option Addr) (n c m d : Nat) : (Instr.index 91 (.agg #[.slice A n c, .slice B m d]) (.int .i64 0)).run Tryz.prog W = .ok (.slice A n c) W := by
  have hag := Tryz.isAgg22
  have hsz := Tryz.sizeOf22
  simp [Instr.index, run_underlying Tryz.underlying91, asIntOf, part, Sem.run_bind, hag, hsz]
theorem great_ix1 (W : World) (A B : Option Addr) (n c m d : Nat) : (Instr.index 91 (.agg #[.slice A n c, .slice B m d]) (.int .i64 1)).run Tryz.prog W = .ok (.slice B m d) W := by
  have hag := Tryz.isAgg22
  have hsz := Tryz.sizeOf22
  simp [Instr.index, run_underlying Tryz.underlying91, asIntOf, part, Sem.run_bind, hag, hsz]
set_option maxHeartbeats 3200000 in
set_option maxRecDepth 100000 in
theorem message_great.calls (A0_0 : Option Addr) (c0_0 : Nat) (l0_0 : List S62) (A0_1 : Option Addr) (c0_1 : Nat) (l0_1 : List Int) (A0_2 : Option Addr) (c0_2 : Nat) (l0_2 : List S62) (r : Bool) (w : World) (hr0_0 : Kd.C k62 w A0_0 l0_0.length l0_0) (hc0_0 : l0_0.length ≤ c0_0) (hr0_1 : Kd.C (Kd.int .u8) w A0_1 l0_1.length l0_1) (hc0_1 : l0_1.length ≤ c0_1) (hr0_2 : Kd.C k62 w A0_2 l0_2.length l0_2) (hc0_2 : l0_2.length ≤ c0_2) (h : message_great.f l0_0 l0_1 l0_2 = some r) :
    Calls Tryz.prog 27 #[.agg #[.slice A0_0 l0_0.length c0_0, .slice A0_1 l0_1.length c0_1, .slice A0_2 l0_2.length c0_2]] w fun e w' => e = .returned (.bool r) ∧ Below w.heap.size w w' := by
  unfold message_great.f at h
  have hs0 : msg_sum l0_0 + msg_sum l0_2 ≤ 4611686018427387904 ∧ l0_0.length + l0_2.length ≤ 4611686018427387904 := by
    by_cases hh : msg_sum l0_0 + msg_sum l0_2 ≤ 4611686018427387904 ∧ l0_0.length + l0_2.length ≤ 4611686018427387904
    · exact hh
    · rw [if_neg hh] at h; cases h
  rw [if_pos hs0] at h
  have H := Aside0.mk (Option.some.inj h)
  have HS := Aside0.mk hs0
  have hm0 : l0_0.length ≤ 9223372036854775807 := hr0_0.2.1
  have hm2 : l0_2.length ≤ 9223372036854775807 := hr0_2.2.1
  have HR0 := Aside0.mk hr0_0
  have HR2 := Aside0.mk hr0_2
  clear h hs0 hr0_0 hr0_2 hr0_1 hc0_0 hc0_1 hc0_2
  go_enter Tryz.func27, Tryz.ntmps27
  go_wp2
  obtain ⟨W0, hW0⟩ : ∃ W0, w.alloc (.cells #[.slice A0_0 l0_0.length c0_0, .slice A0_1 l0_1.length c0_1, .slice A0_2 l0_2.length c0_2] 25) = W0 := ⟨_, rfl⟩
  have BK := Aside0.mk (show W0.heap[w.heap.size]? = some (.cells #[.slice A0_0 l0_0.length c0_0, .slice A0_1 l0_1.length c0_1, .slice A0_2 l0_2.length c0_2] 25 (0, 0)) by rw [← hW0]; exact tok_block _ _ _)
  have HB := Aside0.mk (show Below w.heap.size w W0 by rw [← hW0]; exact below_alloc (Below.refl _ _) _)
  rw [hW0]
  clear hW0
  go_loopw [3, 13] (fun v3 v13 wr => ∃ i : Nat, i ≤ 2 ∧ v13 = .int .i64 i ∧ v3 = .int .i64 ((great_at (msg_sum l0_0) (msg_sum l0_2) i : Nat) : Int) ∧ Aside0 (wr.heap[w.heap.size]? = some (.cells #[.slice A0_0 l0_0.length c0_0, .slice A0_1 l0_1.length c0_1, .slice A0_2 l0_2.length c0_2] 25 (0, 0))) ∧ Aside0 (Below w.heap.size w wr)) (fun _ v13 _ => 2 - (intOf v13).toNat)
  case atStart => exact ⟨0, by omega, rfl, rfl, BK, HB⟩
  case round =>
    clear BK HB
    obtain ⟨i, hi, rfl, rfl, BK, HB⟩ := hrel
    rcases (show i = 0 ∨ i = 1 ∨ i = 2 by omega) with rfl | rfl | rfl
    · dsimp only [great_at]
      have hix := fun W => great_ix0 W A0_0 A0_2 l0_0.length c0_0 l0_2.length c0_2
      go_wp2
      go_loopw [3, 18] (fun v3 v18 wr => ∃ k : Nat, k ≤ l0_0.length ∧ v18 = .int .i64 k ∧ v3 = .int .i64 ((0 + msg_sum (l0_0.take k) : Nat) : Int) ∧ Aside0 (wr.heap[w.heap.size]? = some (.cells #[.slice A0_0 l0_0.length c0_0, .slice A0_1 l0_1.length c0_1, .slice A0_2 l0_2.length c0_2] 25 (0, 0))) ∧ Aside0 (Below w.heap.size w wr)) (fun _ v18 _ => l0_0.length - (intOf v18).toNat)
      case atStart => exact ⟨0, by omega, rfl, by simp [msg_sum], BK, HB⟩
      case round =>
        clear BK HB
        obtain ⟨k, hk, rfl, rfl, BK, HB⟩ := hrel
        by_cases hlt : k < l0_0.length
        · have HC := Aside0.mk (Kd.C_below HR0.out HB.out)
          obtain ⟨ad, hA, x0, x1⟩ := at_T62 HC.out (k : Int) (by omega) (by omega)
          rw [Int.toNat_natCast] at x0 x1
          have hst := msg_sum_take hlt
          obtain ⟨x, hx⟩ : ∃ x, rd_T62 l0_0 (k : Int) = x := ⟨_, rfl⟩
          rw [hx] at x0 x1 hst
          have hlt2 : (k : Int) < (l0_0.length : Int) := by omega
          have HST := Aside0.mk hst
          have HBD := Aside0.mk (show 0 + msg_sum (l0_0.take (k + 1)) ≤ 4611686018427387904 by have h1 := msg_sum_le l0_0 (k + 1); have h2 := HS.out; omega)
          have HLT := Aside0.mk hlt
          subst hA
          clear hst hx hlt
          go_wp2
          go_roundw
          case rel => exact ⟨k + 1, HLT.out, by go_num, by have h1 := HST.out; have h2 := HBD.out; rw [h1] at h2 ⊢; congr 1; unfold wrap64; omega, ⟨by (with_reducible repeat (first | refine blk_drewN ?_ _ | refine blk_drew ?_ | refine blk_alloc ?_ _)); exact BK.out⟩, ⟨by repeat (first | (with_reducible first | exact HB.out | apply below_alloc | apply pw_below_drewN | apply below_drew1) | exact HB.out)⟩⟩
          case measure => have := HLT.out; simp [intOf]; omega
        · obtain rfl : k = l0_0.length := by omega
          have hlt2 : decide ((l0_0.length : Int) < (l0_0.length : Int)) = false := decide_eq_false (by omega)
          rw [List.take_length]
          go_wp2
          go_roundw
          case rel => exact ⟨1, by omega, by go_num, by first | rfl | simp [great_at], BK, HB⟩
          case measure => simp [intOf]
    · dsimp only [great_at]
      have hix := fun W => great_ix1 W A0_0 A0_2 l0_0.length c0_0 l0_2.length c0_2
      go_wp2
      go_loopw [3, 18] (fun v3 v18 wr => ∃ k : Nat, k ≤ l0_2.length ∧ v18 = .int .i64 k ∧ v3 = .int .i64 ((msg_sum l0_0 + msg_sum (l0_2.take k) : Nat) : Int) ∧ Aside0 (wr.heap[w.heap.size]? = some (.cells #[.slice A0_0 l0_0.length c0_0, .slice A0_1 l0_1.length c0_1, .slice A0_2 l0_2.length c0_2] 25 (0, 0))) ∧ Aside0 (Below w.heap.size w wr)) (fun _ v18 _ => l0_2.length - (intOf v18).toNat)
      case atStart => exact ⟨0, by omega, rfl, by simp [msg_sum], BK, HB⟩
      case round =>
        clear BK HB
        obtain ⟨k, hk, rfl, rfl, BK, HB⟩ := hrel
        by_cases hlt : k < l0_2.length
        · have HC := Aside0.mk (Kd.C_below HR2.out HB.out)
          obtain ⟨ad, hA, x0, x1⟩ := at_T62 HC.out (k : Int) (by omega) (by omega)
          rw [Int.toNat_natCast] at x0 x1
          have hst := msg_sum_take hlt
          obtain ⟨x, hx⟩ : ∃ x, rd_T62 l0_2 (k : Int) = x := ⟨_, rfl⟩
          rw [hx] at x0 x1 hst
          have hlt2 : (k : Int) < (l0_2.length : Int) := by omega
          have HST := Aside0.mk hst
          have HBD := Aside0.mk (show msg_sum l0_0 + msg_sum (l0_2.take (k + 1)) ≤ 4611686018427387904 by have h1 := msg_sum_le l0_2 (k + 1); have h2 := HS.out; omega)
          have HLT := Aside0.mk hlt
          subst hA
          clear hst hx hlt
          go_wp2
          go_roundw
          case rel => exact ⟨k + 1, HLT.out, by go_num, by have h1 := HST.out; have h2 := HBD.out; rw [h1] at h2 ⊢; congr 1; unfold wrap64; omega, ⟨by (with_reducible repeat (first | refine blk_drewN ?_ _ | refine blk_drew ?_ | refine blk_alloc ?_ _)); exact BK.out⟩, ⟨by repeat (first | (with_reducible first | exact HB.out | apply below_alloc | apply pw_below_drewN | apply below_drew1) | exact HB.out)⟩⟩
          case measure => have := HLT.out; simp [intOf]; omega
        · obtain rfl : k = l0_2.length := by omega
          have hlt2 : decide ((l0_2.length : Int) < (l0_2.length : Int)) = false := decide_eq_false (by omega)
          rw [List.take_length]
          go_wp2
          go_roundw
          case rel => exact ⟨2, by omega, by go_num, by first | rfl | simp [great_at], BK, HB⟩
          case measure => simp [intOf]
    · dsimp only [great_at]
      have hc0 : wr.cell? ⟨w.heap.size, 0, none⟩ = some (.slice A0_0 l0_0.length c0_0) := (blk_cell BK.out 0).trans rfl
      have hc1 : wr.cell? ⟨w.heap.size, 1, none⟩ = some (.slice A0_1 l0_1.length c0_1) := (blk_cell BK.out 1).trans rfl
      have hc2 : wr.cell? ⟨w.heap.size, 2, none⟩ = some (.slice A0_2 l0_2.length c0_2) := (blk_cell BK.out 2).trans rfl
      have hw : wrap64 ((l0_0.length : Int) + (l0_2.length : Int)) = (l0_0.length : Int) + (l0_2.length : Int) := by have := HS.out; unfold wrap64; omega
      have HBB := HB
      by_cases g1 : 256 < l0_0.length + l0_2.length
      · have d1 : decide ((256 : Int) < (l0_0.length : Int) + (l0_2.length : Int)) = true := decide_eq_true (by omega)
        have HF := Aside0.mk (show r = true by rw [← H.out, decide_eq_true g1]; rfl)
        clear g1
        go_wp2
        go_ret
        exact ⟨by rw [HF.out]; rfl, HB.out⟩
      · have d1 : decide ((256 : Int) < (l0_0.length : Int) + (l0_2.length : Int)) = false := decide_eq_false (by omega)
        by_cases g2 : 65536 < msg_sum l0_0 + msg_sum l0_2
        · have d2 : decide ((65536 : Int) < (msg_sum l0_0 : Int) + (msg_sum l0_2 : Int)) = true := decide_eq_true (by omega)
          have HF := Aside0.mk (show r = true by rw [← H.out, decide_eq_false g1, decide_eq_true g2]; rfl)
          clear g1 g2
          go_wp2
          go_ret
          exact ⟨by rw [HF.out]; rfl, HB.out⟩
        · have d2 : decide ((65536 : Int) < (msg_sum l0_0 : Int) + (msg_sum l0_2 : Int)) = false := decide_eq_false (by omega)
          have HF := Aside0.mk (show r = decide (65536 < l0_1.length) by rw [← H.out, decide_eq_false g1, decide_eq_false g2]; rfl)
          clear g1 g2
          by_cases g3 : 65536 < l0_1.length
          · have d3 : decide ((65536 : Int) < (l0_1.length : Int)) = true := decide_eq_true (by omega)
            have HG := Aside0.mk (show r = true by rw [HF.out, decide_eq_true g3])
            clear g3
            go_wp2
            go_ret
            exact ⟨by rw [HG.out]; rfl, HB.out⟩
          · have d3 : decide ((65536 : Int) < (l0_1.length : Int)) = false := decide_eq_false (by omega)
            have HG := Aside0.mk (show r = false by rw [HF.out, decide_eq_false g3])
            clear g3
            go_wp2
            go_ret
            exact ⟨by rw [HG.out]; rfl, HB.out⟩
end Go.Proofs.YtcgbpallpnaclaaGreatDoor.T
