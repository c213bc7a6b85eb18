/- A part of the walk of the laws of layer 22 (message): contracts of functions of the program, each walked once. -/
import Derived.Test.YtcgbpallpnaclaaGreatDoorUT3
import Derived.Test.YtcgbpallpnaclaaGreatDoorUTW
import Derived.BigQuiet
import Derived.RangeFuncNested
import Derived.RangeFuncBound
import Derived.RangeFuncCalls
import Derived.RangeFuncLeaves
import Derived.RangeFuncBox
import Derived.OwnWalkIn
import Derived.TacticsInMore
import Derived.LoopNIn
import Derived.LoopIn
import Derived.Deep.DeepMust
import Derived.LoopN
import Derived.Laws.BitsAllLaws
import Derived.Maps.OwnIn
import Derived.Maps.Own
import Derived.Maps.OwnSet
import Derived.Maps.OwnOps
import Derived.Shelf.Abstract
import Derived.Sort.CutIn
import Derived.Shelf.RegionOpen
import Derived.StillTailTactics
import Derived.Outline
import Derived.Deep.RegionHeld3
import Derived.Laws.StructEq
import Derived.Laws.RangeAny
import Derived.Laws.EntriesVeiled
import Derived.WalkSpells
import Derived.Lib.SlBytesConst
import Derived.Deep.RegionLaw
import Derived.Deep.RegionWith
import Derived.ArgAppend
import Derived.Shelf.Strings.SlTrimAscii
import Derived.Shelf.Strings.IndexAnyAll
import Derived.Test.YtcgbpallpnaclaaGreatDoorSh
import Derived.Test.YtcgbpallpnaclaaGreatDoorWEqStruct
namespace Go.Proofs.YtcgbpallpnaclaaGreatDoor.T
open Go.RowKit Go.Proofs.YtcgbpallpnaclaaGreatDoorW.PrintWords Go.Proofs.YtcgbpallpnaclaaGreatDoorW.PrintLast Go.Proofs.YtcgbpallpnaclaaGreatDoorW.PrintMore
open Go.Proofs.YtcgbpallpnaclaaGreatDoor.PMW
set_option linter.unusedVariables false
set_option linter.unusedSimpArgs false
/-! ### mailcoachlaw22.MessageMay (made by wip/gen_may.py) -/
theorem may_each {l : List S62} (h : msg_sum l ≤ 300000) : ∀ x ∈ l, x.f0.size ≤ 1000000 ∧ x.f1.size ≤ 1000000 := by
  induction l with
  | nil => intro x hx; cases hx
  | cons y r ih =>
    intro x hx
    have e : msg_sum (y :: r) = y.f0.size + y.f1.size + msg_sum r := by simp [msg_sum]
    rcases List.mem_cons.1 hx with rfl | hx
    · omega
    · exact ih (by omega) x hx
set_option maxHeartbeats 6400000 in
set_option maxRecDepth 100000 in
theorem mailcoachlaw22_MessageMay.calls (A0_0 : Option Addr) (c0_0 : Nat) (l0_0 : List S62) (A0_1 : Option Addr) (c0_1 : Nat) (l0_1 : List Int) (A0_2 : Option Addr) (c0_2 : Nat) (l0_2 : List S62) (w : World) (hr0_0 : Kd.C k62 w A0_0 l0_0.length l0_0) (hc0_0 : l0_0.length ≤ c0_0) (hr0_1 : Kd.C (Kd.int .u8) w A0_1 l0_1.length l0_1) (hc0_1 : l0_1.length ≤ c0_1) (hr0_2 : Kd.C k62 w A0_2 l0_2.length l0_2) (hc0_2 : l0_2.length ≤ c0_2) (hT : MsgTab w) (s0 : strF l0_0) (s2 : strF l0_2) (n0 : l0_0.length ≤ 140737488355328) (n1 : l0_1.length ≤ 140737488355328) (n2 : l0_2.length ≤ 140737488355328) :
    Calls Tryz.prog 3 #[.agg #[.slice A0_0 l0_0.length c0_0, .slice A0_1 l0_1.length c0_1, .slice A0_2 l0_2.length c0_2]] w fun e w' => e = .returned (.bool true) ∧ Below w.heap.size w w' := by
  obtain ⟨k, hk⟩ : ∃ k : Nat, 2814749767107000 < k := ⟨2814749767107001, by omega⟩
  obtain ⟨z1, hz1, hz1'⟩ := sz_message l0_0 l0_1 l0_2 k s0 s2 n0 n1 n2 (by omega) (by omega)
  have HM := Aside0.mk hz1
  have HR0 := Aside0.mk hr0_0
  have HR1 := Aside0.mk hr0_1
  have HR2 := Aside0.mk hr0_2
  have HT := Aside0.mk hT
  have Z1 := Aside0.mk hz1'
  clear hz1 hr0_0 hr0_1 hr0_2 hT s0 s2 hz1'
  obtain ⟨W0, hW0⟩ : ∃ W0, w.alloc (.cells #[.slice A0_0 l0_0.length c0_0, .slice A0_1 l0_1.length c0_1, .slice A0_2 l0_2.length c0_2] 25) = W0 := ⟨_, rfl⟩
  have BK := Aside0.mk (show W0.heap[w.heap.size]? = some (.cells #[.slice A0_0 l0_0.length c0_0, .slice A0_1 l0_1.length c0_1, .slice A0_2 l0_2.length c0_2] 25 (0, 0)) by rw [← hW0]; exact tok_block _ _ _)
  have HB := Aside0.mk (show Below w.heap.size w W0 by rw [← hW0]; exact below_alloc (Below.refl _ _) _)
  have k0 : W0.cell? ⟨w.heap.size, 0, none⟩ = some (.slice A0_0 l0_0.length c0_0) := (blk_cell BK.out 0).trans rfl
  have k1 : W0.cell? ⟨w.heap.size, 1, none⟩ = some (.slice A0_1 l0_1.length c0_1) := (blk_cell BK.out 1).trans rfl
  have k2 : W0.cell? ⟨w.heap.size, 2, none⟩ = some (.slice A0_2 l0_2.length c0_2) := (blk_cell BK.out 2).trans rfl
  go_enter Tryz.func3, Tryz.ntmps3
  by_cases g1 : 200000 < z1
  · have dd1 : decide ((200000 : Int) < z1) = true := decide_eq_true g1
    clear g1
    go_wp2_with (first | (go_at_call 5; (with_reducible refine (mailcoachlaw01_MessageSize.calls k A0_0 c0_0 l0_0 A0_1 c0_1 l0_1 A0_2 c0_2 l0_2 z1 _ (Kd.C_below HR0.out HB.out) hc0_0 (Kd.C_below HR1.out HB.out) hc0_1 (Kd.C_below HR2.out HB.out) hc0_2 HM.out).mono ?_); rintro e w1 ⟨rfl, hb⟩; have HB1 := Aside0.mk (below_step HB.out hb); have BK1 := Aside0.mk (blk_below BK.out hb); have k0a := pw_cell_below hb k0; have k1a := pw_cell_below hb k1; have k2a := pw_cell_below hb k2; clear hb) | (go_at_call 6; (with_reducible refine (mailcoachlaw22_lives.calls _ (HT.out.below HB1.out)).mono ?_); rintro e w2 ⟨rfl, hb⟩; have HB2 := Aside0.mk (below_step HB1.out hb); clear hb))
    go_ret
    exact ⟨rfl, HB2.out⟩
  have dd1 : decide ((200000 : Int) < z1) = false := decide_eq_false g1
  have hz1 := Z1.out (by omega)
  have m0 : msg_sum l0_0 ≤ 300000 := by omega
  have m2 : msg_sum l0_2 ≤ 300000 := by omega
  have b0 : l0_0.length ≤ 1000000 := by omega
  have b1 : l0_1.length ≤ 1000000 := by omega
  have b2 : l0_2.length ≤ 1000000 := by omega
  obtain ⟨e1, hq1, hq2⟩ := request_both l0_0 l0_1 l0_2 k b0 b1 b2 (may_each m0) (may_each m2) (by omega) (by omega)
  obtain ⟨⟨v1, v2⟩, hp1, hp2⟩ := response_both l0_0 l0_1 l0_2 k b0 b1 b2 (may_each m0) (may_each m2) (by omega) (by omega)
  have Q1 := Aside0.mk hq1
  have Q2 := Aside0.mk hq2
  have P1 := Aside0.mk hp1
  have P2 := Aside0.mk hp2
  have l32a : (l0_0.length + 1) * 32 ≤ 140737488355328 := by omega
  have l32b : (l0_2.length + 1) * 32 ≤ 140737488355328 := by omega
  have l1b : l0_1.length ≤ 140737488351232 := by omega
  clear hq1 hq2 hp1 hp2 hz1 m0 m2
  go_upto_region 4 with (first | (go_at_call 5; (with_reducible refine (mailcoachlaw01_MessageSize.calls k A0_0 c0_0 l0_0 A0_1 c0_1 l0_1 A0_2 c0_2 l0_2 z1 _ (Kd.C_below HR0.out HB.out) hc0_0 (Kd.C_below HR1.out HB.out) hc0_1 (Kd.C_below HR2.out HB.out) hc0_2 HM.out).mono ?_); rintro e w1 ⟨rfl, hb⟩; have HB1 := Aside0.mk (below_step HB.out hb); have BK1 := Aside0.mk (blk_below BK.out hb); have k0a := pw_cell_below hb k0; have k1a := pw_cell_below hb k1; have k2a := pw_cell_below hb k2; clear hb) | (go_at_call 7; (with_reducible refine (mailcoachlaw01_TwinMessage.twin A0_0 c0_0 l0_0 A0_1 c0_1 l0_1 A0_2 c0_2 l0_2 _ (Kd.C_below HR0.out HB1.out) hc0_0 (Kd.C_below HR1.out HB1.out) hc0_1 (Kd.C_below HR2.out HB1.out) hc0_2 l32a l1b l32b).mono ?_); rintro e w2 ⟨⟨D0, d0, D1, d1, D2, d2, rfl, tw⟩, hb⟩; have HTW := Aside0.mk tw; have HB2 := Aside0.mk (below_step HB1.out hb); have BK2 := Aside0.mk (blk_below BK1.out hb); clear hb tw))
  obtain ⟨W3, hW3⟩ : ∃ W3, w2.alloc (.cells #[.slice D0 l0_0.length d0, .slice D1 l0_1.length d1, .slice D2 l0_2.length d2] 25) = W3 := ⟨_, rfl⟩
  obtain ⟨B5, hB5⟩ : ∃ B5, w2.heap.size = B5 := ⟨_, rfl⟩
  have BKm := Aside0.mk (show W3.heap[w.heap.size]? = some (.cells #[.slice A0_0 l0_0.length c0_0, .slice A0_1 l0_1.length c0_1, .slice A0_2 l0_2.length c0_2] 25 (0, 0)) by rw [← hW3]; exact blk_alloc BK2.out _)
  have BKx := Aside0.mk (show W3.heap[B5]? = some (.cells #[.slice D0 l0_0.length d0, .slice D1 l0_1.length d1, .slice D2 l0_2.length d2] 25 (0, 0)) by rw [← hW3, ← hB5]; exact tok_block _ _ _)
  have hba : Below w2.heap.size w2 W3 := by rw [← hW3]; exact below_alloc (Below.refl _ _) _
  have HTW3 := Aside0.mk (HTW.out.below hba)
  have HB3 := Aside0.mk (below_step HB2.out hba)
  have j0 : W3.cell? ⟨w.heap.size, 0, none⟩ = some (.slice A0_0 l0_0.length c0_0) := (blk_cell BKm.out 0).trans rfl
  have j1 : W3.cell? ⟨w.heap.size, 1, none⟩ = some (.slice A0_1 l0_1.length c0_1) := (blk_cell BKm.out 1).trans rfl
  have j2 : W3.cell? ⟨w.heap.size, 2, none⟩ = some (.slice A0_2 l0_2.length c0_2) := (blk_cell BKm.out 2).trans rfl
  have y0 : W3.cell? ⟨B5, 0, none⟩ = some (.slice D0 l0_0.length d0) := (blk_cell BKx.out 0).trans rfl
  have y1 : W3.cell? ⟨B5, 1, none⟩ = some (.slice D1 l0_1.length d1) := (blk_cell BKx.out 1).trans rfl
  have y2 : W3.cell? ⟨B5, 2, none⟩ = some (.slice D2 l0_2.length d2) := (blk_cell BKx.out 2).trans rfl
  (try rw [hW3])
  (try rw [hB5])
  clear hW3 hba BKm BKx BK1 BK2 BK k0 k1 k2 k0a k1a k2a hW0 dd1 g1
  go_upto_region 6 with (first | (go_at_call 8; (with_reducible refine (message_Response.calls D0 d0 l0_0 D1 d1 l0_1 D2 d2 l0_2 v1 v2 _ (tw_less HTW3.out.c0) (by have := HTW.out.g0; omega) (tw_less HTW3.out.c1) (by have := HTW.out.g1; omega) (tw_less HTW3.out.c2) (by have := HTW.out.g2; omega) (HT.out.below HB3.out) P1.out).mono ?_); rintro e w4 ⟨rfl, hb⟩; have HB4 := Aside0.mk (below_step HB3.out hb); have HTW4 := Aside0.mk (HTW3.out.below hb); have j0a := pw_cell_below hb j0; have j1a := pw_cell_below hb j1; have j2a := pw_cell_below hb j2; have y0a := pw_cell_below hb y0; have y1a := pw_cell_below hb y1; have y2a := pw_cell_below hb y2; clear hb) | (go_at_call 9; (with_reducible refine (mailcoachref22_Response.calls k A0_0 c0_0 l0_0 A0_1 c0_1 l0_1 A0_2 c0_2 l0_2 v1 v2 _ (Kd.C_below HR0.out HB4.out) hc0_0 (Kd.C_below HR1.out HB4.out) hc0_1 (Kd.C_below HR2.out HB4.out) hc0_2 P2.out).mono ?_); rintro e w5 ⟨rfl, hb⟩; have HB5 := Aside0.mk (below_step HB4.out hb); have HTW5 := Aside0.mk (HTW4.out.below hb); have j0b := pw_cell_below hb j0a; have j1b := pw_cell_below hb j1a; have j2b := pw_cell_below hb j2a; have y0b := pw_cell_below hb y0a; have y1b := pw_cell_below hb y1a; have y2b := pw_cell_below hb y2a; clear hb))
  clear j0 j1 j2 y0 y1 y2 j0a j1a j2a y0a y1a y2a HTW3 HTW4 HB3 HB4
  refine wp_region_held_drew (S := fun w' => Below w5.heap.size w5 w') (by kernel_rfl) ?_ (fun hHeld => ?_)
  · exact below_drew1 (Below.refl _ _)
  obtain ⟨R1, hR1⟩ : ∃ z_, w5.drew = z_ := ⟨_, rfl⟩
  rw [hR1] at hHeld ⊢
  clear hR1
  (refine msg_take (i := 0) (d := some 24) (v := .agg #[.slice D0 l0_0.length d0, .slice D1 l0_1.length d1, .slice D2 l0_2.length d2]) rfl rfl (by kernel_rfl) (by kernel_rfl) (by kernel_rfl) (fun _ _ _ h => h) (Or.inl ⟨by rfl, ?hy⟩) (by assumption) ?_; (case hy => (intro w' hSw; have e0 := pw_cell_below hSw j0b; have f0 := pw_cell_below hSw y0b; have e1 := pw_cell_below hSw j1b; have f1 := pw_cell_below hSw y1b; have e2 := pw_cell_below hSw j2b; have f2 := pw_cell_below hSw y2b; clear hSw; go_simp; try (with_reducible rfl)))); (try simp only [Act.put, List.setIfInBounds_toArray, List.set_cons_zero, List.set_cons_succ])
  (refine msg_take (i := 2) (d := some 26) (v := .agg #[.slice A0_0 l0_0.length c0_0, .slice A0_1 l0_1.length c0_1, .slice A0_2 l0_2.length c0_2]) rfl rfl (by kernel_rfl) (by kernel_rfl) (by kernel_rfl) (fun _ _ _ h => h) (Or.inl ⟨by rfl, ?hy⟩) (by assumption) ?_; (case hy => (intro w' hSw; have e0 := pw_cell_below hSw j0b; have f0 := pw_cell_below hSw y0b; have e1 := pw_cell_below hSw j1b; have f1 := pw_cell_below hSw y1b; have e2 := pw_cell_below hSw j2b; have f2 := pw_cell_below hSw y2b; clear hSw; go_simp; try (with_reducible rfl)))); (try simp only [Act.put, List.setIfInBounds_toArray, List.set_cons_zero, List.set_cons_succ])
  refine wpAnyH_ready (rs := [1]) (by kernel_rfl) (by simp) ?_
  refine AllReadyH.cons rfl (fun K hK => ?_) AllReadyH.nil
  go_simp
  (go_at_call 10; refine (message_Request.calls D0 d0 l0_0 D1 d1 l0_1 D2 d2 l0_2 e1 _ (tw_less (HTW5.out.below hHeld).c0) (by have := HTW.out.g0; omega) (tw_less (HTW5.out.below hHeld).c1) (by have := HTW.out.g1; omega) (tw_less (HTW5.out.below hHeld).c2) (by have := HTW.out.g2; omega) (HT.out.below (below_step HB5.out hHeld)) Q1.out).mono ?_); rintro e p1 ⟨rfl, hb⟩
  have hS := below_step hHeld hb
  clear hb
  (try go_wp2_with (fail))
  refine hK.out _ _ hS (fun hHeld => ?_)
  clear hS hK K
  (try simp only [Act.put, List.setIfInBounds_toArray, List.set_cons_zero, List.set_cons_succ])
  refine wpAnyH_ready (rs := [3]) (by kernel_rfl) (by simp) ?_
  refine AllReadyH.cons rfl (fun K hK => ?_) AllReadyH.nil
  go_simp
  (go_at_call 11; refine (mailcoachref22_Request.calls k A0_0 c0_0 l0_0 A0_1 c0_1 l0_1 A0_2 c0_2 l0_2 e1 _ (Kd.C_below HR0.out (below_step HB5.out hHeld)) hc0_0 (Kd.C_below HR1.out (below_step HB5.out hHeld)) hc0_1 (Kd.C_below HR2.out (below_step HB5.out hHeld)) hc0_2 Q2.out).mono ?_); rintro e p2 ⟨rfl, hb⟩
  have hS := below_step hHeld hb
  clear hb
  (try go_wp2_with (fail))
  refine hK.out _ _ hS (fun hHeld => ?_)
  clear hS hK K
  (try simp only [Act.put, List.setIfInBounds_toArray, List.set_cons_zero, List.set_cons_succ])
  (refine msg_take (i := 4) (d := some 28) (v := .bool true) rfl rfl (by kernel_rfl) (by kernel_rfl) (by kernel_rfl) (fun _ _ _ h => h) (Or.inl ⟨by rfl, ?hy⟩) (by assumption) ?_; (case hy => (intro w' hSw; go_simp; try (with_reducible rfl)))); (try simp only [Act.put, List.setIfInBounds_toArray, List.set_cons_zero, List.set_cons_succ])
  (refine msg_take (i := 5) (d := some 29) (v := .bool true) rfl rfl (by kernel_rfl) (by kernel_rfl) (by kernel_rfl) (fun _ _ _ h => h) (Or.inl ⟨by rfl, ?hy⟩) (by assumption) ?_; (case hy => (intro w' hSw; go_simp; try (with_reducible rfl)))); (try simp only [Act.put, List.setIfInBounds_toArray, List.set_cons_zero, List.set_cons_succ])
  (refine msg_take (i := 6) (d := some 30) (v := .int .i64 v1) rfl rfl (by kernel_rfl) (by kernel_rfl) (by kernel_rfl) (fun _ _ _ h => h) (Or.inl ⟨by rfl, ?hy⟩) (by assumption) ?_; (case hy => (intro w' hSw; go_simp; try (with_reducible rfl)))); (try simp only [Act.put, List.setIfInBounds_toArray, List.set_cons_zero, List.set_cons_succ])
  (refine msg_take (i := 7) (d := some 31) (v := .int .i64 v1) rfl rfl (by kernel_rfl) (by kernel_rfl) (by kernel_rfl) (fun _ _ _ h => h) (Or.inl ⟨by rfl, ?hy⟩) (by assumption) ?_; (case hy => (intro w' hSw; go_simp; try (with_reducible rfl)))); (try simp only [Act.put, List.setIfInBounds_toArray, List.set_cons_zero, List.set_cons_succ])
  (refine msg_take (i := 8) (d := some 32) (v := .bool true) rfl rfl (by kernel_rfl) (by kernel_rfl) (by kernel_rfl) (fun _ _ _ h => h) (Or.inl ⟨by rfl, ?hy⟩) (by assumption) ?_; (case hy => (intro w' hSw; go_simp; try (with_reducible rfl)))); (try simp only [Act.put, List.setIfInBounds_toArray, List.set_cons_zero, List.set_cons_succ])
  (refine msg_take (i := 9) (d := some 33) (v := .bool true) rfl rfl (by kernel_rfl) (by kernel_rfl) (by kernel_rfl) (fun _ _ _ h => h) (Or.inl ⟨by rfl, ?hy⟩) (by assumption) ?_; (case hy => (intro w' hSw; go_simp; try (with_reducible rfl)))); (try simp only [Act.put, List.setIfInBounds_toArray, List.set_cons_zero, List.set_cons_succ])
  (refine msg_take (i := 10) (d := some 34) (v := .bool true) rfl rfl (by kernel_rfl) (by kernel_rfl) (by kernel_rfl) (fun _ _ _ h => h) (Or.inl ⟨by rfl, ?hy⟩) (by assumption) ?_; (case hy => (intro w' hSw; go_simp; try (with_reducible rfl)))); (try simp only [Act.put, List.setIfInBounds_toArray, List.set_cons_zero, List.set_cons_succ])
  (refine msg_take (i := 11) (d := some 35) (v := .int .i64 v2) rfl rfl (by kernel_rfl) (by kernel_rfl) (by kernel_rfl) (fun _ _ _ h => h) (Or.inl ⟨by rfl, ?hy⟩) (by assumption) ?_; (case hy => (intro w' hSw; go_simp; try (with_reducible rfl)))); (try simp only [Act.put, List.setIfInBounds_toArray, List.set_cons_zero, List.set_cons_succ])
  (refine msg_take (i := 12) (d := some 36) (v := .int .i64 v2) rfl rfl (by kernel_rfl) (by kernel_rfl) (by kernel_rfl) (fun _ _ _ h => h) (Or.inl ⟨by rfl, ?hy⟩) (by assumption) ?_; (case hy => (intro w' hSw; go_simp; try (with_reducible rfl)))); (try simp only [Act.put, List.setIfInBounds_toArray, List.set_cons_zero, List.set_cons_succ])
  (refine msg_take (i := 13) (d := some 37) (v := .bool true) rfl rfl (by kernel_rfl) (by kernel_rfl) (by kernel_rfl) (fun _ _ _ h => h) (Or.inl ⟨by rfl, ?hy⟩) (by assumption) ?_; (case hy => (intro w' hSw; go_simp; try (with_reducible rfl)))); (try simp only [Act.put, List.setIfInBounds_toArray, List.set_cons_zero, List.set_cons_succ])
  (refine msg_take (i := 14) (d := some 38) (v := .bool true) rfl rfl (by kernel_rfl) (by kernel_rfl) (by kernel_rfl) (fun _ _ _ h => h) (Or.inl ⟨by rfl, ?hy⟩) (by assumption) ?_; (case hy => (intro w' hSw; go_simp; try (with_reducible rfl)))); (try simp only [Act.put, List.setIfInBounds_toArray, List.set_cons_zero, List.set_cons_succ])
  (refine msg_take (i := 15) (d := some 39) (v := .bool true) rfl rfl (by kernel_rfl) (by kernel_rfl) (by kernel_rfl) (fun _ _ _ h => h) (Or.inl ⟨by rfl, ?hy⟩) (by assumption) ?_; (case hy => (intro w' hSw; go_simp; try (with_reducible rfl)))); (try simp only [Act.put, List.setIfInBounds_toArray, List.set_cons_zero, List.set_cons_succ])
  (refine msg_take (i := 16) (d := some 40) (v := .agg #[.slice D0 l0_0.length d0, .slice D1 l0_1.length d1, .slice D2 l0_2.length d2]) rfl rfl (by kernel_rfl) (by kernel_rfl) (by kernel_rfl) (fun _ _ _ h => h) (Or.inl ⟨by rfl, ?hy⟩) (by assumption) ?_; (case hy => (intro w' hSw; have e0 := pw_cell_below hSw j0b; have f0 := pw_cell_below hSw y0b; have e1 := pw_cell_below hSw j1b; have f1 := pw_cell_below hSw y1b; have e2 := pw_cell_below hSw j2b; have f2 := pw_cell_below hSw y2b; clear hSw; go_simp; try (with_reducible rfl)))); (try simp only [Act.put, List.setIfInBounds_toArray, List.set_cons_zero, List.set_cons_succ])
  (refine msg_take (i := 17) (d := some 41) (v := .agg #[.slice A0_0 l0_0.length c0_0, .slice A0_1 l0_1.length c0_1, .slice A0_2 l0_2.length c0_2]) rfl rfl (by kernel_rfl) (by kernel_rfl) (by kernel_rfl) (fun _ _ _ h => h) (Or.inl ⟨by rfl, ?hy⟩) (by assumption) ?_; (case hy => (intro w' hSw; have e0 := pw_cell_below hSw j0b; have f0 := pw_cell_below hSw y0b; have e1 := pw_cell_below hSw j1b; have f1 := pw_cell_below hSw y1b; have e2 := pw_cell_below hSw j2b; have f2 := pw_cell_below hSw y2b; clear hSw; go_simp; try (with_reducible rfl)))); (try simp only [Act.put, List.setIfInBounds_toArray, List.set_cons_zero, List.set_cons_succ])
  refine wpAnyH_ready (rs := [18]) (by kernel_rfl) (by simp) ?_
  refine AllReadyH.cons rfl (fun K hK => ?_) AllReadyH.nil
  go_simp
  (go_at_call 12; refine (mailcoachlaw01_LeftMessage.left D0 d0 D1 d1 D2 d2 A0_0 c0_0 l0_0 A0_1 c0_1 l0_1 A0_2 c0_2 l0_2 _ (HTW5.out.below hHeld) (Kd.C_below HR0.out (below_step HB5.out hHeld)) hc0_0 (Kd.C_below HR1.out (below_step HB5.out hHeld)) hc0_1 (Kd.C_below HR2.out (below_step HB5.out hHeld)) hc0_2 l32a l32b).mono ?_); rintro e p3 ⟨rfl, hb⟩
  have hS := below_step hHeld hb
  clear hb
  (try go_wp2_with (fail))
  refine hK.out _ _ hS (fun hHeld => ?_)
  clear hS hK K
  (try simp only [Act.put, List.setIfInBounds_toArray, List.set_cons_zero, List.set_cons_succ])
  (refine msg_take (i := 19) (d := some 43) (v := .bool true) rfl rfl (by kernel_rfl) (by kernel_rfl) (by kernel_rfl) (fun _ _ _ h => h) (Or.inl ⟨by rfl, ?hy⟩) (by assumption) ?_; (case hy => (intro w' hSw; go_simp; try (with_reducible rfl)))); (try simp only [Act.put, List.setIfInBounds_toArray, List.set_cons_zero, List.set_cons_succ])
  (refine msg_take (i := 20) (d := some 44) (v := .bool true) rfl rfl (by kernel_rfl) (by kernel_rfl) (by kernel_rfl) (fun _ _ _ h => h) (Or.inl ⟨by rfl, ?hy⟩) (by assumption) ?_; (case hy => (intro w' hSw; go_simp; try (with_reducible rfl)))); (try simp only [Act.put, List.setIfInBounds_toArray, List.set_cons_zero, List.set_cons_succ])
  refine wpAnyH_ready (rs := [21]) (by kernel_rfl) (by simp) ?_
  refine AllReadyH.cons rfl (fun K hK => ?_) AllReadyH.nil
  go_simp
  (go_at_call 6; refine (mailcoachlaw22_lives.calls _ (HT.out.below (below_step HB5.out hHeld))).mono ?_); rintro e p4 ⟨rfl, hb⟩
  have hS := below_step hHeld hb
  clear hb
  (try go_wp2_with (fail))
  refine hK.out _ _ hS (fun hHeld => ?_)
  clear hS hK K
  (try simp only [Act.put, List.setIfInBounds_toArray, List.set_cons_zero, List.set_cons_succ])
  (refine msg_take (i := 22) (d := some 46) (v := .bool true) rfl rfl (by kernel_rfl) (by kernel_rfl) (by kernel_rfl) (fun _ _ _ h => h) (Or.inl ⟨by rfl, ?hy⟩) (by assumption) ?_; (case hy => (intro w' hSw; go_simp; try (with_reducible rfl)))); (try simp only [Act.put, List.setIfInBounds_toArray, List.set_cons_zero, List.set_cons_succ])
  (refine msg_take (i := 23) (d := some 2) (v := .bool true) rfl rfl (by kernel_rfl) (by kernel_rfl) (by kernel_rfl) (fun _ _ _ h => h) (Or.inl ⟨by rfl, ?hy⟩) (by assumption) ?_; (case hy => (intro w' hSw; go_simp; try (with_reducible rfl)))); (try simp only [Act.put, List.setIfInBounds_toArray, List.set_cons_zero, List.set_cons_succ])
  refine wpAnyH_done (by kernel_rfl) ?_ _
  go_wp2_with (fail)
  go_ret
  exact ⟨rfl, below_step HB5.out hHeld⟩
end Go.Proofs.YtcgbpallpnaclaaGreatDoor.T
