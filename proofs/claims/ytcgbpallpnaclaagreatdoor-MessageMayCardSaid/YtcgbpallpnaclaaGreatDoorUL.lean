/- A part of the walk of the laws of layer 22 (message): contracts of functions of the program, each walked once. -/
import Derived.Test.YtcgbpallpnaclaaGreatDoorUQ3
import Derived.Test.YtcgbpallpnaclaaGreatDoorPMWx6
import Derived.RangeFuncNested
import Derived.RangeFuncBound
import Derived.RangeFuncCalls
import Derived.RangeFuncLeaves
import Derived.RangeFuncBox
import Derived.OwnWalkIn
import Derived.TacticsInMore
import Derived.LoopNIn
import Derived.LoopIn
import Derived.Deep.DeepMust
import Derived.LoopN
import Derived.Laws.BitsAllLaws
import Derived.Maps.OwnIn
import Derived.Maps.Own
import Derived.Maps.OwnSet
import Derived.Maps.OwnOps
import Derived.Shelf.Abstract
import Derived.Sort.CutIn
import Derived.Shelf.RegionOpen
import Derived.StillTailTactics
import Derived.Outline
import Derived.Deep.RegionHeld3
import Derived.Laws.StructEq
import Derived.Laws.RangeAny
import Derived.Laws.EntriesVeiled
import Derived.WalkSpells
import Derived.Lib.SlBytesConst
import Derived.Deep.RegionLaw
import Derived.Deep.RegionWith
import Derived.ArgAppend
import Derived.Shelf.Strings.SlTrimAscii
import Derived.Shelf.Strings.IndexAnyAll
import Derived.Test.YtcgbpallpnaclaaGreatDoorSh
import Derived.Test.YtcgbpallpnaclaaGreatDoorWEqStruct
namespace Go.Proofs.YtcgbpallpnaclaaGreatDoor.T
open Go.RowKit Go.Proofs.YtcgbpallpnaclaaGreatDoorW.PrintWords Go.Proofs.YtcgbpallpnaclaaGreatDoorW.PrintLast Go.Proofs.YtcgbpallpnaclaaGreatDoorW.PrintMore
open Go.Proofs.YtcgbpallpnaclaaGreatDoor.PMW
set_option linter.unusedVariables false
set_option linter.unusedSimpArgs false
/-! ### mailcoachlaw22.lives -/
def lv_get (p : ByteArray) : List S62 := [⟨⟨#[58, 109, 101, 116, 104, 111, 100]⟩, ⟨#[71, 69, 84]⟩⟩, ⟨⟨#[58, 115, 99, 104, 101, 109, 101]⟩, ⟨#[104, 116, 116, 112, 115]⟩⟩, ⟨⟨#[58, 112, 97, 116, 104]⟩, p⟩]
def lv_pa : ByteArray := ⟨#[47, 97]⟩
def lv_st (v : ByteArray) : S62 := ⟨⟨#[58, 115, 116, 97, 116, 117, 115]⟩, v⟩
def lv_r1 : S64 := ⟨⟨#[]⟩, ⟨#[47]⟩, 200, [], [120], false⟩
def lv_r2 : S64 := ⟨⟨#[71, 69, 84]⟩, ⟨#[47, 97]⟩, 201, [], [], false⟩
theorem lv1 : message_Response.f [lv_st ⟨#[50, 48, 52]⟩] [] [] = some (204, 0) := by kernel_rfl
theorem lv2 : message_Response.f [lv_st ⟨#[57, 57]⟩] [] [] = some (0, 14) := by kernel_rfl
theorem lv3 : message_Request.f (lv_get lv_pa) [] [] = some 0 := by kernel_rfl
theorem lv4 : message_Request.f ((lv_get lv_pa).take 2) [] [] = some 14 := by kernel_rfl
theorem lv5 : message_Answer.f [lv_r1, lv_r2] (lv_get lv_pa) [] [] = some (([ans_status 200], [120]), 0) := by kernel_rfl
theorem lv6 : message_Answer.f [] (lv_get lv_pa) [] [] = some (([ans_404], []), 0) := by kernel_rfl
theorem lv7 : (msg_itoa 200).toList = [50, 48, 48] := by kernel_rfl
theorem lv_empty {α : Type} (d : Kd α) (w : World) : Kd.C d w none ([] : List α).length [] := ⟨rfl, by simp, fun h => by simp at h⟩
theorem lv_rules (w : World) (g g5 : Nat) (hg : w.heap[g]? = some (.cells #[.string ⟨#[]⟩, .string ⟨#[47]⟩, .int .i64 200, .slice none 0 0, .slice (some ⟨g5, 0, none⟩) 1 1, .bool false, .string ⟨#[71, 69, 84]⟩, .string ⟨#[47, 97]⟩, .int .i64 201, .slice none 0 0, .slice none 0 0, .bool false] 64 (0, 0))) (h5 : Kd.C (Kd.int .u8) w (some ⟨g5, 0, none⟩) 1 [120]) : Kd.C k64 w (some ⟨g, 0, none⟩) [lv_r1, lv_r2].length [lv_r1, lv_r2] := by
  refine ⟨rfl, by decide, fun _ => ⟨_, rfl, fun j p hj => ?_⟩⟩
  have hsz : k64.sz = 6 := rfl
  have hj2 : j < 2 := (List.getElem?_eq_some_iff.1 hj).1
  have two : j = 0 ∨ j = 1 := by omega
  rcases two with rfl | rfl
  · obtain rfl := Option.some.inj hj
    refine ⟨_, rfl, k64_mk w lv_r1 (A3 := none) (c3 := 0) (Nat.le_refl _) (lv_empty _ _) (A4 := some ⟨g5, 0, none⟩) (c4 := 1) (Nat.le_refl _) h5, fun i u hu => ?_⟩
    have hi : i < 6 := (List.getElem?_eq_some_iff.1 hu).1
    rw [add_plain, blk_cell hg]
    rcases (show i = 0 ∨ i = 1 ∨ i = 2 ∨ i = 3 ∨ i = 4 ∨ i = 5 by omega) with rfl | rfl | rfl | rfl | rfl | rfl <;> exact hu
  · obtain rfl := Option.some.inj hj
    refine ⟨_, rfl, k64_mk w lv_r2 (A3 := none) (c3 := 0) (Nat.le_refl _) (lv_empty _ _) (A4 := none) (c4 := 0) (Nat.le_refl _) (lv_empty _ _), fun i u hu => ?_⟩
    have hi : i < 6 := (List.getElem?_eq_some_iff.1 hu).1
    rw [add_plain, blk_cell hg]
    rcases (show i = 0 ∨ i = 1 ∨ i = 2 ∨ i = 3 ∨ i = 4 ∨ i = 5 by omega) with rfl | rfl | rfl | rfl | rfl | rfl <;> exact hu
theorem lv_byte (W : World) : Kd.C (Kd.int .u8) (W.alloc (.cells #[.int .u8 120] 5 (1, 2))) (some ⟨W.heap.size, 0, none⟩) 1 [120] := by
  refine Kd.C_of_reads (enc := Value.int .u8) (d := (0 : Int)) (h1 := fun _ => rfl) ⟨rfl, by decide, fun _ => ⟨_, rfl, fun j hj => ?_⟩⟩
  have hj1 : j < 1 := hj
  rw [add_plain]
  obtain rfl : j = 0 := by omega
  unfold World.cell? World.alloc
  rw [Array.getElem?_push_size]
  rfl
set_option maxHeartbeats 6400000 in
set_option maxRecDepth 100000 in
theorem mailcoachlaw22_lives.calls (w : World) (hT : MsgTab w) :
    Calls Tryz.prog 6 #[] w fun e w' => e = .returned (.bool true) ∧ Below w.heap.size w w' := by
  have HT := Aside0.mk hT
  clear hT
  go_enter Tryz.func6, Tryz.ntmps6
  go_upto_region 2 with (go_at_call 24; refine (mailcoachlaw22_Get.calls lv_pa (lv_get lv_pa) [] [] _ rfl).mono ?_; rintro e w1 ⟨u0, u1, u2, rfl, ho0, ho1, ho2, hb⟩; obtain ⟨A1, c1, rfl⟩ := Kd.R_slice ho0; obtain ⟨A2, c2, rfl⟩ := Kd.R_slice ho1; obtain ⟨A3, c3, rfl⟩ := Kd.R_slice ho2; have R1 := Aside0.mk (Kd.R_reads' ho0); have R2 := Aside0.mk (Kd.R_reads' ho1); have R3 := Aside0.mk (Kd.R_reads' ho2); have HB1 := Aside0.mk hb; clear hb ho0 ho1 ho2)
  have hA1 : (lv_get lv_pa).length ≤ c1 := R1.out.2.1
  have PRQ := Aside0.mk (show ∀ W : World, Below w1.heap.size w1 W → Calls Tryz.prog 10 #[.agg #[.slice A1 (lv_get lv_pa).length c1, .slice A2 0 c2, .slice A3 0 c3]] W fun e w' => e = .returned (.int .i64 0) ∧ Below W.heap.size W w' from fun W hb => message_Request.calls A1 c1 (lv_get lv_pa) A2 c2 [] A3 c3 [] 0 W (Kd.C_below R1.out.2.2 hb) hA1 (Kd.C_below R2.out.2.2 hb) (Nat.zero_le _) (Kd.C_below R3.out.2.2 hb) (Nat.zero_le _) (HT.out.below (below_step HB1.out hb)) lv3)
  have PR2 := Aside0.mk (show ∀ W : World, Below w1.heap.size w1 W → Calls Tryz.prog 10 #[.agg #[.slice A1 2 c1, .slice none 0 0, .slice none 0 0]] W fun e w' => e = .returned (.int .i64 14) ∧ Below W.heap.size W w' from fun W hb => message_Request.calls A1 c1 ((lv_get lv_pa).take 2) none 0 [] none 0 [] 14 W (Kd.C_take (Kd.C_below R1.out.2.2 hb) (by decide)) (Nat.le_trans (by decide) hA1) (lv_empty _ _) (Nat.zero_le _) (lv_empty _ _) (Nat.zero_le _) (HT.out.below (below_step HB1.out hb)) lv4)
  have PA1 := Aside0.mk (show ∀ (W : World) (g g5 : Nat), Below w1.heap.size w1 W → W.heap[g]? = some (.cells #[.string ⟨#[]⟩, .string ⟨#[47]⟩, .int .i64 200, .slice none 0 0, .slice (some ⟨g5, 0, none⟩) 1 1, .bool false, .string ⟨#[71, 69, 84]⟩, .string ⟨#[47, 97]⟩, .int .i64 201, .slice none 0 0, .slice none 0 0, .bool false] 64 (0, 0)) → Kd.C (Kd.int .u8) W (some ⟨g5, 0, none⟩) 1 [120] → Calls Tryz.prog 15 #[.slice (some ⟨g, 0, none⟩) 2 2, .agg #[.slice A1 (lv_get lv_pa).length c1, .slice A2 0 c2, .slice A3 0 c3]] W fun e w' => (∃ (B1 : Option Addr) (d1 : Nat) (B2 : Option Addr) (d2 : Nat), e = .returned (.tuple #[.agg #[.slice B1 1 d1, .slice B2 1 d2, .slice none 0 0], .int .i64 0]) ∧ Kd.C k62 w' B1 1 [ans_status 200] ∧ 1 ≤ d1 ∧ Kd.C (Kd.int .u8) w' B2 1 [120] ∧ 1 ≤ d2) ∧ Below W.heap.size W w' from fun W g g5 hb hg h5 => message_Answer.calls (some ⟨g, 0, none⟩) 2 [lv_r1, lv_r2] A1 c1 (lv_get lv_pa) A2 c2 [] A3 c3 [] [ans_status 200] [120] 0 W (lv_rules W g g5 hg h5) (by decide) (Kd.C_below R1.out.2.2 hb) hA1 (Kd.C_below R2.out.2.2 hb) (Nat.zero_le _) (Kd.C_below R3.out.2.2 hb) (Nat.zero_le _) (HT.out.below (below_step HB1.out hb)) lv5)
  have PA2 := Aside0.mk (show ∀ (W : World), Below w1.heap.size w1 W → Calls Tryz.prog 15 #[.slice none 0 0, .agg #[.slice A1 (lv_get lv_pa).length c1, .slice A2 0 c2, .slice A3 0 c3]] W fun e w' => (∃ (B1 : Option Addr) (d1 : Nat) (B2 : Option Addr) (d2 : Nat), e = .returned (.tuple #[.agg #[.slice B1 1 d1, .slice B2 0 d2, .slice none 0 0], .int .i64 0]) ∧ Kd.C k62 w' B1 1 [ans_404] ∧ 1 ≤ d1 ∧ Kd.C (Kd.int .u8) w' B2 0 [] ∧ 0 ≤ d2) ∧ Below W.heap.size W w' from fun W hb => message_Answer.calls none 0 [] A1 c1 (lv_get lv_pa) A2 c2 [] A3 c3 [] [ans_404] [] 0 W (lv_empty _ _) (by decide) (Kd.C_below R1.out.2.2 hb) hA1 (Kd.C_below R2.out.2.2 hb) (Nat.zero_le _) (Kd.C_below R3.out.2.2 hb) (Nat.zero_le _) (HT.out.below (below_step HB1.out hb)) lv6)
  have PS1 := Aside0.mk (show ∀ (W : World), MsgTab W → Calls Tryz.prog 8 #[.agg #[.slice (some ⟨W.heap.size, 0, none⟩) 1 1, .slice none 0 0, .slice none 0 0]] (W.alloc (.cells #[.string ⟨#[58, 115, 116, 97, 116, 117, 115]⟩, .string ⟨#[50, 48, 52]⟩] 62)) fun e w' => e = .returned (.tuple #[.int .i64 204, .int .i64 0]) ∧ Below W.heap.size W w' from fun W ht => (message_Response.calls (some ⟨W.heap.size, 0, none⟩) 1 [lv_st ⟨#[50, 48, 52]⟩] none 0 [] none 0 [] 204 0 _ (Kd.R_reads' (field_row W 0 (lv_st ⟨#[50, 48, 52]⟩) (Nat.zero_le _))).2.2 (by decide) (lv_empty _ _) (Nat.zero_le _) (lv_empty _ _) (Nat.zero_le _) (ht.below (below_alloc (Below.refl _ _) _)) lv1).mono (fun e w' h => ⟨h.1, below_step (below_alloc (Below.refl _ _) _) h.2⟩))
  have PS2 := Aside0.mk (show ∀ (W : World), MsgTab W → Calls Tryz.prog 8 #[.agg #[.slice (some ⟨W.heap.size, 0, none⟩) 1 1, .slice none 0 0, .slice none 0 0]] (W.alloc (.cells #[.string ⟨#[58, 115, 116, 97, 116, 117, 115]⟩, .string ⟨#[57, 57]⟩] 62)) fun e w' => e = .returned (.tuple #[.int .i64 0, .int .i64 14]) ∧ Below W.heap.size W w' from fun W ht => (message_Response.calls (some ⟨W.heap.size, 0, none⟩) 1 [lv_st ⟨#[57, 57]⟩] none 0 [] none 0 [] 0 14 _ (Kd.R_reads' (field_row W 0 (lv_st ⟨#[57, 57]⟩) (Nat.zero_le _))).2.2 (by decide) (lv_empty _ _) (Nat.zero_le _) (lv_empty _ _) (Nat.zero_le _) (ht.below (below_alloc (Below.refl _ _) _)) lv2).mono (fun e w' h => ⟨h.1, below_step (below_alloc (Below.refl _ _) _) h.2⟩))
  obtain ⟨W1, hW1⟩ : ∃ z_, w1.alloc (.cells #[.slice A1 (lv_get lv_pa).length c1, .slice A2 0 c2, .slice A3 0 c3] 25) = z_ := ⟨_, rfl⟩
  have BKa := Aside0.mk (show W1.heap[w1.heap.size]? = some (.cells #[.slice A1 (lv_get lv_pa).length c1, .slice A2 0 c2, .slice A3 0 c3] 25 (0, 0)) by rw [← hW1]; exact tok_block _ _ _)
  have HQ1 := Aside0.mk (show Below w1.heap.size w1 W1 by rw [← hW1]; exact below_alloc (Below.refl _ _) _)
  go_upto_region 3 with (go_at_call 8; refine (PS1.out _ (HT.out.below (below_step HB1.out HQ1.out))).mono ?_; rintro e w2 ⟨rfl, hb⟩; have HQ2 := Aside0.mk (below_step HQ1.out hb); have BKb := Aside0.mk (blk_below BKa.out hb); clear hb)
  go_upto_region 4 with (go_at_call 8; refine (PS2.out _ (HT.out.below (below_step HB1.out HQ2.out))).mono ?_; rintro e w3 ⟨rfl, hb⟩; have HQ3 := Aside0.mk (below_step HQ2.out hb); have BKc := Aside0.mk (blk_below BKb.out hb); clear hb)
  obtain ⟨W4, hW4⟩ : ∃ z_, (w3.alloc (.cells #[.int .u8 120] 5 (1, 2))).alloc (.cells #[.string ⟨#[]⟩, .string ⟨#[47]⟩, .int .i64 200, .slice none 0 0, .slice (some ⟨w3.heap.size, 0, none⟩) 1 1, .bool false, .string ⟨#[71, 69, 84]⟩, .string ⟨#[47, 97]⟩, .int .i64 201, .slice none 0 0, .slice none 0 0, .bool false] 64) = z_ := ⟨_, rfl⟩
  have BKd := Aside0.mk (show W4.heap[w1.heap.size]? = some (.cells #[.slice A1 (lv_get lv_pa).length c1, .slice A2 0 c2, .slice A3 0 c3] 25 (0, 0)) by rw [← hW4]; exact blk_alloc (blk_alloc BKc.out _) _)
  have hg4 : W4.heap[w3.heap.size + 1]? = some (.cells #[.string ⟨#[]⟩, .string ⟨#[47]⟩, .int .i64 200, .slice none 0 0, .slice (some ⟨w3.heap.size, 0, none⟩) 1 1, .bool false, .string ⟨#[71, 69, 84]⟩, .string ⟨#[47, 97]⟩, .int .i64 201, .slice none 0 0, .slice none 0 0, .bool false] 64 (0, 0)) := by rw [← hW4]; have := tok_block (w3.alloc (.cells #[.int .u8 120] 5 (1, 2))) #[.string ⟨#[]⟩, .string ⟨#[47]⟩, .int .i64 200, .slice none 0 0, .slice (some ⟨w3.heap.size, 0, none⟩) 1 1, .bool false, .string ⟨#[71, 69, 84]⟩, .string ⟨#[47, 97]⟩, .int .i64 201, .slice none 0 0, .slice none 0 0, .bool false] 64; rw [World.size_alloc] at this; exact this
  have h54 : Kd.C (Kd.int .u8) W4 (some ⟨w3.heap.size, 0, none⟩) 1 [120] := by rw [← hW4]; exact Kd.C_below (lv_byte w3) (below_alloc (Below.refl _ _) _)
  have HG4 := Aside0.mk hg4
  have H54 := Aside0.mk h54
  have HQ4 := Aside0.mk (show Below w1.heap.size w1 W4 by rw [← hW4]; exact below_alloc (below_alloc HQ3.out _) _)
  have ka0 : W4.cell? ⟨w1.heap.size, 0, none⟩ = some (.slice A1 (lv_get lv_pa).length c1) := (blk_cell BKd.out 0).trans rfl
  have ka1 : W4.cell? ⟨w1.heap.size, 1, none⟩ = some (.slice A2 0 c2) := (blk_cell BKd.out 1).trans rfl
  have ka2 : W4.cell? ⟨w1.heap.size, 2, none⟩ = some (.slice A3 0 c3) := (blk_cell BKd.out 2).trans rfl
  clear hg4 h54
  have hcv := Lib.run_convert_bytes_const (P := Tryz.prog) w3 23 5 #[.int .u8 120] 1 1 Tryz.underlying23 Tryz.underlying5
  go_upto_region 5 with (go_at_call 15; refine (PA1.out _ (w3.heap.size + 1) w3.heap.size HQ4.out HG4.out H54.out).mono ?_; rintro e w5 ⟨⟨B1, d1, B2, d2, rfl, hc1, hd1, hc2, hd2⟩, hb⟩; have HQ5 := Aside0.mk (below_step HQ4.out hb); have BKe := Aside0.mk (blk_below BKd.out hb); have K1 := Aside0.mk hc1; have K2 := Aside0.mk hc2; clear hb hc1 hc2)
  clear ka0 ka1 ka2
  obtain ⟨W6, hW6⟩ : ∃ z_, w5.alloc (.cells #[.slice B1 1 d1, .slice B2 1 d2, .slice none 0 0] 25) = z_ := ⟨_, rfl⟩
  have BKf := Aside0.mk (show W6.heap[w1.heap.size]? = some (.cells #[.slice A1 (lv_get lv_pa).length c1, .slice A2 0 c2, .slice A3 0 c3] 25 (0, 0)) by rw [← hW6]; exact blk_alloc BKe.out _)
  have BL6 := Aside0.mk (show W6.heap[w5.heap.size]? = some (.cells #[.slice B1 1 d1, .slice B2 1 d2, .slice none 0 0] 25 (0, 0)) by rw [← hW6]; exact tok_block _ _ _)
  have HX6 := Aside0.mk (show Below w5.heap.size w5 W6 by rw [← hW6]; exact below_alloc (Below.refl _ _) _)
  have HQ6 := Aside0.mk (below_step HQ5.out HX6.out)
  have kb0 : W6.cell? ⟨w1.heap.size, 0, none⟩ = some (.slice A1 (lv_get lv_pa).length c1) := (blk_cell BKf.out 0).trans rfl
  have kb1 : W6.cell? ⟨w1.heap.size, 1, none⟩ = some (.slice A2 0 c2) := (blk_cell BKf.out 1).trans rfl
  have kb2 : W6.cell? ⟨w1.heap.size, 2, none⟩ = some (.slice A3 0 c3) := (blk_cell BKf.out 2).trans rfl
  go_upto_region 6 with (go_at_call 15; refine (PA2.out _ HQ6.out).mono ?_; rintro e w7 ⟨⟨B3, d3, B4, d4, rfl, hc3, hd3, hc4, hd4⟩, hb⟩; have HQ7 := Aside0.mk (below_step HQ6.out hb); have HX7 := Aside0.mk (below_step HX6.out hb); have BKg := Aside0.mk (blk_below BKf.out hb); have BL7 := Aside0.mk (blk_below BL6.out hb); have K3 := Aside0.mk hc3; have K4 := Aside0.mk hc4; clear hb hc3 hc4)
  clear kb0 kb1 kb2
  obtain ⟨W8, hW8⟩ : ∃ z_, w7.alloc (.cells #[.slice B3 1 d3, .slice B4 0 d4, .slice none 0 0] 25) = z_ := ⟨_, rfl⟩
  have hb8 : Below w7.heap.size w7 W8 := by rw [← hW8]; exact below_alloc (Below.refl _ _) _
  have BKh := Aside0.mk (blk_below BKg.out hb8)
  have BL8 := Aside0.mk (blk_below BL7.out hb8)
  have BM8 := Aside0.mk (show W8.heap[w7.heap.size]? = some (.cells #[.slice B3 1 d3, .slice B4 0 d4, .slice none 0 0] 25 (0, 0)) by rw [← hW8]; exact tok_block _ _ _)
  have HQ8 := Aside0.mk (below_step HQ7.out hb8)
  obtain ⟨a1, ha1, x10, x11⟩ := at_T62 K1.out 0 (by omega) (by omega)
  obtain ⟨a3, ha3, x30, x31⟩ := at_T62 K3.out 0 (by omega) (by omega)
  subst ha1
  subst ha3
  have x11' := pw_cell_below hb8 (pw_cell_below HX7.out x11)
  have x31' := pw_cell_below hb8 x31
  have q1 : (a1.add 0) = a1 := by first | rfl | (unfold Addr.add; split <;> simp_all)
  have q3 : (a3.add 0) = a3 := by first | rfl | (unfold Addr.add; split <;> simp_all)
  have y1 : W8.cell? ⟨a1.block, a1.off + 1, none⟩ = some (.string (msg_itoa 200)) := by have h := x11'; rw [show (Int.toNat 0 * 2) = 0 from rfl, q1] at h; exact h
  have y3 : W8.cell? ⟨a3.block, a3.off + 1, none⟩ = some (.string ⟨#[52, 48, 52]⟩) := by have h := x31'; rw [show (Int.toNat 0 * 2) = 0 from rfl, q3] at h; exact h
  clear x10 x11 x30 x31 x11' x31' q1 q3
  have nk0 : W8.cell? ⟨w1.heap.size, 0, none⟩ = some (.slice A1 (lv_get lv_pa).length c1) := (blk_cell BKh.out 0).trans rfl
  have nk1 : W8.cell? ⟨w1.heap.size, 1, none⟩ = some (.slice A2 0 c2) := (blk_cell BKh.out 1).trans rfl
  have nk2 : W8.cell? ⟨w1.heap.size, 2, none⟩ = some (.slice A3 0 c3) := (blk_cell BKh.out 2).trans rfl
  have m0 : W8.cell? ⟨w5.heap.size, 0, none⟩ = some (.slice (some a1) 1 d1) := (blk_cell BL8.out 0).trans rfl
  have m1 : W8.cell? ⟨w5.heap.size, 1, none⟩ = some (.slice B2 1 d2) := (blk_cell BL8.out 1).trans rfl
  have p0 : W8.cell? ⟨w7.heap.size, 0, none⟩ = some (.slice (some a3) 1 d3) := (blk_cell BM8.out 0).trans rfl
  have p1 : W8.cell? ⟨w7.heap.size, 1, none⟩ = some (.slice B4 0 d4) := (blk_cell BM8.out 1).trans rfl
  have HC2 := Aside0.mk (Kd.C_below (Kd.C_below K2.out HX7.out) hb8)
  obtain ⟨i0, hi0, hzz⟩ := Option.map_eq_some_iff.1 info62
  simp only [Prod.mk.injEq] at hzz
  obtain ⟨hz0, hz1, hz2⟩ := hzz
  have hcut := cut_to (P := Tryz.prog) 22 62 .i64 (i := i0) Tryz.underlying22 hi0 A1 (lv_get lv_pa).length c1 2 (by omega) (by decide) hA1
  have hstr : (strOfNums [120]).toList = [120] := by kernel_rfl
  have hit : ((msg_itoa 200).toList == [50, 48, 48]) = true := by rw [lv7]; rfl
  clear hz0 hz1 hz2 hi0 hb8
  go_wp2_with (first | (go_at_call 10; (with_reducible refine (PRQ.out _ HQ8.out).mono ?_); rintro e w9 ⟨rfl, hb⟩; have HQ9 := Aside0.mk (below_step HQ8.out hb); have nk0b := pw_cell_below hb nk0; have m0b := pw_cell_below hb m0; have m1b := pw_cell_below hb m1; have p0b := pw_cell_below hb p0; have p1b := pw_cell_below hb p1; have y1b := pw_cell_below hb y1; have y3b := pw_cell_below hb y3; have HC3 := Aside0.mk (Kd.C_below HC2.out hb); clear hb) | (go_at_call 10; (with_reducible refine (PR2.out _ HQ9.out).mono ?_); rintro e w10 ⟨rfl, hb⟩; have HQ10 := Aside0.mk (below_step HQ9.out hb); have m0c := pw_cell_below hb m0b; have m1c := pw_cell_below hb m1b; have p0c := pw_cell_below hb p0b; have p1c := pw_cell_below hb p1b; have y1c := pw_cell_below hb y1b; have y3c := pw_cell_below hb y3b; have hcs := Kd.C_string (P := Tryz.prog) Tryz.underlying23 Tryz.underlying5 Tryz.underlying9 (c := d2) (Kd.C_below HC3.out hb); clear hb))
  go_ret
  exact ⟨rfl, below_step HB1.out HQ10.out⟩
end Go.Proofs.YtcgbpallpnaclaaGreatDoor.T
