/- A part of the walk of the laws of layer 22 (message): contracts of functions of the program, each walked once. -/
import Derived.Test.YtcgbpallpnaclaaGreatDoorUQ2
import Derived.RangeFuncNested
import Derived.RangeFuncBound
import Derived.RangeFuncCalls
import Derived.RangeFuncLeaves
import Derived.RangeFuncBox
import Derived.OwnWalkIn
import Derived.TacticsInMore
import Derived.LoopNIn
import Derived.LoopIn
import Derived.Deep.DeepMust
import Derived.LoopN
import Derived.Laws.BitsAllLaws
import Derived.Maps.OwnIn
import Derived.Maps.Own
import Derived.Maps.OwnSet
import Derived.Maps.OwnOps
import Derived.Shelf.Abstract
import Derived.Sort.CutIn
import Derived.Shelf.RegionOpen
import Derived.StillTailTactics
import Derived.Outline
import Derived.Deep.RegionHeld3
import Derived.Laws.StructEq
import Derived.Laws.RangeAny
import Derived.Laws.EntriesVeiled
import Derived.WalkSpells
import Derived.Lib.SlBytesConst
import Derived.Deep.RegionLaw
import Derived.Deep.RegionWith
import Derived.ArgAppend
import Derived.Shelf.Strings.SlTrimAscii
import Derived.Shelf.Strings.IndexAnyAll
import Derived.Test.YtcgbpallpnaclaaGreatDoorSh
import Derived.Test.YtcgbpallpnaclaaGreatDoorWEqStruct
namespace Go.Proofs.YtcgbpallpnaclaaGreatDoor.T
open Go.RowKit Go.Proofs.YtcgbpallpnaclaaGreatDoorW.PrintWords Go.Proofs.YtcgbpallpnaclaaGreatDoorW.PrintLast Go.Proofs.YtcgbpallpnaclaaGreatDoorW.PrintMore
open Go.Proofs.YtcgbpallpnaclaaGreatDoor.PMW
set_option linter.unusedVariables false
set_option linter.unusedSimpArgs false
/-! ### message.Answer (made by wip/gen_ans.py) -/
def ans_status (n : Int) : S62 := ⟨⟨#[58, 115, 116, 97, 116, 117, 115]⟩, msg_itoa n⟩
def ans_404 : S62 := ⟨⟨#[58, 115, 116, 97, 116, 117, 115]⟩, ⟨#[52, 48, 52]⟩⟩
def ans_body (x : S64) (l1 : List Int) : List Int := if x.f5 = true then x.f4 ++ l1 else x.f4
theorem ans_body_le (x : S64) (l1 : List Int) : (ans_body x l1).length ≤ x.f4.length + l1.length := by
  unfold ans_body
  split
  · rw [List.length_append]; exact Nat.le_refl _
  · omega
def ans_out (x : S64) (l1 : List Int) : Option ((List S62 × List Int) × Int) :=
  if (1 + x.f3.length) * 32 ≤ 140737488355328 ∧ x.f4.length + l1.length ≤ 140737488355328 ∧ -9223372036854775808 ≤ x.f2 ∧ x.f2 ≤ 9223372036854775807 then
    (message_Response.f (ans_status x.f2 :: x.f3) (ans_body x l1) []).bind fun p => if p.2 = 0 then some ((ans_status x.f2 :: x.f3, ans_body x l1), 0) else some (([], []), 1)
  else none
theorem u8_base {W : World} {b m : Nat} {ok : Nat → Prop} {A : Option Addr} {n c : Nat} {xs : List Int} (h : Kd.R (Kd.int .u8) 5 W b ok (.slice A n c) xs) (hm : m ≤ b) (hw : m ≤ W.heap.size) : ∃ b', m ≤ b' ∧ b' ≤ W.heap.size ∧ Kd.R (Kd.int .u8) 5 W b' ok (.slice A n c) xs := by
  obtain ⟨hok, inner, hown, hr⟩ := h
  rcases hown.2 with ⟨e, hn⟩ | ⟨g, cap, cur, e, hb, hg, rest⟩
  · cases e
    have hx : xs = [] := List.eq_nil_of_length_eq_zero (by first | exact hn | (have hz := hr.1; simp_all))
    subst hx
    exact ⟨m, Nat.le_refl _, hw, Kd.R_nil _ _ _ _ _⟩
  · exact ⟨b, hm, by have := (Array.getElem?_eq_some_iff.1 hg).1; omega, hok, inner, ⟨hown.1, .inr ⟨g, cap, cur, e, hb, hg, rest⟩⟩, hr⟩
def message_Answer.f (l : List S64) (l0 : List S62) (l1 : List Int) (l2 : List S62) : Option ((List S62 × List Int) × Int) :=
  (message_Request.f l0 l1 l2).bind fun e => if e = 0 then (match l.find? (rule_fits (req_get req_m l0) (req_get req_p l0)) with
    | none => some (([ans_404], []), 0)
    | some x => ans_out x l1) else some (([], []), e)
theorem get_req (k : List UInt8) (L : List S62) : ∃ b, message_Get.f L ⟨k.toArray⟩ = some (req_get k L, b) := by
  unfold message_Get.f req_get
  cases L.find? (get_hit ⟨k.toArray⟩) with
  | none => exact ⟨_, rfl⟩
  | some x => exact ⟨_, rfl⟩
set_option maxHeartbeats 6400000 in
set_option maxRecDepth 100000 in
theorem message_Answer.calls (A : Option Addr) (c : Nat) (l : List S64) (A0_0 : Option Addr) (c0_0 : Nat) (l0_0 : List S62) (A0_1 : Option Addr) (c0_1 : Nat) (l0_1 : List Int) (A0_2 : Option Addr) (c0_2 : Nat) (l0_2 : List S62) (r1 : List S62) (r2 : List Int) (r3 : Int) (w : World) (hr : Kd.C k64 w A l.length l) (hc : l.length ≤ c) (hr0_0 : Kd.C k62 w A0_0 l0_0.length l0_0) (hc0_0 : l0_0.length ≤ c0_0) (hr0_1 : Kd.C (Kd.int .u8) w A0_1 l0_1.length l0_1) (hc0_1 : l0_1.length ≤ c0_1) (hr0_2 : Kd.C k62 w A0_2 l0_2.length l0_2) (hc0_2 : l0_2.length ≤ c0_2) (hT : MsgTab w) (h : message_Answer.f l l0_0 l0_1 l0_2 = some ((r1, r2), r3)) :
    Calls Tryz.prog 15 #[.slice A l.length c, .agg #[.slice A0_0 l0_0.length c0_0, .slice A0_1 l0_1.length c0_1, .slice A0_2 l0_2.length c0_2]] w fun e w' => (∃ (A1 : Option Addr) (c1 : Nat) (A2 : Option Addr) (c2 : Nat), e = .returned (.tuple #[.agg #[.slice A1 r1.length c1, .slice A2 r2.length c2, .slice none 0 0], .int .i64 r3]) ∧ Kd.C k62 w' A1 r1.length r1 ∧ r1.length ≤ c1 ∧ Kd.C (Kd.int .u8) w' A2 r2.length r2 ∧ r2.length ≤ c2) ∧ Below w.heap.size w w' := by
  unfold message_Answer.f at h
  obtain ⟨e, he, h⟩ := Option.bind_eq_some_iff.mp h
  have HRQ := Aside0.mk he
  have HR := Aside0.mk hr
  have HR0 := Aside0.mk hr0_0
  have HR1 := Aside0.mk hr0_1
  have HR2 := Aside0.mk hr0_2
  have HT := Aside0.mk hT
  have hlm : l.length ≤ 9223372036854775807 := hr.2.1
  clear he hr hr0_0 hr0_1 hr0_2 hT
  obtain ⟨W0, hW0⟩ : ∃ W0, (w.alloc (.cells #[.slice A0_0 l0_0.length c0_0, .slice A0_1 l0_1.length c0_1, .slice A0_2 l0_2.length c0_2] 25)).alloc (.cells #[.slice none 0 0, .slice none 0 0, .slice none 0 0] 25) = W0 := ⟨_, rfl⟩
  have BK3 := Aside0.mk (show W0.heap[w.heap.size]? = some (.cells #[.slice A0_0 l0_0.length c0_0, .slice A0_1 l0_1.length c0_1, .slice A0_2 l0_2.length c0_2] 25 (0, 0)) by rw [← hW0]; exact blk_alloc (tok_block _ _ _) _)
  have BK4 := Aside0.mk (show W0.heap[w.heap.size + 1]? = some (.cells #[.slice none 0 0, .slice none 0 0, .slice none 0 0] 25 (0, 0)) by rw [← hW0]; have := tok_block (w.alloc (.cells #[.slice A0_0 l0_0.length c0_0, .slice A0_1 l0_1.length c0_1, .slice A0_2 l0_2.length c0_2] 25)) #[.slice none 0 0, .slice none 0 0, .slice none 0 0] 25; rw [World.size_alloc] at this; exact this)
  have HB := Aside0.mk (show Below w.heap.size w W0 by rw [← hW0]; exact below_alloc (below_alloc (Below.refl _ _) _) _)
  have k0 : W0.cell? ⟨w.heap.size, 0, none⟩ = some (.slice A0_0 l0_0.length c0_0) := (blk_cell BK3.out 0).trans rfl
  have k1 : W0.cell? ⟨w.heap.size, 1, none⟩ = some (.slice A0_1 l0_1.length c0_1) := (blk_cell BK3.out 1).trans rfl
  have k2 : W0.cell? ⟨w.heap.size, 2, none⟩ = some (.slice A0_2 l0_2.length c0_2) := (blk_cell BK3.out 2).trans rfl
  go_enter Tryz.func15, Tryz.ntmps15
  by_cases e0 : e = 0
  · subst e0
    rw [if_pos rfl] at h
    obtain ⟨b1, hg1⟩ := get_req req_m l0_0
    obtain ⟨b2, hg2⟩ := get_req req_p l0_0
    obtain ⟨v1, hv1⟩ : ∃ v, req_get req_m l0_0 = v := ⟨_, rfl⟩
    obtain ⟨v2, hv2⟩ : ∃ v, req_get req_p l0_0 = v := ⟨_, rfl⟩
    rw [hv1] at hg1
    rw [hv2] at hg2
    rw [hv1, hv2] at h
    have HG1 := Aside0.mk (show message_Get.f l0_0 ⟨#[58, 109, 101, 116, 104, 111, 100]⟩ = some (v1, b1) from hg1)
    have HG2 := Aside0.mk (show message_Get.f l0_0 ⟨#[58, 112, 97, 116, 104]⟩ = some (v2, b2) from hg2)
    clear hg1 hg2 hv1 hv2
    rcases rule_idx_find v1 v2 l 0 with ⟨hi, hf⟩ | ⟨n, hn, hi, hf⟩
    · have HIX := Aside0.mk (show rule_idx v1 v2 l 0 = -1 from hi)
      rw [hf] at h
      obtain ⟨h1, rfl⟩ := Prod.mk.inj (Option.some.inj h)
      obtain ⟨rfl, rfl⟩ := Prod.mk.inj h1
      clear h h1 hi hf
      go_upto_region 8 with (first | (go_at_call 10; (with_reducible refine (message_Request.calls A0_0 c0_0 l0_0 A0_1 c0_1 l0_1 A0_2 c0_2 l0_2 0 _ (Kd.C_below HR0.out HB.out) hc0_0 (Kd.C_below HR1.out HB.out) hc0_1 (Kd.C_below HR2.out HB.out) hc0_2 (HT.out.below HB.out) HRQ.out).mono ?_); rintro e q1 ⟨rfl, hb⟩; have HB1 := Aside0.mk (below_step HB.out hb); have k0a := pw_cell_below hb k0; have k1a := pw_cell_below hb k1; have k2a := pw_cell_below hb k2; have BK3a := Aside0.mk (blk_below BK3.out hb); have BK4a := Aside0.mk (blk_below BK4.out hb); clear hb) | (go_at_call 34; (with_reducible refine (message_Get.calls A0_0 c0_0 l0_0 ⟨#[58, 109, 101, 116, 104, 111, 100]⟩ v1 b1 _ (Kd.C_below HR0.out HB1.out) hc0_0 HG1.out).mono ?_); rintro e q2 ⟨rfl, hb⟩; have HB2 := Aside0.mk (below_step HB1.out hb); have k0b := pw_cell_below hb k0a; have k0bb := pw_cell_below (below_alloc (Below.refl q2.heap.size q2) (.cells #[.string v1] 9)) k0b; have BK3b := Aside0.mk (blk_below BK3a.out hb); have BK4b := Aside0.mk (blk_below BK4a.out hb); clear hb) | (go_at_call 34; (with_reducible refine (message_Get.calls A0_0 c0_0 l0_0 ⟨#[58, 112, 97, 116, 104]⟩ v2 b2 _ (Kd.C_below HR0.out (below_alloc HB2.out _)) hc0_0 HG2.out).mono ?_); rintro e q3 ⟨rfl, hb⟩; have HB3 := Aside0.mk (below_step (below_alloc HB2.out _) hb); have BK7 := Aside0.mk (blk_below (tok_block _ _ _) hb); have BK3c := Aside0.mk (blk_below (blk_alloc BK3b.out _) hb); have BK4c := Aside0.mk (blk_below (blk_alloc BK4b.out _) hb); clear hb) | (go_at_call 44; (with_reducible refine (rule_index.calls v1 v2 q2.heap.size q3.heap.size A c l _ (Kd.C_below HR.out (below_alloc HB3.out _)) (blk_alloc BK7.out _) (tok_block _ _ _)).mono ?_); rintro e q4 ⟨rfl, hb⟩; rw [HIX.out]; have HB4 := Aside0.mk (below_step (below_alloc HB3.out _) hb); have BK3d := Aside0.mk (blk_below (blk_alloc BK3c.out _) hb); have BK4d := Aside0.mk (blk_below (blk_alloc BK4c.out _) hb); clear hb))
      obtain ⟨W5, hW5⟩ : ∃ W5, q4.alloc (.cells #[.string ⟨#[58, 115, 116, 97, 116, 117, 115]⟩, .string ⟨#[52, 48, 52]⟩] 62) = W5 := ⟨_, rfl⟩
      have BK5 := Aside0.mk (show W5.heap[w.heap.size + 1]? = some (.cells #[.slice none 0 0, .slice none 0 0, .slice none 0 0] 25 (0, 0)) by rw [← hW5]; exact blk_alloc BK4d.out _)
      have HO5 := Aside0.mk (show Kd.R k62 62 W5 w.heap.size (fun _ => True) (.slice (some ⟨q4.heap.size, 0, none⟩) 1 1) [ans_404] by rw [← hW5]; exact field_row q4 w.heap.size ans_404 HB4.out.size)
      have HB5 := Aside0.mk (show Below w.heap.size w W5 by rw [← hW5]; exact below_alloc HB4.out _)
      have z0 : W5.cell? ⟨w.heap.size + 1, 0, none⟩ = some (.slice none 0 0) ∧ W5.frozen? ⟨w.heap.size + 1, 0, none⟩ = false := ⟨(blk_cell BK5.out 0).trans rfl, blk_frozen BK5.out 0⟩
      have z1 : W5.cell? ⟨w.heap.size + 1, 1, none⟩ = some (.slice none 0 0) ∧ W5.frozen? ⟨w.heap.size + 1, 1, none⟩ = false := ⟨(blk_cell BK5.out 1).trans rfl, blk_frozen BK5.out 1⟩
      have z2 : W5.cell? ⟨w.heap.size + 1, 2, none⟩ = some (.slice none 0 0) ∧ W5.frozen? ⟨w.heap.size + 1, 2, none⟩ = false := ⟨(blk_cell BK5.out 2).trans rfl, blk_frozen BK5.out 2⟩
      obtain ⟨s1, s2⟩ := msg_store3 (.slice (some ⟨q4.heap.size, 0, none⟩) 1 1) (.slice none 0 0) (.slice none 0 0) BK5.out
      have S1 := Aside0.mk s1
      have SB := Aside0.mk (show Below w.heap.size w (((W5.setCell ⟨w.heap.size + 1, 0, none⟩ (.slice (some ⟨q4.heap.size, 0, none⟩) 1 1)).setCell ⟨w.heap.size + 1, 1, none⟩ (.slice none 0 0)).setCell ⟨w.heap.size + 1, 2, none⟩ (.slice none 0 0)) from ((HB5.out.setCell (p := ⟨w.heap.size + 1, 0, none⟩) (Nat.le_succ _) _).setCell (p := ⟨w.heap.size + 1, 1, none⟩) (Nat.le_succ _) _).setCell (p := ⟨w.heap.size + 1, 2, none⟩) (Nat.le_succ _) _)
      clear s1 s2
      go_wp2_with (fail)
      refine bodyPost_ret (results_list (rs := [.cell 4 25, .tmp 5]) rfl (by simp) (.cell (w.heap.size + 1) 25 _ (0, 0) _ rfl S1.out Tryz.underlying25 rfl (by kernel_rfl) (.tmp .nil))) rfl ?_
      have HO6 := Kd.R_reads' (Kd.R_far (p := ⟨w.heap.size + 1, 2, none⟩) (Kd.R_far (p := ⟨w.heap.size + 1, 1, none⟩) (Kd.R_far (p := ⟨w.heap.size + 1, 0, none⟩) (Kd.R_types HO5.out BK5.out (by decide)) (fun _ hk => hk.2) (.slice (some ⟨q4.heap.size, 0, none⟩) 1 1)) (fun _ hk => hk.2) (.slice none 0 0)) (fun _ hk => hk.2) (.slice none 0 0))
      exact ⟨⟨some ⟨q4.heap.size, 0, none⟩, 1, none, 0, rfl, HO6.2.2, Nat.le_refl _, ⟨rfl, by simp, fun h => by simp at h⟩, by simp⟩, SB.out⟩
    · have HIX := Aside0.mk (show rule_idx v1 v2 l 0 = (n : Int) by rw [Nat.zero_add] at hi; exact hi)
      rw [hf] at h
      obtain ⟨ad, A3, c3, A4, c4, hA, y0, y1, y2, y3, y4, y5, l3, g3, l4, g4⟩ := at_T64 HR.out (n : Int) (by omega) (by omega)
      rw [Int.toNat_natCast] at y0 y1 y2 y3 y4 y5
      have hx : rd_T64 l (n : Int) = l[n] := by simp [rd_T64, List.getD_eq_getElem?_getD, List.getElem?_eq_getElem hn]
      obtain ⟨x, hxx⟩ : ∃ x, l[n] = x := ⟨_, rfl⟩
      rw [hx, hxx] at y0 y1 y2 y3 y4 y5 l3 g3 l4 g4
      rw [hxx] at h
      have H := Aside0.mk (show ans_out x l0_1 = some ((r1, r2), r3) from h)
      have G3 := Aside0.mk g3
      have G4 := Aside0.mk g4
      have hn2 : (n : Int) < (l.length : Int) := by omega
      subst hA
      clear h hi hf hx hxx g3 g4
      go_upto_region 10 with (first | (go_at_call 10; (with_reducible refine (message_Request.calls A0_0 c0_0 l0_0 A0_1 c0_1 l0_1 A0_2 c0_2 l0_2 0 _ (Kd.C_below HR0.out HB.out) hc0_0 (Kd.C_below HR1.out HB.out) hc0_1 (Kd.C_below HR2.out HB.out) hc0_2 (HT.out.below HB.out) HRQ.out).mono ?_); rintro e q1 ⟨rfl, hb⟩; have HB1 := Aside0.mk (below_step HB.out hb); have k0a := pw_cell_below hb k0; have k1a := pw_cell_below hb k1; have k2a := pw_cell_below hb k2; have BK3a := Aside0.mk (blk_below BK3.out hb); have BK4a := Aside0.mk (blk_below BK4.out hb); clear hb) | (go_at_call 34; (with_reducible refine (message_Get.calls A0_0 c0_0 l0_0 ⟨#[58, 109, 101, 116, 104, 111, 100]⟩ v1 b1 _ (Kd.C_below HR0.out HB1.out) hc0_0 HG1.out).mono ?_); rintro e q2 ⟨rfl, hb⟩; have HB2 := Aside0.mk (below_step HB1.out hb); have k0b := pw_cell_below hb k0a; have k0bb := pw_cell_below (below_alloc (Below.refl q2.heap.size q2) (.cells #[.string v1] 9)) k0b; have BK3b := Aside0.mk (blk_below BK3a.out hb); have BK4b := Aside0.mk (blk_below BK4a.out hb); clear hb) | (go_at_call 34; (with_reducible refine (message_Get.calls A0_0 c0_0 l0_0 ⟨#[58, 112, 97, 116, 104]⟩ v2 b2 _ (Kd.C_below HR0.out (below_alloc HB2.out _)) hc0_0 HG2.out).mono ?_); rintro e q3 ⟨rfl, hb⟩; have HB3 := Aside0.mk (below_step (below_alloc HB2.out _) hb); have BK7 := Aside0.mk (blk_below (tok_block _ _ _) hb); have BK3c := Aside0.mk (blk_below (blk_alloc BK3b.out _) hb); have BK4c := Aside0.mk (blk_below (blk_alloc BK4b.out _) hb); clear hb) | (go_at_call 44; (with_reducible refine (rule_index.calls v1 v2 q2.heap.size q3.heap.size (some ad) c l _ (Kd.C_below HR.out (below_alloc HB3.out _)) (blk_alloc BK7.out _) (tok_block _ _ _)).mono ?_); rintro e q4 ⟨rfl, hb⟩; rw [HIX.out]; have HB4 := Aside0.mk (below_step (below_alloc HB3.out _) hb); have BK3d := Aside0.mk (blk_below (blk_alloc BK3c.out _) hb); have BK4d := Aside0.mk (blk_below (blk_alloc BK4c.out _) hb); have y0n := pw_cell_below HB4.out y0; have y1n := pw_cell_below HB4.out y1; have y2n := pw_cell_below HB4.out y2; have y3n := pw_cell_below HB4.out y3; have y4n := pw_cell_below HB4.out y4; have y5n := pw_cell_below HB4.out y5; clear hb))
      obtain ⟨hbd, hh⟩ : ((1 + x.f3.length) * 32 ≤ 140737488355328 ∧ x.f4.length + l0_1.length ≤ 140737488355328 ∧ -9223372036854775808 ≤ x.f2 ∧ x.f2 ≤ 9223372036854775807) ∧ (message_Response.f (ans_status x.f2 :: x.f3) (ans_body x l0_1) []).bind (fun p => if p.2 = 0 then some ((ans_status x.f2 :: x.f3, ans_body x l0_1), 0) else some (([], []), 1)) = some ((r1, r2), r3) := by
        have h := H.out
        unfold ans_out at h
        by_cases hc : (1 + x.f3.length) * 32 ≤ 140737488355328 ∧ x.f4.length + l0_1.length ≤ 140737488355328 ∧ -9223372036854775808 ≤ x.f2 ∧ x.f2 ≤ 9223372036854775807
        · rw [if_pos hc] at h; exact ⟨hc, h⟩
        · rw [if_neg hc] at h; cases h
      obtain ⟨hbd1, hbd2, hi0, hi1⟩ := hbd
      have hbY := ans_body_le x l0_1
      obtain ⟨Y, hY⟩ : ∃ Y, ans_body x l0_1 = Y := ⟨_, rfl⟩
      rw [hY] at hh hbY
      clear H
      have H := Aside0.mk hh
      clear hh
      obtain ⟨R0, hR0⟩ : ∃ R0, q4.alloc (.cells #[.string x.f0, .string x.f1, .int .i64 x.f2, .slice A3 x.f3.length c3, .slice A4 x.f4.length c4, .bool x.f5] 64) = R0 := ⟨_, rfl⟩
      have lt4 : w.heap.size + 1 < q4.heap.size := (Array.getElem?_eq_some_iff.1 BK4d.out).1
      have BK12 := Aside0.mk (show R0.heap[q4.heap.size]? = some (.cells #[.string x.f0, .string x.f1, .int .i64 x.f2, .slice A3 x.f3.length c3, .slice A4 x.f4.length c4, .bool x.f5] 64 (0, 0)) by rw [← hR0]; exact tok_block _ _ _)
      have BKm := Aside0.mk (show R0.heap[w.heap.size]? = some (.cells #[.slice A0_0 l0_0.length c0_0, .slice A0_1 l0_1.length c0_1, .slice A0_2 l0_2.length c0_2] 25 (0, 0)) by rw [← hR0]; exact blk_alloc BK3d.out _)
      have BKr := Aside0.mk (show R0.heap[w.heap.size + 1]? = some (.cells #[.slice none 0 0, .slice none 0 0, .slice none 0 0] 25 (0, 0)) by rw [← hR0]; exact blk_alloc BK4d.out _)
      have HBc := Aside0.mk (show Below w.heap.size w R0 by rw [← hR0]; exact below_alloc HB4.out _)
      rw [hR0]
      clear hR0
      go_cut [13] (fun v13 wc => ∃ (B13 : Nat) (A5 : Option Addr) (c5 : Nat) (A6 : Option Addr) (c6 : Nat) (b6 : Nat), v13 = .pointer (some ⟨B13, 0, none⟩) ∧ w.heap.size + 1 < B13 ∧ Aside0 (w.heap.size ≤ b6) ∧ Aside0 (wc.heap[B13]? = some (.cells #[.slice A5 (x.f3.length + 1) c5, .slice A6 x.f4.length c6, .slice none 0 0] 25 (0, 0))) ∧ Aside0 (Kd.R k62 62 wc w.heap.size (fun k => True ∧ k ≠ B13) (.slice A5 (x.f3.length + 1) c5) (ans_status x.f2 :: x.f3)) ∧ Aside0 (Kd.R (Kd.int .u8) 5 wc b6 (fun k => True ∧ k ≠ B13) (.slice A6 x.f4.length c6) x.f4) ∧ Aside0 (wc.heap[w.heap.size]? = some (.cells #[.slice A0_0 l0_0.length c0_0, .slice A0_1 l0_1.length c0_1, .slice A0_2 l0_2.length c0_2] 25 (0, 0))) ∧ Aside0 (wc.heap[w.heap.size + 1]? = some (.cells #[.slice none 0 0, .slice none 0 0, .slice none 0 0] 25 (0, 0))) ∧ Aside0 (wc.heap[q4.heap.size]? = some (.cells #[.string x.f0, .string x.f1, .int .i64 x.f2, .slice A3 x.f3.length c3, .slice A4 x.f4.length c4, .bool x.f5] 64 (0, 0))) ∧ Aside0 (Below w.heap.size w wc))
      case first =>
        refine wp_region_held_drew (S := fun w' => w'.heap[q4.heap.size]? = some (.cells #[.string x.f0, .string x.f1, .int .i64 x.f2, .slice A3 x.f3.length c3, .slice A4 x.f4.length c4, .bool x.f5] 64 (0, 0))) (by kernel_rfl) ?_ (fun hHeld => ?_)
        · exact BK12.out
        obtain ⟨R1, hR1⟩ : ∃ z_, R0.drew = z_ := ⟨_, rfl⟩
        replace BKm := Aside0.mk (show R1.heap[w.heap.size]? = some (.cells #[.slice A0_0 l0_0.length c0_0, .slice A0_1 l0_1.length c0_1, .slice A0_2 l0_2.length c0_2] 25 (0, 0)) by rw [← hR1]; exact BKm.out)
        replace BKr := Aside0.mk (show R1.heap[w.heap.size + 1]? = some (.cells #[.slice none 0 0, .slice none 0 0, .slice none 0 0] 25 (0, 0)) by rw [← hR1]; exact BKr.out)
        replace HBc := Aside0.mk (show Below w.heap.size w R1 by rw [← hR1]; exact below_drew1 HBc.out)
        rw [hR1] at hHeld ⊢
        clear hR1 BK12
        (refine msg_take (i := 0) (d := some 46) (v := .pointer (some ⟨q4.heap.size, 2, none⟩)) rfl rfl (by kernel_rfl) (by kernel_rfl) (by kernel_rfl) (fun _ _ _ h => h) (Or.inl ⟨by rfl, ?hy⟩) (by assumption) ?_; (case hy => (intro w hSw; go_simp; try (with_reducible rfl)))); (try simp only [Act.put, List.setIfInBounds_toArray, List.set_cons_zero, List.set_cons_succ])
        (refine msg_take (i := 1) (d := some 47) (v := .int .i64 x.f2) rfl rfl (by kernel_rfl) (by kernel_rfl) (by kernel_rfl) (fun _ _ _ h => h) (Or.inl ⟨by rfl, ?hy⟩) (by assumption) ?_; (case hy => (intro w hSw; have e2 : w.cell? ⟨q4.heap.size, 2, none⟩ = some (.int .i64 x.f2) := (blk_cell hSw 2).trans rfl; have e3 : w.cell? ⟨q4.heap.size, 3, none⟩ = some (.slice A3 x.f3.length c3) := (blk_cell hSw 3).trans rfl; have e4 : w.cell? ⟨q4.heap.size, 4, none⟩ = some (.slice A4 x.f4.length c4) := (blk_cell hSw 4).trans rfl; clear hSw; go_simp; try (with_reducible rfl)))); (try simp only [Act.put, List.setIfInBounds_toArray, List.set_cons_zero, List.set_cons_succ])
        (refine msg_take (i := 5) (d := some 51) (v := .pointer (some ⟨q4.heap.size, 3, none⟩)) rfl rfl (by kernel_rfl) (by kernel_rfl) (by kernel_rfl) (fun _ _ _ h => h) (Or.inl ⟨by rfl, ?hy⟩) (by assumption) ?_; (case hy => (intro w hSw; go_simp; try (with_reducible rfl)))); (try simp only [Act.put, List.setIfInBounds_toArray, List.set_cons_zero, List.set_cons_succ])
        (refine msg_take (i := 6) (d := some 52) (v := .slice A3 x.f3.length c3) rfl rfl (by kernel_rfl) (by kernel_rfl) (by kernel_rfl) (fun _ _ _ h => h) (Or.inl ⟨by rfl, ?hy⟩) (by assumption) ?_; (case hy => (intro w hSw; have e2 : w.cell? ⟨q4.heap.size, 2, none⟩ = some (.int .i64 x.f2) := (blk_cell hSw 2).trans rfl; have e3 : w.cell? ⟨q4.heap.size, 3, none⟩ = some (.slice A3 x.f3.length c3) := (blk_cell hSw 3).trans rfl; have e4 : w.cell? ⟨q4.heap.size, 4, none⟩ = some (.slice A4 x.f4.length c4) := (blk_cell hSw 4).trans rfl; clear hSw; go_simp; try (with_reducible rfl)))); (try simp only [Act.put, List.setIfInBounds_toArray, List.set_cons_zero, List.set_cons_succ])
        (refine msg_take (i := 8) (d := some 54) (v := .pointer (some ⟨q4.heap.size, 4, none⟩)) rfl rfl (by kernel_rfl) (by kernel_rfl) (by kernel_rfl) (fun _ _ _ h => h) (Or.inl ⟨by rfl, ?hy⟩) (by assumption) ?_; (case hy => (intro w hSw; go_simp; try (with_reducible rfl)))); (try simp only [Act.put, List.setIfInBounds_toArray, List.set_cons_zero, List.set_cons_succ])
        (refine msg_take (i := 9) (d := some 55) (v := .slice A4 x.f4.length c4) rfl rfl (by kernel_rfl) (by kernel_rfl) (by kernel_rfl) (fun _ _ _ h => h) (Or.inl ⟨by rfl, ?hy⟩) (by assumption) ?_; (case hy => (intro w hSw; have e2 : w.cell? ⟨q4.heap.size, 2, none⟩ = some (.int .i64 x.f2) := (blk_cell hSw 2).trans rfl; have e3 : w.cell? ⟨q4.heap.size, 3, none⟩ = some (.slice A3 x.f3.length c3) := (blk_cell hSw 3).trans rfl; have e4 : w.cell? ⟨q4.heap.size, 4, none⟩ = some (.slice A4 x.f4.length c4) := (blk_cell hSw 4).trans rfl; clear hSw; go_simp; try (with_reducible rfl)))); (try simp only [Act.put, List.setIfInBounds_toArray, List.set_cons_zero, List.set_cons_succ])
        refine wpAnyH_ready (rs := [2, 12]) (by kernel_rfl) (by simp) ?_
        refine AllReadyH.cons rfl (fun K hK => ?_) ?_
        · skip
          go_simp
          (go_at_call 30; refine (msg_Itoa.calls x.f2 _ hi0 hi1 (HT.out.below HBc.out)).mono ?_); rintro e w101 ⟨rfl, hz⟩
          have HBc := Aside0.mk (below_step HBc.out hz)
          have BKm := Aside0.mk (blk_below BKm.out hz)
          have BKr := Aside0.mk (blk_below BKr.out hz)
          have hS := blk_below hHeld hz
          clear hz
          (try go_wp2_with (fail))
          refine hK.out _ _ hS (fun hHeld => ?_)
          clear hS
          clear hK K
          (try simp only [Act.put, List.setIfInBounds_toArray, List.set_cons_zero, List.set_cons_succ])
          (refine msg_take (i := 3) (d := some 49) (v := .agg #[.string ⟨#[58, 115, 116, 97, 116, 117, 115]⟩, .string (msg_itoa x.f2)]) rfl rfl (by kernel_rfl) (by kernel_rfl) (by kernel_rfl) (fun _ _ _ h => h) (Or.inl ⟨by rfl, ?hy⟩) (by assumption) ?_; (case hy => (intro w hSw; go_simp; try (with_reducible rfl)))); (try simp only [Act.put, List.setIfInBounds_toArray, List.set_cons_zero, List.set_cons_succ])
          refine wpAnyH_ready (rs := [4, 12]) (by kernel_rfl) (by simp) ?_
          refine AllReadyH.cons rfl (fun K hK => ?_) ?_
          · skip
            go_simp
            obtain ⟨w102, hw102⟩ : ∃ z_, w101.alloc (.cells #[.string ⟨#[58, 115, 116, 97, 116, 117, 115]⟩, .string (msg_itoa x.f2)] 62) = z_ := ⟨_, rfl⟩
            have HO1 := Aside0.mk (show Kd.R k62 62 w102 w.heap.size (fun _ => True) (.slice (some ⟨w101.heap.size, 0, none⟩) 1 1) [ans_status x.f2] by rw [← hw102]; exact field_row w101 w.heap.size (ans_status x.f2) HBc.out.size)
            have LTg : w101.heap.size < w102.heap.size := by rw [← hw102, World.size_alloc]; omega
            have NE12 : q4.heap.size ≠ w101.heap.size := Nat.ne_of_lt (Array.getElem?_eq_some_iff.1 hHeld).1
            have NEm : w.heap.size ≠ w101.heap.size := Nat.ne_of_lt (Array.getElem?_eq_some_iff.1 BKm.out).1
            have NEr : w.heap.size + 1 ≠ w101.heap.size := Nat.ne_of_lt (Array.getElem?_eq_some_iff.1 BKr.out).1
            have BKm := Aside0.mk (show w102.heap[w.heap.size]? = some (.cells #[.slice A0_0 l0_0.length c0_0, .slice A0_1 l0_1.length c0_1, .slice A0_2 l0_2.length c0_2] 25 (0, 0)) by rw [← hw102]; exact blk_alloc BKm.out _)
            have BKr := Aside0.mk (show w102.heap[w.heap.size + 1]? = some (.cells #[.slice none 0 0, .slice none 0 0, .slice none 0 0] 25 (0, 0)) by rw [← hw102]; exact blk_alloc BKr.out _)
            have HBc := Aside0.mk (show Below w.heap.size w w102 by rw [← hw102]; exact below_alloc HBc.out _)
            have hS : w102.heap[q4.heap.size]? = some (.cells #[.string x.f0, .string x.f1, .int .i64 x.f2, .slice A3 x.f3.length c3, .slice A4 x.f4.length c4, .bool x.f5] 64 (0, 0)) := by rw [← hw102]; exact blk_alloc hHeld _
            rw [hw102]
            refine hK.out _ _ hS (fun hHeld => ?_)
            clear hw102 hS
            clear hK K
            (try simp only [Act.put, List.setIfInBounds_toArray, List.set_cons_zero, List.set_cons_succ])
            refine wpAnyH_ready (rs := [7, 12]) (by kernel_rfl) (by simp) ?_
            refine AllReadyH.cons rfl (fun K hK => ?_) ?_
            · skip
              obtain ⟨v1, w103, hr1, ho, hb, hg, hat⟩ := msg_append_run k62 (Rr := k62.K w102) (w0 := w) w.heap.size 22 22 62 (.agg #[(.string ⟨#[]⟩), (.string ⟨#[]⟩)]) 32 Tryz.underlying22 info62 rfl (by decide) (by omega) (.slice (some ⟨w101.heap.size, 0, none⟩) 1 1) [ans_status x.f2] x.f3 A3 x.f3.length c3 (fun _ => True) (fun _ => False) HO1.out (Kd.C_below G3.out HBc.out) (by intro y cs hy; obtain rfl := k62_open hy; exact k62_mkM _ _ _ y) (fun _ hk => hk.elim) (fun _ _ => trivial) HBc.out HBc.out.size (by simp; omega)
              obtain ⟨A5, c5, e5⟩ := Kd.R_slice ho
              subst e5
              have el : ([ans_status x.f2] ++ x.f3).length = x.f3.length + 1 := by simp
              rw [el] at hr1 ho
              have HO1 := Aside0.mk (show Kd.R k62 62 w103 w.heap.size (fun _ => True) (.slice A5 (x.f3.length + 1) c5) (ans_status x.f2 :: x.f3) from ho)
              have HBc := Aside0.mk hb
              have hS : w103.heap[q4.heap.size]? = some (.cells #[.string x.f0, .string x.f1, .int .i64 x.f2, .slice A3 x.f3.length c3, .slice A4 x.f4.length c4, .bool x.f5] 64 (0, 0)) := (hg.block _ (Array.getElem?_eq_some_iff.1 hHeld).1 (by simp [Value.ownBlock]; omega)).trans hHeld
              have BKm := Aside0.mk (show w103.heap[w.heap.size]? = some (.cells #[.slice A0_0 l0_0.length c0_0, .slice A0_1 l0_1.length c0_1, .slice A0_2 l0_2.length c0_2] 25 (0, 0)) from (hg.block _ (Array.getElem?_eq_some_iff.1 BKm.out).1 (by simp [Value.ownBlock]; omega)).trans BKm.out)
              have BKr := Aside0.mk (show w103.heap[w.heap.size + 1]? = some (.cells #[.slice none 0 0, .slice none 0 0, .slice none 0 0] 25 (0, 0)) from (hg.block _ (Array.getElem?_eq_some_iff.1 BKr.out).1 (by simp [Value.ownBlock]; omega)).trans BKr.out)
              have LTg : w101.heap.size < w103.heap.size := Nat.lt_of_lt_of_le LTg hg.size
              refine msg_append_step rfl (.tmp 50) (.tmp 52) 22 rfl _ A3 x.f3.length c3 rfl rfl hr1 ?_
              clear hr1 ho hb hg hat el
              refine hK.out _ _ hS (fun hHeld => ?_)
              clear hS
              clear hK K
              (try simp only [Act.put, List.setIfInBounds_toArray, List.set_cons_zero, List.set_cons_succ])
              refine wpAnyH_ready (rs := [10, 12]) (by kernel_rfl) (by simp) ?_
              refine AllReadyH.cons rfl (fun K hK => ?_) ?_
              · skip
                go_simp
                (go_at_call 46; refine (clone_bytes.calls A4 c4 x.f4 _ (Kd.C_below G4.out HBc.out) l4 (by omega)).mono ?_); rintro e w104 ⟨vC, rfl, hoC, hz⟩
                obtain ⟨A6, c6, rfl⟩ := Kd.R_slice hoC
                have HO2 := Aside0.mk hoC
                have LB6 := Aside0.mk HBc.out.size
                have HO1 := Aside0.mk (Kd.R_below HO1.out hz)
                have HBc := Aside0.mk (below_step HBc.out hz)
                have BKm := Aside0.mk (blk_below BKm.out hz)
                have BKr := Aside0.mk (blk_below BKr.out hz)
                have LTg : w101.heap.size < w104.heap.size := Nat.lt_of_lt_of_le LTg hz.size
                have hS := blk_below hHeld hz
                clear hz hoC
                (try go_wp2_with (fail))
                refine hK.out _ _ hS (fun hHeld => ?_)
                clear hS
                clear hK K
                (try simp only [Act.put, List.setIfInBounds_toArray, List.set_cons_zero, List.set_cons_succ])
                (refine msg_take (i := 11) (d := some 57) (v := .agg #[.slice A5 (x.f3.length + 1) c5, .slice A6 x.f4.length c6, .slice none 0 0]) rfl rfl (by kernel_rfl) (by kernel_rfl) (by kernel_rfl) (fun _ _ _ h => h) (Or.inl ⟨by rfl, ?hy⟩) (by assumption) ?_; (case hy => (intro w hSw; go_simp; try (with_reducible rfl)))); (try simp only [Act.put, List.setIfInBounds_toArray, List.set_cons_zero, List.set_cons_succ])
                refine wpAnyH_ready (rs := [12]) (by kernel_rfl) (by simp) ?_
                refine AllReadyH.cons rfl (fun K hK => ?_) AllReadyH.nil
                go_simp
                obtain ⟨w105, hw105⟩ : ∃ z_, w104.alloc (.cells #[.slice none 0 0, .slice none 0 0, .slice none 0 0] 25) = z_ := ⟨_, rfl⟩
                have BKo := Aside0.mk (show w105.heap[w104.heap.size]? = some (.cells #[.slice none 0 0, .slice none 0 0, .slice none 0 0] 25 (0, 0)) by rw [← hw105]; exact tok_block _ _ _)
                have LTo : w.heap.size + 1 < w104.heap.size := (Array.getElem?_eq_some_iff.1 BKr.out).1
                have NEo : q4.heap.size ≠ w104.heap.size := Nat.ne_of_lt (Array.getElem?_eq_some_iff.1 hHeld).1
                have BKm := Aside0.mk (show w105.heap[w.heap.size]? = some (.cells #[.slice A0_0 l0_0.length c0_0, .slice A0_1 l0_1.length c0_1, .slice A0_2 l0_2.length c0_2] 25 (0, 0)) by rw [← hw105]; exact blk_alloc BKm.out _)
                have BKr := Aside0.mk (show w105.heap[w.heap.size + 1]? = some (.cells #[.slice none 0 0, .slice none 0 0, .slice none 0 0] 25 (0, 0)) by rw [← hw105]; exact blk_alloc BKr.out _)
                have HBc := Aside0.mk (show Below w.heap.size w w105 by rw [← hw105]; exact below_alloc HBc.out _)
                have HO1 := Aside0.mk (show Kd.R k62 62 w105 w.heap.size (fun _ => True) (.slice A5 (x.f3.length + 1) c5) (ans_status x.f2 :: x.f3) by rw [← hw105]; exact Kd.R_alloc HO1.out _)
                have HO2 := Aside0.mk (Kd.R_below HO2.out (show Below w104.heap.size w104 w105 by rw [← hw105]; exact below_alloc (Below.refl _ _) _))
                have hS : w105.heap[q4.heap.size]? = some (.cells #[.string x.f0, .string x.f1, .int .i64 x.f2, .slice A3 x.f3.length c3, .slice A4 x.f4.length c4, .bool x.f5] 64 (0, 0)) := by rw [← hw105]; exact blk_alloc hHeld _
                have NEg : w104.heap.size ≠ w101.heap.size := by have h1 := LTg; omega
                have LTg : w101.heap.size < w105.heap.size := by rw [← hw105, World.size_alloc]; have h1 := LTg; omega
                rw [hw105]
                refine hK.out _ _ hS (fun hHeld => ?_)
                clear hw105 hS
                clear hK K
                (try simp only [Act.put, List.setIfInBounds_toArray, List.set_cons_zero, List.set_cons_succ])
                refine wpAnyH_ready (rs := [13]) (by kernel_rfl) (by simp) ?_
                refine AllReadyH.cons rfl (fun K hK => ?_) AllReadyH.nil
                have zo0 : w105.cell? ⟨w104.heap.size, 0, none⟩ = some (.slice none 0 0) ∧ w105.frozen? ⟨w104.heap.size, 0, none⟩ = false := ⟨(blk_cell BKo.out 0).trans rfl, blk_frozen BKo.out 0⟩
                have zo1 : w105.cell? ⟨w104.heap.size, 1, none⟩ = some (.slice none 0 0) ∧ w105.frozen? ⟨w104.heap.size, 1, none⟩ = false := ⟨(blk_cell BKo.out 1).trans rfl, blk_frozen BKo.out 1⟩
                have zo2 : w105.cell? ⟨w104.heap.size, 2, none⟩ = some (.slice none 0 0) ∧ w105.frozen? ⟨w104.heap.size, 2, none⟩ = false := ⟨(blk_cell BKo.out 2).trans rfl, blk_frozen BKo.out 2⟩
                obtain ⟨s1, s2⟩ := msg_store3 (.slice A5 (x.f3.length + 1) c5) (.slice A6 x.f4.length c6) (.slice none 0 0) BKo.out
                go_simp
                have HO1f := Aside0.mk (Kd.R_far (p := ⟨w104.heap.size, 2, none⟩) (Kd.R_far (p := ⟨w104.heap.size, 1, none⟩) (Kd.R_far (p := ⟨w104.heap.size, 0, none⟩) (Kd.R_types HO1.out BKo.out (by decide)) (fun _ hk => hk.2) (.slice A5 (x.f3.length + 1) c5)) (fun _ hk => hk.2) (.slice A6 x.f4.length c6)) (fun _ hk => hk.2) (.slice none 0 0))
                have HO2f := Aside0.mk (Kd.R_far (p := ⟨w104.heap.size, 2, none⟩) (Kd.R_far (p := ⟨w104.heap.size, 1, none⟩) (Kd.R_far (p := ⟨w104.heap.size, 0, none⟩) (Kd.R_types HO2.out BKo.out (by decide)) (fun _ hk => hk.2) (.slice A5 (x.f3.length + 1) c5)) (fun _ hk => hk.2) (.slice A6 x.f4.length c6)) (fun _ hk => hk.2) (.slice none 0 0))
                have BKf := Aside0.mk s1
                have BKmf := Aside0.mk ((s2 _ (by omega)).trans BKm.out)
                have BKrf := Aside0.mk ((s2 _ (by omega)).trans BKr.out)
                have HBf := Aside0.mk (show Below w.heap.size w (((w105.setCell ⟨w104.heap.size, 0, none⟩ (.slice A5 (x.f3.length + 1) c5)).setCell ⟨w104.heap.size, 1, none⟩ (.slice A6 x.f4.length c6)).setCell ⟨w104.heap.size, 2, none⟩ (.slice none 0 0)) from ((HBc.out.setCell (p := ⟨w104.heap.size, 0, none⟩) (by show w.heap.size ≤ w104.heap.size; omega) _).setCell (p := ⟨w104.heap.size, 1, none⟩) (by show w.heap.size ≤ w104.heap.size; omega) _).setCell (p := ⟨w104.heap.size, 2, none⟩) (by show w.heap.size ≤ w104.heap.size; omega) _)
                have hS := (s2 _ NEo).trans hHeld
                clear s1 s2
                refine hK.out _ _ hS (fun hHeld => ?_)
                clear hS
                clear hK K
                (try simp only [Act.put, List.setIfInBounds_toArray, List.set_cons_zero, List.set_cons_succ])
                refine wpAnyH_done (by kernel_rfl) ?_ _
                go_wp2_with (fail)
                go_meet
                case rel => exact ⟨w104.heap.size, A5, c5, A6, c6, _, by first | rfl | (simp; done), LTo, LB6, BKf, HO1f, HO2f, BKmf, BKrf, ⟨hHeld⟩, HBf⟩
              refine AllReadyH.cons rfl (fun K hK => ?_) AllReadyH.nil
              go_simp
              obtain ⟨w107, hw107⟩ : ∃ z_, w103.alloc (.cells #[.slice none 0 0, .slice none 0 0, .slice none 0 0] 25) = z_ := ⟨_, rfl⟩
              have BKo := Aside0.mk (show w107.heap[w103.heap.size]? = some (.cells #[.slice none 0 0, .slice none 0 0, .slice none 0 0] 25 (0, 0)) by rw [← hw107]; exact tok_block _ _ _)
              have LTo : w.heap.size + 1 < w103.heap.size := (Array.getElem?_eq_some_iff.1 BKr.out).1
              have NEo : q4.heap.size ≠ w103.heap.size := Nat.ne_of_lt (Array.getElem?_eq_some_iff.1 hHeld).1
              have BKm := Aside0.mk (show w107.heap[w.heap.size]? = some (.cells #[.slice A0_0 l0_0.length c0_0, .slice A0_1 l0_1.length c0_1, .slice A0_2 l0_2.length c0_2] 25 (0, 0)) by rw [← hw107]; exact blk_alloc BKm.out _)
              have BKr := Aside0.mk (show w107.heap[w.heap.size + 1]? = some (.cells #[.slice none 0 0, .slice none 0 0, .slice none 0 0] 25 (0, 0)) by rw [← hw107]; exact blk_alloc BKr.out _)
              have HBc := Aside0.mk (show Below w.heap.size w w107 by rw [← hw107]; exact below_alloc HBc.out _)
              have HO1 := Aside0.mk (show Kd.R k62 62 w107 w.heap.size (fun _ => True) (.slice A5 (x.f3.length + 1) c5) (ans_status x.f2 :: x.f3) by rw [← hw107]; exact Kd.R_alloc HO1.out _)
              have hS : w107.heap[q4.heap.size]? = some (.cells #[.string x.f0, .string x.f1, .int .i64 x.f2, .slice A3 x.f3.length c3, .slice A4 x.f4.length c4, .bool x.f5] 64 (0, 0)) := by rw [← hw107]; exact blk_alloc hHeld _
              have NEg : w103.heap.size ≠ w101.heap.size := by have h1 := LTg; omega
              have LTg : w101.heap.size < w107.heap.size := by rw [← hw107, World.size_alloc]; have h1 := LTg; omega
              rw [hw107]
              refine hK.out _ _ hS (fun hHeld => ?_)
              clear hw107 hS
              clear hK K
              (try simp only [Act.put, List.setIfInBounds_toArray, List.set_cons_zero, List.set_cons_succ])
              refine wpAnyH_ready (rs := [10]) (by kernel_rfl) (by simp) ?_
              refine AllReadyH.cons rfl (fun K hK => ?_) AllReadyH.nil
              go_simp
              (go_at_call 46; refine (clone_bytes.calls A4 c4 x.f4 _ (Kd.C_below G4.out HBc.out) l4 (by omega)).mono ?_); rintro e w108 ⟨vC, rfl, hoC, hz⟩
              obtain ⟨A6, c6, rfl⟩ := Kd.R_slice hoC
              have HO2 := Aside0.mk hoC
              have LB6 := Aside0.mk HBc.out.size
              have HO1 := Aside0.mk (Kd.R_below HO1.out hz)
              have HBc := Aside0.mk (below_step HBc.out hz)
              have BKm := Aside0.mk (blk_below BKm.out hz)
              have BKr := Aside0.mk (blk_below BKr.out hz)
              have BKo := Aside0.mk (blk_below BKo.out hz)
              have LTg : w101.heap.size < w108.heap.size := Nat.lt_of_lt_of_le LTg hz.size
              have hS := blk_below hHeld hz
              clear hz hoC
              (try go_wp2_with (fail))
              refine hK.out _ _ hS (fun hHeld => ?_)
              clear hS
              clear hK K
              (try simp only [Act.put, List.setIfInBounds_toArray, List.set_cons_zero, List.set_cons_succ])
              (refine msg_take (i := 11) (d := some 57) (v := .agg #[.slice A5 (x.f3.length + 1) c5, .slice A6 x.f4.length c6, .slice none 0 0]) rfl rfl (by kernel_rfl) (by kernel_rfl) (by kernel_rfl) (fun _ _ _ h => h) (Or.inl ⟨by rfl, ?hy⟩) (by assumption) ?_; (case hy => (intro w hSw; go_simp; try (with_reducible rfl)))); (try simp only [Act.put, List.setIfInBounds_toArray, List.set_cons_zero, List.set_cons_succ])
              refine wpAnyH_ready (rs := [13]) (by kernel_rfl) (by simp) ?_
              refine AllReadyH.cons rfl (fun K hK => ?_) AllReadyH.nil
              have zo0 : w108.cell? ⟨w103.heap.size, 0, none⟩ = some (.slice none 0 0) ∧ w108.frozen? ⟨w103.heap.size, 0, none⟩ = false := ⟨(blk_cell BKo.out 0).trans rfl, blk_frozen BKo.out 0⟩
              have zo1 : w108.cell? ⟨w103.heap.size, 1, none⟩ = some (.slice none 0 0) ∧ w108.frozen? ⟨w103.heap.size, 1, none⟩ = false := ⟨(blk_cell BKo.out 1).trans rfl, blk_frozen BKo.out 1⟩
              have zo2 : w108.cell? ⟨w103.heap.size, 2, none⟩ = some (.slice none 0 0) ∧ w108.frozen? ⟨w103.heap.size, 2, none⟩ = false := ⟨(blk_cell BKo.out 2).trans rfl, blk_frozen BKo.out 2⟩
              obtain ⟨s1, s2⟩ := msg_store3 (.slice A5 (x.f3.length + 1) c5) (.slice A6 x.f4.length c6) (.slice none 0 0) BKo.out
              go_simp
              have HO1f := Aside0.mk (Kd.R_far (p := ⟨w103.heap.size, 2, none⟩) (Kd.R_far (p := ⟨w103.heap.size, 1, none⟩) (Kd.R_far (p := ⟨w103.heap.size, 0, none⟩) (Kd.R_types HO1.out BKo.out (by decide)) (fun _ hk => hk.2) (.slice A5 (x.f3.length + 1) c5)) (fun _ hk => hk.2) (.slice A6 x.f4.length c6)) (fun _ hk => hk.2) (.slice none 0 0))
              have HO2f := Aside0.mk (Kd.R_far (p := ⟨w103.heap.size, 2, none⟩) (Kd.R_far (p := ⟨w103.heap.size, 1, none⟩) (Kd.R_far (p := ⟨w103.heap.size, 0, none⟩) (Kd.R_types HO2.out BKo.out (by decide)) (fun _ hk => hk.2) (.slice A5 (x.f3.length + 1) c5)) (fun _ hk => hk.2) (.slice A6 x.f4.length c6)) (fun _ hk => hk.2) (.slice none 0 0))
              have BKf := Aside0.mk s1
              have BKmf := Aside0.mk ((s2 _ (by omega)).trans BKm.out)
              have BKrf := Aside0.mk ((s2 _ (by omega)).trans BKr.out)
              have HBf := Aside0.mk (show Below w.heap.size w (((w108.setCell ⟨w103.heap.size, 0, none⟩ (.slice A5 (x.f3.length + 1) c5)).setCell ⟨w103.heap.size, 1, none⟩ (.slice A6 x.f4.length c6)).setCell ⟨w103.heap.size, 2, none⟩ (.slice none 0 0)) from ((HBc.out.setCell (p := ⟨w103.heap.size, 0, none⟩) (by show w.heap.size ≤ w103.heap.size; omega) _).setCell (p := ⟨w103.heap.size, 1, none⟩) (by show w.heap.size ≤ w103.heap.size; omega) _).setCell (p := ⟨w103.heap.size, 2, none⟩) (by show w.heap.size ≤ w103.heap.size; omega) _)
              have hS := (s2 _ NEo).trans hHeld
              clear s1 s2
              refine hK.out _ _ hS (fun hHeld => ?_)
              clear hS
              clear hK K
              (try simp only [Act.put, List.setIfInBounds_toArray, List.set_cons_zero, List.set_cons_succ])
              refine wpAnyH_done (by kernel_rfl) ?_ _
              go_wp2_with (fail)
              go_meet
              case rel => exact ⟨w103.heap.size, A5, c5, A6, c6, _, by first | rfl | (simp; done), LTo, LB6, BKf, HO1f, HO2f, BKmf, BKrf, ⟨hHeld⟩, HBf⟩
            refine AllReadyH.cons rfl (fun K hK => ?_) AllReadyH.nil
            go_simp
            obtain ⟨w110, hw110⟩ : ∃ z_, w102.alloc (.cells #[.slice none 0 0, .slice none 0 0, .slice none 0 0] 25) = z_ := ⟨_, rfl⟩
            have BKo := Aside0.mk (show w110.heap[w102.heap.size]? = some (.cells #[.slice none 0 0, .slice none 0 0, .slice none 0 0] 25 (0, 0)) by rw [← hw110]; exact tok_block _ _ _)
            have LTo : w.heap.size + 1 < w102.heap.size := (Array.getElem?_eq_some_iff.1 BKr.out).1
            have NEo : q4.heap.size ≠ w102.heap.size := Nat.ne_of_lt (Array.getElem?_eq_some_iff.1 hHeld).1
            have BKm := Aside0.mk (show w110.heap[w.heap.size]? = some (.cells #[.slice A0_0 l0_0.length c0_0, .slice A0_1 l0_1.length c0_1, .slice A0_2 l0_2.length c0_2] 25 (0, 0)) by rw [← hw110]; exact blk_alloc BKm.out _)
            have BKr := Aside0.mk (show w110.heap[w.heap.size + 1]? = some (.cells #[.slice none 0 0, .slice none 0 0, .slice none 0 0] 25 (0, 0)) by rw [← hw110]; exact blk_alloc BKr.out _)
            have HBc := Aside0.mk (show Below w.heap.size w w110 by rw [← hw110]; exact below_alloc HBc.out _)
            have HO1 := Aside0.mk (show Kd.R k62 62 w110 w.heap.size (fun _ => True) (.slice (some ⟨w101.heap.size, 0, none⟩) 1 1) [ans_status x.f2] by rw [← hw110]; exact Kd.R_alloc HO1.out _)
            have hS : w110.heap[q4.heap.size]? = some (.cells #[.string x.f0, .string x.f1, .int .i64 x.f2, .slice A3 x.f3.length c3, .slice A4 x.f4.length c4, .bool x.f5] 64 (0, 0)) := by rw [← hw110]; exact blk_alloc hHeld _
            have NEg : w102.heap.size ≠ w101.heap.size := by have h1 := LTg; omega
            have LTg : w101.heap.size < w110.heap.size := by rw [← hw110, World.size_alloc]; have h1 := LTg; omega
            rw [hw110]
            refine hK.out _ _ hS (fun hHeld => ?_)
            clear hw110 hS
            clear hK K
            (try simp only [Act.put, List.setIfInBounds_toArray, List.set_cons_zero, List.set_cons_succ])
            refine wpAnyH_ready (rs := [7]) (by kernel_rfl) (by simp) ?_
            refine AllReadyH.cons rfl (fun K hK => ?_) AllReadyH.nil
            obtain ⟨v1, w111, hr1, ho, hb, hg, hat⟩ := msg_append_run k62 (Rr := k62.K w110) (w0 := w) w.heap.size 22 22 62 (.agg #[(.string ⟨#[]⟩), (.string ⟨#[]⟩)]) 32 Tryz.underlying22 info62 rfl (by decide) (by omega) (.slice (some ⟨w101.heap.size, 0, none⟩) 1 1) [ans_status x.f2] x.f3 A3 x.f3.length c3 (fun _ => True) (fun _ => False) HO1.out (Kd.C_below G3.out HBc.out) (by intro y cs hy; obtain rfl := k62_open hy; exact k62_mkM _ _ _ y) (fun _ hk => hk.elim) (fun _ _ => trivial) HBc.out HBc.out.size (by simp; omega)
            obtain ⟨A5, c5, e5⟩ := Kd.R_slice ho
            subst e5
            have el : ([ans_status x.f2] ++ x.f3).length = x.f3.length + 1 := by simp
            rw [el] at hr1 ho
            have HO1 := Aside0.mk (show Kd.R k62 62 w111 w.heap.size (fun _ => True) (.slice A5 (x.f3.length + 1) c5) (ans_status x.f2 :: x.f3) from ho)
            have HBc := Aside0.mk hb
            have hS : w111.heap[q4.heap.size]? = some (.cells #[.string x.f0, .string x.f1, .int .i64 x.f2, .slice A3 x.f3.length c3, .slice A4 x.f4.length c4, .bool x.f5] 64 (0, 0)) := (hg.block _ (Array.getElem?_eq_some_iff.1 hHeld).1 (by simp [Value.ownBlock]; omega)).trans hHeld
            have BKm := Aside0.mk (show w111.heap[w.heap.size]? = some (.cells #[.slice A0_0 l0_0.length c0_0, .slice A0_1 l0_1.length c0_1, .slice A0_2 l0_2.length c0_2] 25 (0, 0)) from (hg.block _ (Array.getElem?_eq_some_iff.1 BKm.out).1 (by simp [Value.ownBlock]; omega)).trans BKm.out)
            have BKr := Aside0.mk (show w111.heap[w.heap.size + 1]? = some (.cells #[.slice none 0 0, .slice none 0 0, .slice none 0 0] 25 (0, 0)) from (hg.block _ (Array.getElem?_eq_some_iff.1 BKr.out).1 (by simp [Value.ownBlock]; omega)).trans BKr.out)
            have BKo := Aside0.mk (show w111.heap[w102.heap.size]? = some (.cells #[.slice none 0 0, .slice none 0 0, .slice none 0 0] 25 (0, 0)) from (hg.block _ (Array.getElem?_eq_some_iff.1 BKo.out).1 (by simp [Value.ownBlock]; omega)).trans BKo.out)
            have LTg : w101.heap.size < w111.heap.size := Nat.lt_of_lt_of_le LTg hg.size
            refine msg_append_step rfl (.tmp 50) (.tmp 52) 22 rfl _ A3 x.f3.length c3 rfl rfl hr1 ?_
            clear hr1 ho hb hg hat el
            refine hK.out _ _ hS (fun hHeld => ?_)
            clear hS
            clear hK K
            (try simp only [Act.put, List.setIfInBounds_toArray, List.set_cons_zero, List.set_cons_succ])
            refine wpAnyH_ready (rs := [10]) (by kernel_rfl) (by simp) ?_
            refine AllReadyH.cons rfl (fun K hK => ?_) AllReadyH.nil
            go_simp
            (go_at_call 46; refine (clone_bytes.calls A4 c4 x.f4 _ (Kd.C_below G4.out HBc.out) l4 (by omega)).mono ?_); rintro e w112 ⟨vC, rfl, hoC, hz⟩
            obtain ⟨A6, c6, rfl⟩ := Kd.R_slice hoC
            have HO2 := Aside0.mk hoC
            have LB6 := Aside0.mk HBc.out.size
            have HO1 := Aside0.mk (Kd.R_below HO1.out hz)
            have HBc := Aside0.mk (below_step HBc.out hz)
            have BKm := Aside0.mk (blk_below BKm.out hz)
            have BKr := Aside0.mk (blk_below BKr.out hz)
            have BKo := Aside0.mk (blk_below BKo.out hz)
            have LTg : w101.heap.size < w112.heap.size := Nat.lt_of_lt_of_le LTg hz.size
            have hS := blk_below hHeld hz
            clear hz hoC
            (try go_wp2_with (fail))
            refine hK.out _ _ hS (fun hHeld => ?_)
            clear hS
            clear hK K
            (try simp only [Act.put, List.setIfInBounds_toArray, List.set_cons_zero, List.set_cons_succ])
            (refine msg_take (i := 11) (d := some 57) (v := .agg #[.slice A5 (x.f3.length + 1) c5, .slice A6 x.f4.length c6, .slice none 0 0]) rfl rfl (by kernel_rfl) (by kernel_rfl) (by kernel_rfl) (fun _ _ _ h => h) (Or.inl ⟨by rfl, ?hy⟩) (by assumption) ?_; (case hy => (intro w hSw; go_simp; try (with_reducible rfl)))); (try simp only [Act.put, List.setIfInBounds_toArray, List.set_cons_zero, List.set_cons_succ])
            refine wpAnyH_ready (rs := [13]) (by kernel_rfl) (by simp) ?_
            refine AllReadyH.cons rfl (fun K hK => ?_) AllReadyH.nil
            have zo0 : w112.cell? ⟨w102.heap.size, 0, none⟩ = some (.slice none 0 0) ∧ w112.frozen? ⟨w102.heap.size, 0, none⟩ = false := ⟨(blk_cell BKo.out 0).trans rfl, blk_frozen BKo.out 0⟩
            have zo1 : w112.cell? ⟨w102.heap.size, 1, none⟩ = some (.slice none 0 0) ∧ w112.frozen? ⟨w102.heap.size, 1, none⟩ = false := ⟨(blk_cell BKo.out 1).trans rfl, blk_frozen BKo.out 1⟩
            have zo2 : w112.cell? ⟨w102.heap.size, 2, none⟩ = some (.slice none 0 0) ∧ w112.frozen? ⟨w102.heap.size, 2, none⟩ = false := ⟨(blk_cell BKo.out 2).trans rfl, blk_frozen BKo.out 2⟩
            obtain ⟨s1, s2⟩ := msg_store3 (.slice A5 (x.f3.length + 1) c5) (.slice A6 x.f4.length c6) (.slice none 0 0) BKo.out
            go_simp
            have HO1f := Aside0.mk (Kd.R_far (p := ⟨w102.heap.size, 2, none⟩) (Kd.R_far (p := ⟨w102.heap.size, 1, none⟩) (Kd.R_far (p := ⟨w102.heap.size, 0, none⟩) (Kd.R_types HO1.out BKo.out (by decide)) (fun _ hk => hk.2) (.slice A5 (x.f3.length + 1) c5)) (fun _ hk => hk.2) (.slice A6 x.f4.length c6)) (fun _ hk => hk.2) (.slice none 0 0))
            have HO2f := Aside0.mk (Kd.R_far (p := ⟨w102.heap.size, 2, none⟩) (Kd.R_far (p := ⟨w102.heap.size, 1, none⟩) (Kd.R_far (p := ⟨w102.heap.size, 0, none⟩) (Kd.R_types HO2.out BKo.out (by decide)) (fun _ hk => hk.2) (.slice A5 (x.f3.length + 1) c5)) (fun _ hk => hk.2) (.slice A6 x.f4.length c6)) (fun _ hk => hk.2) (.slice none 0 0))
            have BKf := Aside0.mk s1
            have BKmf := Aside0.mk ((s2 _ (by omega)).trans BKm.out)
            have BKrf := Aside0.mk ((s2 _ (by omega)).trans BKr.out)
            have HBf := Aside0.mk (show Below w.heap.size w (((w112.setCell ⟨w102.heap.size, 0, none⟩ (.slice A5 (x.f3.length + 1) c5)).setCell ⟨w102.heap.size, 1, none⟩ (.slice A6 x.f4.length c6)).setCell ⟨w102.heap.size, 2, none⟩ (.slice none 0 0)) from ((HBc.out.setCell (p := ⟨w102.heap.size, 0, none⟩) (by show w.heap.size ≤ w102.heap.size; omega) _).setCell (p := ⟨w102.heap.size, 1, none⟩) (by show w.heap.size ≤ w102.heap.size; omega) _).setCell (p := ⟨w102.heap.size, 2, none⟩) (by show w.heap.size ≤ w102.heap.size; omega) _)
            have hS := (s2 _ NEo).trans hHeld
            clear s1 s2
            refine hK.out _ _ hS (fun hHeld => ?_)
            clear hS
            clear hK K
            (try simp only [Act.put, List.setIfInBounds_toArray, List.set_cons_zero, List.set_cons_succ])
            refine wpAnyH_done (by kernel_rfl) ?_ _
            go_wp2_with (fail)
            go_meet
            case rel => exact ⟨w102.heap.size, A5, c5, A6, c6, _, by first | rfl | (simp; done), LTo, LB6, BKf, HO1f, HO2f, BKmf, BKrf, ⟨hHeld⟩, HBf⟩
          refine AllReadyH.cons rfl (fun K hK => ?_) AllReadyH.nil
          go_simp
          obtain ⟨w114, hw114⟩ : ∃ z_, w101.alloc (.cells #[.slice none 0 0, .slice none 0 0, .slice none 0 0] 25) = z_ := ⟨_, rfl⟩
          have BKo := Aside0.mk (show w114.heap[w101.heap.size]? = some (.cells #[.slice none 0 0, .slice none 0 0, .slice none 0 0] 25 (0, 0)) by rw [← hw114]; exact tok_block _ _ _)
          have LTo : w.heap.size + 1 < w101.heap.size := (Array.getElem?_eq_some_iff.1 BKr.out).1
          have NEo : q4.heap.size ≠ w101.heap.size := Nat.ne_of_lt (Array.getElem?_eq_some_iff.1 hHeld).1
          have BKm := Aside0.mk (show w114.heap[w.heap.size]? = some (.cells #[.slice A0_0 l0_0.length c0_0, .slice A0_1 l0_1.length c0_1, .slice A0_2 l0_2.length c0_2] 25 (0, 0)) by rw [← hw114]; exact blk_alloc BKm.out _)
          have BKr := Aside0.mk (show w114.heap[w.heap.size + 1]? = some (.cells #[.slice none 0 0, .slice none 0 0, .slice none 0 0] 25 (0, 0)) by rw [← hw114]; exact blk_alloc BKr.out _)
          have HBc := Aside0.mk (show Below w.heap.size w w114 by rw [← hw114]; exact below_alloc HBc.out _)
          have hS : w114.heap[q4.heap.size]? = some (.cells #[.string x.f0, .string x.f1, .int .i64 x.f2, .slice A3 x.f3.length c3, .slice A4 x.f4.length c4, .bool x.f5] 64 (0, 0)) := by rw [← hw114]; exact blk_alloc hHeld _
          rw [hw114]
          refine hK.out _ _ hS (fun hHeld => ?_)
          clear hw114 hS
          clear hK K
          (try simp only [Act.put, List.setIfInBounds_toArray, List.set_cons_zero, List.set_cons_succ])
          refine wpAnyH_ready (rs := [4]) (by kernel_rfl) (by simp) ?_
          refine AllReadyH.cons rfl (fun K hK => ?_) AllReadyH.nil
          go_simp
          obtain ⟨w115, hw115⟩ : ∃ z_, w114.alloc (.cells #[.string ⟨#[58, 115, 116, 97, 116, 117, 115]⟩, .string (msg_itoa x.f2)] 62) = z_ := ⟨_, rfl⟩
          have HO1 := Aside0.mk (show Kd.R k62 62 w115 w.heap.size (fun _ => True) (.slice (some ⟨w114.heap.size, 0, none⟩) 1 1) [ans_status x.f2] by rw [← hw115]; exact field_row w114 w.heap.size (ans_status x.f2) HBc.out.size)
          have LTg : w114.heap.size < w115.heap.size := by rw [← hw115, World.size_alloc]; omega
          have NE12 : q4.heap.size ≠ w114.heap.size := Nat.ne_of_lt (Array.getElem?_eq_some_iff.1 hHeld).1
          have NEm : w.heap.size ≠ w114.heap.size := Nat.ne_of_lt (Array.getElem?_eq_some_iff.1 BKm.out).1
          have NEr : w.heap.size + 1 ≠ w114.heap.size := Nat.ne_of_lt (Array.getElem?_eq_some_iff.1 BKr.out).1
          have NEg : w101.heap.size ≠ w114.heap.size := Nat.ne_of_lt (Array.getElem?_eq_some_iff.1 BKo.out).1
          have BKm := Aside0.mk (show w115.heap[w.heap.size]? = some (.cells #[.slice A0_0 l0_0.length c0_0, .slice A0_1 l0_1.length c0_1, .slice A0_2 l0_2.length c0_2] 25 (0, 0)) by rw [← hw115]; exact blk_alloc BKm.out _)
          have BKr := Aside0.mk (show w115.heap[w.heap.size + 1]? = some (.cells #[.slice none 0 0, .slice none 0 0, .slice none 0 0] 25 (0, 0)) by rw [← hw115]; exact blk_alloc BKr.out _)
          have BKo := Aside0.mk (show w115.heap[w101.heap.size]? = some (.cells #[.slice none 0 0, .slice none 0 0, .slice none 0 0] 25 (0, 0)) by rw [← hw115]; exact blk_alloc BKo.out _)
          have HBc := Aside0.mk (show Below w.heap.size w w115 by rw [← hw115]; exact below_alloc HBc.out _)
          have hS : w115.heap[q4.heap.size]? = some (.cells #[.string x.f0, .string x.f1, .int .i64 x.f2, .slice A3 x.f3.length c3, .slice A4 x.f4.length c4, .bool x.f5] 64 (0, 0)) := by rw [← hw115]; exact blk_alloc hHeld _
          rw [hw115]
          refine hK.out _ _ hS (fun hHeld => ?_)
          clear hw115 hS
          clear hK K
          (try simp only [Act.put, List.setIfInBounds_toArray, List.set_cons_zero, List.set_cons_succ])
          refine wpAnyH_ready (rs := [7]) (by kernel_rfl) (by simp) ?_
          refine AllReadyH.cons rfl (fun K hK => ?_) AllReadyH.nil
          obtain ⟨v1, w116, hr1, ho, hb, hg, hat⟩ := msg_append_run k62 (Rr := k62.K w115) (w0 := w) w.heap.size 22 22 62 (.agg #[(.string ⟨#[]⟩), (.string ⟨#[]⟩)]) 32 Tryz.underlying22 info62 rfl (by decide) (by omega) (.slice (some ⟨w114.heap.size, 0, none⟩) 1 1) [ans_status x.f2] x.f3 A3 x.f3.length c3 (fun _ => True) (fun _ => False) HO1.out (Kd.C_below G3.out HBc.out) (by intro y cs hy; obtain rfl := k62_open hy; exact k62_mkM _ _ _ y) (fun _ hk => hk.elim) (fun _ _ => trivial) HBc.out HBc.out.size (by simp; omega)
          obtain ⟨A5, c5, e5⟩ := Kd.R_slice ho
          subst e5
          have el : ([ans_status x.f2] ++ x.f3).length = x.f3.length + 1 := by simp
          rw [el] at hr1 ho
          have HO1 := Aside0.mk (show Kd.R k62 62 w116 w.heap.size (fun _ => True) (.slice A5 (x.f3.length + 1) c5) (ans_status x.f2 :: x.f3) from ho)
          have HBc := Aside0.mk hb
          have hS : w116.heap[q4.heap.size]? = some (.cells #[.string x.f0, .string x.f1, .int .i64 x.f2, .slice A3 x.f3.length c3, .slice A4 x.f4.length c4, .bool x.f5] 64 (0, 0)) := (hg.block _ (Array.getElem?_eq_some_iff.1 hHeld).1 (by simp [Value.ownBlock]; omega)).trans hHeld
          have BKm := Aside0.mk (show w116.heap[w.heap.size]? = some (.cells #[.slice A0_0 l0_0.length c0_0, .slice A0_1 l0_1.length c0_1, .slice A0_2 l0_2.length c0_2] 25 (0, 0)) from (hg.block _ (Array.getElem?_eq_some_iff.1 BKm.out).1 (by simp [Value.ownBlock]; omega)).trans BKm.out)
          have BKr := Aside0.mk (show w116.heap[w.heap.size + 1]? = some (.cells #[.slice none 0 0, .slice none 0 0, .slice none 0 0] 25 (0, 0)) from (hg.block _ (Array.getElem?_eq_some_iff.1 BKr.out).1 (by simp [Value.ownBlock]; omega)).trans BKr.out)
          have BKo := Aside0.mk (show w116.heap[w101.heap.size]? = some (.cells #[.slice none 0 0, .slice none 0 0, .slice none 0 0] 25 (0, 0)) from (hg.block _ (Array.getElem?_eq_some_iff.1 BKo.out).1 (by simp [Value.ownBlock]; omega)).trans BKo.out)
          have LTg : w114.heap.size < w116.heap.size := Nat.lt_of_lt_of_le LTg hg.size
          refine msg_append_step rfl (.tmp 50) (.tmp 52) 22 rfl _ A3 x.f3.length c3 rfl rfl hr1 ?_
          clear hr1 ho hb hg hat el
          refine hK.out _ _ hS (fun hHeld => ?_)
          clear hS
          clear hK K
          (try simp only [Act.put, List.setIfInBounds_toArray, List.set_cons_zero, List.set_cons_succ])
          refine wpAnyH_ready (rs := [10]) (by kernel_rfl) (by simp) ?_
          refine AllReadyH.cons rfl (fun K hK => ?_) AllReadyH.nil
          go_simp
          (go_at_call 46; refine (clone_bytes.calls A4 c4 x.f4 _ (Kd.C_below G4.out HBc.out) l4 (by omega)).mono ?_); rintro e w117 ⟨vC, rfl, hoC, hz⟩
          obtain ⟨A6, c6, rfl⟩ := Kd.R_slice hoC
          have HO2 := Aside0.mk hoC
          have LB6 := Aside0.mk HBc.out.size
          have HO1 := Aside0.mk (Kd.R_below HO1.out hz)
          have HBc := Aside0.mk (below_step HBc.out hz)
          have BKm := Aside0.mk (blk_below BKm.out hz)
          have BKr := Aside0.mk (blk_below BKr.out hz)
          have BKo := Aside0.mk (blk_below BKo.out hz)
          have LTg : w114.heap.size < w117.heap.size := Nat.lt_of_lt_of_le LTg hz.size
          have hS := blk_below hHeld hz
          clear hz hoC
          (try go_wp2_with (fail))
          refine hK.out _ _ hS (fun hHeld => ?_)
          clear hS
          clear hK K
          (try simp only [Act.put, List.setIfInBounds_toArray, List.set_cons_zero, List.set_cons_succ])
          (refine msg_take (i := 11) (d := some 57) (v := .agg #[.slice A5 (x.f3.length + 1) c5, .slice A6 x.f4.length c6, .slice none 0 0]) rfl rfl (by kernel_rfl) (by kernel_rfl) (by kernel_rfl) (fun _ _ _ h => h) (Or.inl ⟨by rfl, ?hy⟩) (by assumption) ?_; (case hy => (intro w hSw; go_simp; try (with_reducible rfl)))); (try simp only [Act.put, List.setIfInBounds_toArray, List.set_cons_zero, List.set_cons_succ])
          refine wpAnyH_ready (rs := [13]) (by kernel_rfl) (by simp) ?_
          refine AllReadyH.cons rfl (fun K hK => ?_) AllReadyH.nil
          have zo0 : w117.cell? ⟨w101.heap.size, 0, none⟩ = some (.slice none 0 0) ∧ w117.frozen? ⟨w101.heap.size, 0, none⟩ = false := ⟨(blk_cell BKo.out 0).trans rfl, blk_frozen BKo.out 0⟩
          have zo1 : w117.cell? ⟨w101.heap.size, 1, none⟩ = some (.slice none 0 0) ∧ w117.frozen? ⟨w101.heap.size, 1, none⟩ = false := ⟨(blk_cell BKo.out 1).trans rfl, blk_frozen BKo.out 1⟩
          have zo2 : w117.cell? ⟨w101.heap.size, 2, none⟩ = some (.slice none 0 0) ∧ w117.frozen? ⟨w101.heap.size, 2, none⟩ = false := ⟨(blk_cell BKo.out 2).trans rfl, blk_frozen BKo.out 2⟩
          obtain ⟨s1, s2⟩ := msg_store3 (.slice A5 (x.f3.length + 1) c5) (.slice A6 x.f4.length c6) (.slice none 0 0) BKo.out
          go_simp
          have HO1f := Aside0.mk (Kd.R_far (p := ⟨w101.heap.size, 2, none⟩) (Kd.R_far (p := ⟨w101.heap.size, 1, none⟩) (Kd.R_far (p := ⟨w101.heap.size, 0, none⟩) (Kd.R_types HO1.out BKo.out (by decide)) (fun _ hk => hk.2) (.slice A5 (x.f3.length + 1) c5)) (fun _ hk => hk.2) (.slice A6 x.f4.length c6)) (fun _ hk => hk.2) (.slice none 0 0))
          have HO2f := Aside0.mk (Kd.R_far (p := ⟨w101.heap.size, 2, none⟩) (Kd.R_far (p := ⟨w101.heap.size, 1, none⟩) (Kd.R_far (p := ⟨w101.heap.size, 0, none⟩) (Kd.R_types HO2.out BKo.out (by decide)) (fun _ hk => hk.2) (.slice A5 (x.f3.length + 1) c5)) (fun _ hk => hk.2) (.slice A6 x.f4.length c6)) (fun _ hk => hk.2) (.slice none 0 0))
          have BKf := Aside0.mk s1
          have BKmf := Aside0.mk ((s2 _ (by omega)).trans BKm.out)
          have BKrf := Aside0.mk ((s2 _ (by omega)).trans BKr.out)
          have HBf := Aside0.mk (show Below w.heap.size w (((w117.setCell ⟨w101.heap.size, 0, none⟩ (.slice A5 (x.f3.length + 1) c5)).setCell ⟨w101.heap.size, 1, none⟩ (.slice A6 x.f4.length c6)).setCell ⟨w101.heap.size, 2, none⟩ (.slice none 0 0)) from ((HBc.out.setCell (p := ⟨w101.heap.size, 0, none⟩) (by show w.heap.size ≤ w101.heap.size; omega) _).setCell (p := ⟨w101.heap.size, 1, none⟩) (by show w.heap.size ≤ w101.heap.size; omega) _).setCell (p := ⟨w101.heap.size, 2, none⟩) (by show w.heap.size ≤ w101.heap.size; omega) _)
          have hS := (s2 _ NEo).trans hHeld
          clear s1 s2
          refine hK.out _ _ hS (fun hHeld => ?_)
          clear hS
          clear hK K
          (try simp only [Act.put, List.setIfInBounds_toArray, List.set_cons_zero, List.set_cons_succ])
          refine wpAnyH_done (by kernel_rfl) ?_ _
          go_wp2_with (fail)
          go_meet
          case rel => exact ⟨w101.heap.size, A5, c5, A6, c6, _, by first | rfl | (simp; done), LTo, LB6, BKf, HO1f, HO2f, BKmf, BKrf, ⟨hHeld⟩, HBf⟩
        refine AllReadyH.cons rfl (fun K hK => ?_) AllReadyH.nil
        go_simp
        obtain ⟨w119, hw119⟩ : ∃ z_, R1.alloc (.cells #[.slice none 0 0, .slice none 0 0, .slice none 0 0] 25) = z_ := ⟨_, rfl⟩
        have BKo := Aside0.mk (show w119.heap[R1.heap.size]? = some (.cells #[.slice none 0 0, .slice none 0 0, .slice none 0 0] 25 (0, 0)) by rw [← hw119]; exact tok_block _ _ _)
        have LTo : w.heap.size + 1 < R1.heap.size := (Array.getElem?_eq_some_iff.1 BKr.out).1
        have NEo : q4.heap.size ≠ R1.heap.size := Nat.ne_of_lt (Array.getElem?_eq_some_iff.1 hHeld).1
        have BKm := Aside0.mk (show w119.heap[w.heap.size]? = some (.cells #[.slice A0_0 l0_0.length c0_0, .slice A0_1 l0_1.length c0_1, .slice A0_2 l0_2.length c0_2] 25 (0, 0)) by rw [← hw119]; exact blk_alloc BKm.out _)
        have BKr := Aside0.mk (show w119.heap[w.heap.size + 1]? = some (.cells #[.slice none 0 0, .slice none 0 0, .slice none 0 0] 25 (0, 0)) by rw [← hw119]; exact blk_alloc BKr.out _)
        have HBc := Aside0.mk (show Below w.heap.size w w119 by rw [← hw119]; exact below_alloc HBc.out _)
        have hS : w119.heap[q4.heap.size]? = some (.cells #[.string x.f0, .string x.f1, .int .i64 x.f2, .slice A3 x.f3.length c3, .slice A4 x.f4.length c4, .bool x.f5] 64 (0, 0)) := by rw [← hw119]; exact blk_alloc hHeld _
        rw [hw119]
        refine hK.out _ _ hS (fun hHeld => ?_)
        clear hw119 hS
        clear hK K
        (try simp only [Act.put, List.setIfInBounds_toArray, List.set_cons_zero, List.set_cons_succ])
        refine wpAnyH_ready (rs := [2]) (by kernel_rfl) (by simp) ?_
        refine AllReadyH.cons rfl (fun K hK => ?_) AllReadyH.nil
        go_simp
        (go_at_call 30; refine (msg_Itoa.calls x.f2 _ hi0 hi1 (HT.out.below HBc.out)).mono ?_); rintro e w120 ⟨rfl, hz⟩
        have HBc := Aside0.mk (below_step HBc.out hz)
        have BKm := Aside0.mk (blk_below BKm.out hz)
        have BKr := Aside0.mk (blk_below BKr.out hz)
        have BKo := Aside0.mk (blk_below BKo.out hz)
        have hS := blk_below hHeld hz
        clear hz
        (try go_wp2_with (fail))
        refine hK.out _ _ hS (fun hHeld => ?_)
        clear hS
        clear hK K
        (try simp only [Act.put, List.setIfInBounds_toArray, List.set_cons_zero, List.set_cons_succ])
        (refine msg_take (i := 3) (d := some 49) (v := .agg #[.string ⟨#[58, 115, 116, 97, 116, 117, 115]⟩, .string (msg_itoa x.f2)]) rfl rfl (by kernel_rfl) (by kernel_rfl) (by kernel_rfl) (fun _ _ _ h => h) (Or.inl ⟨by rfl, ?hy⟩) (by assumption) ?_; (case hy => (intro w hSw; go_simp; try (with_reducible rfl)))); (try simp only [Act.put, List.setIfInBounds_toArray, List.set_cons_zero, List.set_cons_succ])
        refine wpAnyH_ready (rs := [4]) (by kernel_rfl) (by simp) ?_
        refine AllReadyH.cons rfl (fun K hK => ?_) AllReadyH.nil
        go_simp
        obtain ⟨w121, hw121⟩ : ∃ z_, w120.alloc (.cells #[.string ⟨#[58, 115, 116, 97, 116, 117, 115]⟩, .string (msg_itoa x.f2)] 62) = z_ := ⟨_, rfl⟩
        have HO1 := Aside0.mk (show Kd.R k62 62 w121 w.heap.size (fun _ => True) (.slice (some ⟨w120.heap.size, 0, none⟩) 1 1) [ans_status x.f2] by rw [← hw121]; exact field_row w120 w.heap.size (ans_status x.f2) HBc.out.size)
        have LTg : w120.heap.size < w121.heap.size := by rw [← hw121, World.size_alloc]; omega
        have NE12 : q4.heap.size ≠ w120.heap.size := Nat.ne_of_lt (Array.getElem?_eq_some_iff.1 hHeld).1
        have NEm : w.heap.size ≠ w120.heap.size := Nat.ne_of_lt (Array.getElem?_eq_some_iff.1 BKm.out).1
        have NEr : w.heap.size + 1 ≠ w120.heap.size := Nat.ne_of_lt (Array.getElem?_eq_some_iff.1 BKr.out).1
        have NEg : R1.heap.size ≠ w120.heap.size := Nat.ne_of_lt (Array.getElem?_eq_some_iff.1 BKo.out).1
        have BKm := Aside0.mk (show w121.heap[w.heap.size]? = some (.cells #[.slice A0_0 l0_0.length c0_0, .slice A0_1 l0_1.length c0_1, .slice A0_2 l0_2.length c0_2] 25 (0, 0)) by rw [← hw121]; exact blk_alloc BKm.out _)
        have BKr := Aside0.mk (show w121.heap[w.heap.size + 1]? = some (.cells #[.slice none 0 0, .slice none 0 0, .slice none 0 0] 25 (0, 0)) by rw [← hw121]; exact blk_alloc BKr.out _)
        have BKo := Aside0.mk (show w121.heap[R1.heap.size]? = some (.cells #[.slice none 0 0, .slice none 0 0, .slice none 0 0] 25 (0, 0)) by rw [← hw121]; exact blk_alloc BKo.out _)
        have HBc := Aside0.mk (show Below w.heap.size w w121 by rw [← hw121]; exact below_alloc HBc.out _)
        have hS : w121.heap[q4.heap.size]? = some (.cells #[.string x.f0, .string x.f1, .int .i64 x.f2, .slice A3 x.f3.length c3, .slice A4 x.f4.length c4, .bool x.f5] 64 (0, 0)) := by rw [← hw121]; exact blk_alloc hHeld _
        rw [hw121]
        refine hK.out _ _ hS (fun hHeld => ?_)
        clear hw121 hS
        clear hK K
        (try simp only [Act.put, List.setIfInBounds_toArray, List.set_cons_zero, List.set_cons_succ])
        refine wpAnyH_ready (rs := [7]) (by kernel_rfl) (by simp) ?_
        refine AllReadyH.cons rfl (fun K hK => ?_) AllReadyH.nil
        obtain ⟨v1, w122, hr1, ho, hb, hg, hat⟩ := msg_append_run k62 (Rr := k62.K w121) (w0 := w) w.heap.size 22 22 62 (.agg #[(.string ⟨#[]⟩), (.string ⟨#[]⟩)]) 32 Tryz.underlying22 info62 rfl (by decide) (by omega) (.slice (some ⟨w120.heap.size, 0, none⟩) 1 1) [ans_status x.f2] x.f3 A3 x.f3.length c3 (fun _ => True) (fun _ => False) HO1.out (Kd.C_below G3.out HBc.out) (by intro y cs hy; obtain rfl := k62_open hy; exact k62_mkM _ _ _ y) (fun _ hk => hk.elim) (fun _ _ => trivial) HBc.out HBc.out.size (by simp; omega)
        obtain ⟨A5, c5, e5⟩ := Kd.R_slice ho
        subst e5
        have el : ([ans_status x.f2] ++ x.f3).length = x.f3.length + 1 := by simp
        rw [el] at hr1 ho
        have HO1 := Aside0.mk (show Kd.R k62 62 w122 w.heap.size (fun _ => True) (.slice A5 (x.f3.length + 1) c5) (ans_status x.f2 :: x.f3) from ho)
        have HBc := Aside0.mk hb
        have hS : w122.heap[q4.heap.size]? = some (.cells #[.string x.f0, .string x.f1, .int .i64 x.f2, .slice A3 x.f3.length c3, .slice A4 x.f4.length c4, .bool x.f5] 64 (0, 0)) := (hg.block _ (Array.getElem?_eq_some_iff.1 hHeld).1 (by simp [Value.ownBlock]; omega)).trans hHeld
        have BKm := Aside0.mk (show w122.heap[w.heap.size]? = some (.cells #[.slice A0_0 l0_0.length c0_0, .slice A0_1 l0_1.length c0_1, .slice A0_2 l0_2.length c0_2] 25 (0, 0)) from (hg.block _ (Array.getElem?_eq_some_iff.1 BKm.out).1 (by simp [Value.ownBlock]; omega)).trans BKm.out)
        have BKr := Aside0.mk (show w122.heap[w.heap.size + 1]? = some (.cells #[.slice none 0 0, .slice none 0 0, .slice none 0 0] 25 (0, 0)) from (hg.block _ (Array.getElem?_eq_some_iff.1 BKr.out).1 (by simp [Value.ownBlock]; omega)).trans BKr.out)
        have BKo := Aside0.mk (show w122.heap[R1.heap.size]? = some (.cells #[.slice none 0 0, .slice none 0 0, .slice none 0 0] 25 (0, 0)) from (hg.block _ (Array.getElem?_eq_some_iff.1 BKo.out).1 (by simp [Value.ownBlock]; omega)).trans BKo.out)
        have LTg : w120.heap.size < w122.heap.size := Nat.lt_of_lt_of_le LTg hg.size
        refine msg_append_step rfl (.tmp 50) (.tmp 52) 22 rfl _ A3 x.f3.length c3 rfl rfl hr1 ?_
        clear hr1 ho hb hg hat el
        refine hK.out _ _ hS (fun hHeld => ?_)
        clear hS
        clear hK K
        (try simp only [Act.put, List.setIfInBounds_toArray, List.set_cons_zero, List.set_cons_succ])
        refine wpAnyH_ready (rs := [10]) (by kernel_rfl) (by simp) ?_
        refine AllReadyH.cons rfl (fun K hK => ?_) AllReadyH.nil
        go_simp
        (go_at_call 46; refine (clone_bytes.calls A4 c4 x.f4 _ (Kd.C_below G4.out HBc.out) l4 (by omega)).mono ?_); rintro e w123 ⟨vC, rfl, hoC, hz⟩
        obtain ⟨A6, c6, rfl⟩ := Kd.R_slice hoC
        have HO2 := Aside0.mk hoC
        have LB6 := Aside0.mk HBc.out.size
        have HO1 := Aside0.mk (Kd.R_below HO1.out hz)
        have HBc := Aside0.mk (below_step HBc.out hz)
        have BKm := Aside0.mk (blk_below BKm.out hz)
        have BKr := Aside0.mk (blk_below BKr.out hz)
        have BKo := Aside0.mk (blk_below BKo.out hz)
        have LTg : w120.heap.size < w123.heap.size := Nat.lt_of_lt_of_le LTg hz.size
        have hS := blk_below hHeld hz
        clear hz hoC
        (try go_wp2_with (fail))
        refine hK.out _ _ hS (fun hHeld => ?_)
        clear hS
        clear hK K
        (try simp only [Act.put, List.setIfInBounds_toArray, List.set_cons_zero, List.set_cons_succ])
        (refine msg_take (i := 11) (d := some 57) (v := .agg #[.slice A5 (x.f3.length + 1) c5, .slice A6 x.f4.length c6, .slice none 0 0]) rfl rfl (by kernel_rfl) (by kernel_rfl) (by kernel_rfl) (fun _ _ _ h => h) (Or.inl ⟨by rfl, ?hy⟩) (by assumption) ?_; (case hy => (intro w hSw; go_simp; try (with_reducible rfl)))); (try simp only [Act.put, List.setIfInBounds_toArray, List.set_cons_zero, List.set_cons_succ])
        refine wpAnyH_ready (rs := [13]) (by kernel_rfl) (by simp) ?_
        refine AllReadyH.cons rfl (fun K hK => ?_) AllReadyH.nil
        have zo0 : w123.cell? ⟨R1.heap.size, 0, none⟩ = some (.slice none 0 0) ∧ w123.frozen? ⟨R1.heap.size, 0, none⟩ = false := ⟨(blk_cell BKo.out 0).trans rfl, blk_frozen BKo.out 0⟩
        have zo1 : w123.cell? ⟨R1.heap.size, 1, none⟩ = some (.slice none 0 0) ∧ w123.frozen? ⟨R1.heap.size, 1, none⟩ = false := ⟨(blk_cell BKo.out 1).trans rfl, blk_frozen BKo.out 1⟩
        have zo2 : w123.cell? ⟨R1.heap.size, 2, none⟩ = some (.slice none 0 0) ∧ w123.frozen? ⟨R1.heap.size, 2, none⟩ = false := ⟨(blk_cell BKo.out 2).trans rfl, blk_frozen BKo.out 2⟩
        obtain ⟨s1, s2⟩ := msg_store3 (.slice A5 (x.f3.length + 1) c5) (.slice A6 x.f4.length c6) (.slice none 0 0) BKo.out
        go_simp
        have HO1f := Aside0.mk (Kd.R_far (p := ⟨R1.heap.size, 2, none⟩) (Kd.R_far (p := ⟨R1.heap.size, 1, none⟩) (Kd.R_far (p := ⟨R1.heap.size, 0, none⟩) (Kd.R_types HO1.out BKo.out (by decide)) (fun _ hk => hk.2) (.slice A5 (x.f3.length + 1) c5)) (fun _ hk => hk.2) (.slice A6 x.f4.length c6)) (fun _ hk => hk.2) (.slice none 0 0))
        have HO2f := Aside0.mk (Kd.R_far (p := ⟨R1.heap.size, 2, none⟩) (Kd.R_far (p := ⟨R1.heap.size, 1, none⟩) (Kd.R_far (p := ⟨R1.heap.size, 0, none⟩) (Kd.R_types HO2.out BKo.out (by decide)) (fun _ hk => hk.2) (.slice A5 (x.f3.length + 1) c5)) (fun _ hk => hk.2) (.slice A6 x.f4.length c6)) (fun _ hk => hk.2) (.slice none 0 0))
        have BKf := Aside0.mk s1
        have BKmf := Aside0.mk ((s2 _ (by omega)).trans BKm.out)
        have BKrf := Aside0.mk ((s2 _ (by omega)).trans BKr.out)
        have HBf := Aside0.mk (show Below w.heap.size w (((w123.setCell ⟨R1.heap.size, 0, none⟩ (.slice A5 (x.f3.length + 1) c5)).setCell ⟨R1.heap.size, 1, none⟩ (.slice A6 x.f4.length c6)).setCell ⟨R1.heap.size, 2, none⟩ (.slice none 0 0)) from ((HBc.out.setCell (p := ⟨R1.heap.size, 0, none⟩) (by show w.heap.size ≤ R1.heap.size; omega) _).setCell (p := ⟨R1.heap.size, 1, none⟩) (by show w.heap.size ≤ R1.heap.size; omega) _).setCell (p := ⟨R1.heap.size, 2, none⟩) (by show w.heap.size ≤ R1.heap.size; omega) _)
        have hS := (s2 _ NEo).trans hHeld
        clear s1 s2
        refine hK.out _ _ hS (fun hHeld => ?_)
        clear hS
        clear hK K
        (try simp only [Act.put, List.setIfInBounds_toArray, List.set_cons_zero, List.set_cons_succ])
        refine wpAnyH_done (by kernel_rfl) ?_ _
        go_wp2_with (fail)
        go_meet
        case rel => exact ⟨R1.heap.size, A5, c5, A6, c6, _, by first | rfl | (simp; done), LTo, LB6, BKf, HO1f, HO2f, BKmf, BKrf, ⟨hHeld⟩, HBf⟩
      case rest =>
        obtain ⟨B13, A5, c5, A6, c6, b6, rfl, LTo, LB6, BKo, HO1, HO2, BKm, BKr, BK12, HBw⟩ := hcut
        have e5 : wc.cell? ⟨q4.heap.size, 5, none⟩ = some (.bool x.f5) := (blk_cell BK12.out 5).trans rfl
        obtain ⟨b7, hb6, hb7, HO2'⟩ := u8_base HO2.out LB6.out HBw.out.size
        replace HO2 := Aside0.mk HO2'
        clear HO2'
        cases hf5 : x.f5 with
        | false =>
          rw [hf5] at e5
          have hYY : x.f4 = Y := by rw [← hY]; unfold ans_body; rw [hf5]; rfl
          rw [hYY] at BKo HO2
          clear hYY hY
          have hn5 := (Kd.R_reads' HO1.out).2.1
          have hn6 := (Kd.R_reads' HO2.out).2.1
          have hm5 : x.f3.length + 1 ≤ 9223372036854775807 := by omega
          have hm6 : Y.length ≤ 9223372036854775807 := by omega
          obtain ⟨A8, rfl⟩ : ∃ A8, A6 = A8 := ⟨_, rfl⟩
          go_upto_region 13 with (fail)
          clear e5 BK12
          go_cut [13] (fun v13 wd => v13 = .pointer (some ⟨B13, 0, none⟩) ∧ Aside0 (wd.heap[B13]? = some (.cells #[(.slice A5 (x.f3.length + 1) (x.f3.length + 1)), (.slice A6 Y.length Y.length), (.slice none 0 0)] 25 (0, 0))) ∧ Aside0 (Kd.R k62 62 wd w.heap.size (fun k => True ∧ k ≠ B13) (.slice A5 (x.f3.length + 1) c5) (ans_status x.f2 :: x.f3)) ∧ Aside0 (Kd.R (Kd.int .u8) 5 wd b7 (fun k => True ∧ k ≠ B13) (.slice A6 Y.length c6) Y) ∧ Aside0 (wd.heap[w.heap.size + 1]? = some (.cells #[.slice none 0 0, .slice none 0 0, .slice none 0 0] 25 (0, 0))) ∧ Aside0 (Below w.heap.size w wd))
          case first =>
            refine wp_region_held_drew (S := fun _ => True) (by kernel_rfl) trivial (fun _ => ?_)
            obtain ⟨R2, hR2⟩ : ∃ z_, wc.drew = z_ := ⟨_, rfl⟩
            have BKo := Aside0.mk (show R2.heap[B13]? = some (.cells #[(.slice A5 (x.f3.length + 1) c5), (.slice A6 Y.length c6), (.slice none 0 0)] 25 (0, 0)) by rw [← hR2]; exact BKo.out)
            have BKr := Aside0.mk (show R2.heap[w.heap.size + 1]? = some (.cells #[.slice none 0 0, .slice none 0 0, .slice none 0 0] 25 (0, 0)) by rw [← hR2]; exact BKr.out)
            have HO1 := Aside0.mk (show Kd.R k62 62 R2 w.heap.size (fun k => True ∧ k ≠ B13) (.slice A5 (x.f3.length + 1) c5) (ans_status x.f2 :: x.f3) by rw [← hR2]; exact Kd.R_drew HO1.out)
            have HO2 := Aside0.mk (show Kd.R (Kd.int .u8) 5 R2 b7 (fun k => True ∧ k ≠ B13) (.slice A6 Y.length c6) Y by rw [← hR2]; exact Kd.R_drew HO2.out)
            have HBw := Aside0.mk (show Below w.heap.size w R2 by rw [← hR2]; exact below_drew1 HBw.out)
            have z0 : R2.cell? ⟨B13, 0, none⟩ = some (.slice A5 (x.f3.length + 1) c5) ∧ R2.frozen? ⟨B13, 0, none⟩ = false := ⟨(blk_cell BKo.out 0).trans rfl, blk_frozen BKo.out 0⟩
            have z1 : R2.cell? ⟨B13, 1, none⟩ = some (.slice A6 Y.length c6) := (blk_cell BKo.out 1).trans rfl
            obtain ⟨s1, s2⟩ := msg_store1 0 (.slice A5 (x.f3.length + 1) (x.f3.length + 1)) BKo.out
            obtain ⟨W7, hW7⟩ : ∃ z_, R2.setCell ⟨B13, 0, none⟩ (.slice A5 (x.f3.length + 1) (x.f3.length + 1)) = z_ := ⟨_, rfl⟩
            rw [hW7] at s1 s2
            have s1' : W7.heap[B13]? = some (.cells #[(.slice A5 (x.f3.length + 1) (x.f3.length + 1)), (.slice A6 Y.length c6), (.slice none 0 0)] 25 (0, 0)) := s1
            have z7 : W7.cell? ⟨B13, 1, none⟩ = some (.slice A6 Y.length c6) ∧ W7.frozen? ⟨B13, 1, none⟩ = false := ⟨(blk_cell s1' 1).trans rfl, blk_frozen s1' 1⟩
            obtain ⟨u1, u2⟩ := msg_store1 1 (.slice A6 Y.length Y.length) s1'
            have U1 := Aside0.mk (show (W7.setCell ⟨B13, 1, none⟩ (.slice A6 Y.length Y.length)).heap[B13]? = some (.cells #[(.slice A5 (x.f3.length + 1) (x.f3.length + 1)), (.slice A6 Y.length Y.length), (.slice none 0 0)] 25 (0, 0)) from u1)
            have Ga : Kd.R k62 62 W7 w.heap.size (fun k => True ∧ k ≠ B13) (.slice A5 (x.f3.length + 1) c5) (ans_status x.f2 :: x.f3) := by rw [← hW7]; exact Kd.R_far (p := ⟨B13, 0, none⟩) HO1.out (fun _ hk => hk.2) (.slice A5 (x.f3.length + 1) (x.f3.length + 1))
            have Gb : Kd.R (Kd.int .u8) 5 W7 b7 (fun k => True ∧ k ≠ B13) (.slice A6 Y.length c6) Y := by rw [← hW7]; exact Kd.R_far (p := ⟨B13, 0, none⟩) HO2.out (fun _ hk => hk.2) (.slice A5 (x.f3.length + 1) (x.f3.length + 1))
            have F1 := Aside0.mk (Kd.R_far (p := ⟨B13, 1, none⟩) Ga (fun _ hk => hk.2) (.slice A6 Y.length Y.length))
            have F2 := Aside0.mk (Kd.R_far (p := ⟨B13, 1, none⟩) Gb (fun _ hk => hk.2) (.slice A6 Y.length Y.length))
            have UR := Aside0.mk ((u2 (w.heap.size + 1) (by omega)).trans ((s2 (w.heap.size + 1) (by omega)).trans BKr.out))
            have UB := Aside0.mk (show Below w.heap.size w (W7.setCell ⟨B13, 1, none⟩ (.slice A6 Y.length Y.length)) from (show Below w.heap.size w W7 by rw [← hW7]; exact HBw.out.setCell (p := ⟨B13, 0, none⟩) (by show w.heap.size ≤ B13; omega) _).setCell (p := ⟨B13, 1, none⟩) (by show w.heap.size ≤ B13; omega) _)
            clear s1 s2 s1' u1 u2 Ga Gb
            rw [hR2]
            (refine msg_take (i := 0) (d := some 66) (v := .pointer (some ⟨B13, 0, none⟩)) rfl rfl (by kernel_rfl) (by kernel_rfl) (by kernel_rfl) (fun _ _ _ h => h) (Or.inl ⟨by rfl, ?hy⟩) trivial ?_; (case hy => (intro w hSw; go_simp; try (with_reducible rfl)))); (try simp only [Act.put, List.setIfInBounds_toArray, List.set_cons_zero, List.set_cons_succ])
            (refine msg_take (i := 3) (d := some 69) (v := .pointer (some ⟨B13, 1, none⟩)) rfl rfl (by kernel_rfl) (by kernel_rfl) (by kernel_rfl) (fun _ _ _ h => h) (Or.inl ⟨by rfl, ?hy⟩) trivial ?_; (case hy => (intro w hSw; go_simp; try (with_reducible rfl)))); (try simp only [Act.put, List.setIfInBounds_toArray, List.set_cons_zero, List.set_cons_succ])
            refine wpAnyH_ready (rs := [1, 4]) (by kernel_rfl) (by simp) ?_
            refine AllReadyH.cons rfl (fun K hK => ?_) ?_
            · skip
              go_simp
              refine hK.out _ _ trivial (fun _ => ?_)
              clear hK K
              (try simp only [Act.put, List.setIfInBounds_toArray, List.set_cons_zero, List.set_cons_succ])
              refine wpAnyH_ready (rs := [2, 4]) (by kernel_rfl) (by simp) ?_
              refine AllReadyH.cons rfl (fun K hK => ?_) ?_
              · skip
                go_simp
                (go_at_call 47; refine (clip_fields.calls A5 (x.f3.length + 1) c5 _ hn5 hm5).mono ?_); rintro e w1 ⟨rfl, rfl⟩; (try go_wp2_with (fail))
                refine hK.out _ _ trivial (fun _ => ?_)
                clear hK K
                (try simp only [Act.put, List.setIfInBounds_toArray, List.set_cons_zero, List.set_cons_succ])
                refine wpAnyH_ready (rs := [4]) (by kernel_rfl) (by simp) ?_
                refine AllReadyH.cons rfl (fun K hK => ?_) AllReadyH.nil
                go_simp
                refine hK.out _ _ trivial (fun _ => ?_)
                clear hK K
                (try simp only [Act.put, List.setIfInBounds_toArray, List.set_cons_zero, List.set_cons_succ])
                (refine msg_take (i := 6) (d := some 72) (v := .pointer (some ⟨B13, 0, none⟩)) rfl rfl (by kernel_rfl) (by kernel_rfl) (by kernel_rfl) (fun _ _ _ h => h) (Or.inl ⟨by rfl, ?hy⟩) trivial ?_; (case hy => (intro w hSw; go_simp; try (with_reducible rfl)))); (try simp only [Act.put, List.setIfInBounds_toArray, List.set_cons_zero, List.set_cons_succ])
                refine wpAnyH_ready (rs := [5]) (by kernel_rfl) (by simp) ?_
                refine AllReadyH.cons rfl (fun K hK => ?_) AllReadyH.nil
                go_simp
                (go_at_call 48; refine (clip_bytes.calls A6 Y.length c6 _ hn6 hm6).mono ?_); rintro e w1 ⟨rfl, rfl⟩; (try go_wp2_with (fail))
                refine hK.out _ _ trivial (fun _ => ?_)
                clear hK K
                (try simp only [Act.put, List.setIfInBounds_toArray, List.set_cons_zero, List.set_cons_succ])
                refine wpAnyH_ready (rs := [7]) (by kernel_rfl) (by simp) ?_
                refine AllReadyH.cons rfl (fun K hK => ?_) AllReadyH.nil
                go_simp
                (try rw [hW7])
                refine hK.out _ _ trivial (fun _ => ?_)
                clear hK K
                (try simp only [Act.put, List.setIfInBounds_toArray, List.set_cons_zero, List.set_cons_succ])
                (refine msg_take (i := 8) (d := some 73) (v := .pointer (some ⟨B13, 1, none⟩)) rfl rfl (by kernel_rfl) (by kernel_rfl) (by kernel_rfl) (fun _ _ _ h => h) (Or.inl ⟨by rfl, ?hy⟩) trivial ?_; (case hy => (intro w hSw; go_simp; try (with_reducible rfl)))); (try simp only [Act.put, List.setIfInBounds_toArray, List.set_cons_zero, List.set_cons_succ])
                refine wpAnyH_ready (rs := [9]) (by kernel_rfl) (by simp) ?_
                refine AllReadyH.cons rfl (fun K hK => ?_) AllReadyH.nil
                go_simp
                refine hK.out _ _ trivial (fun _ => ?_)
                clear hK K
                (try simp only [Act.put, List.setIfInBounds_toArray, List.set_cons_zero, List.set_cons_succ])
                refine wpAnyH_done (by kernel_rfl) ?_ _
                go_wp2_with (fail)
                go_meet
                case rel => exact ⟨by first | rfl | (simp; done), U1, F1, F2, UR, UB⟩
              refine AllReadyH.cons rfl (fun K hK => ?_) AllReadyH.nil
              go_simp
              refine hK.out _ _ trivial (fun _ => ?_)
              clear hK K
              (try simp only [Act.put, List.setIfInBounds_toArray, List.set_cons_zero, List.set_cons_succ])
              refine wpAnyH_ready (rs := [2]) (by kernel_rfl) (by simp) ?_
              refine AllReadyH.cons rfl (fun K hK => ?_) AllReadyH.nil
              go_simp
              (go_at_call 47; refine (clip_fields.calls A5 (x.f3.length + 1) c5 _ hn5 hm5).mono ?_); rintro e w1 ⟨rfl, rfl⟩; (try go_wp2_with (fail))
              refine hK.out _ _ trivial (fun _ => ?_)
              clear hK K
              (try simp only [Act.put, List.setIfInBounds_toArray, List.set_cons_zero, List.set_cons_succ])
              (refine msg_take (i := 6) (d := some 72) (v := .pointer (some ⟨B13, 0, none⟩)) rfl rfl (by kernel_rfl) (by kernel_rfl) (by kernel_rfl) (fun _ _ _ h => h) (Or.inl ⟨by rfl, ?hy⟩) trivial ?_; (case hy => (intro w hSw; go_simp; try (with_reducible rfl)))); (try simp only [Act.put, List.setIfInBounds_toArray, List.set_cons_zero, List.set_cons_succ])
              refine wpAnyH_ready (rs := [5]) (by kernel_rfl) (by simp) ?_
              refine AllReadyH.cons rfl (fun K hK => ?_) AllReadyH.nil
              go_simp
              (go_at_call 48; refine (clip_bytes.calls A6 Y.length c6 _ hn6 hm6).mono ?_); rintro e w1 ⟨rfl, rfl⟩; (try go_wp2_with (fail))
              refine hK.out _ _ trivial (fun _ => ?_)
              clear hK K
              (try simp only [Act.put, List.setIfInBounds_toArray, List.set_cons_zero, List.set_cons_succ])
              refine wpAnyH_ready (rs := [7]) (by kernel_rfl) (by simp) ?_
              refine AllReadyH.cons rfl (fun K hK => ?_) AllReadyH.nil
              go_simp
              (try rw [hW7])
              refine hK.out _ _ trivial (fun _ => ?_)
              clear hK K
              (try simp only [Act.put, List.setIfInBounds_toArray, List.set_cons_zero, List.set_cons_succ])
              (refine msg_take (i := 8) (d := some 73) (v := .pointer (some ⟨B13, 1, none⟩)) rfl rfl (by kernel_rfl) (by kernel_rfl) (by kernel_rfl) (fun _ _ _ h => h) (Or.inl ⟨by rfl, ?hy⟩) trivial ?_; (case hy => (intro w hSw; go_simp; try (with_reducible rfl)))); (try simp only [Act.put, List.setIfInBounds_toArray, List.set_cons_zero, List.set_cons_succ])
              refine wpAnyH_ready (rs := [9]) (by kernel_rfl) (by simp) ?_
              refine AllReadyH.cons rfl (fun K hK => ?_) AllReadyH.nil
              go_simp
              refine hK.out _ _ trivial (fun _ => ?_)
              clear hK K
              (try simp only [Act.put, List.setIfInBounds_toArray, List.set_cons_zero, List.set_cons_succ])
              refine wpAnyH_done (by kernel_rfl) ?_ _
              go_wp2_with (fail)
              go_meet
              case rel => exact ⟨by first | rfl | (simp; done), U1, F1, F2, UR, UB⟩
            refine AllReadyH.cons rfl (fun K hK => ?_) AllReadyH.nil
            go_simp
            refine hK.out _ _ trivial (fun _ => ?_)
            clear hK K
            (try simp only [Act.put, List.setIfInBounds_toArray, List.set_cons_zero, List.set_cons_succ])
            refine wpAnyH_ready (rs := [1]) (by kernel_rfl) (by simp) ?_
            refine AllReadyH.cons rfl (fun K hK => ?_) AllReadyH.nil
            go_simp
            refine hK.out _ _ trivial (fun _ => ?_)
            clear hK K
            (try simp only [Act.put, List.setIfInBounds_toArray, List.set_cons_zero, List.set_cons_succ])
            refine wpAnyH_ready (rs := [2]) (by kernel_rfl) (by simp) ?_
            refine AllReadyH.cons rfl (fun K hK => ?_) AllReadyH.nil
            go_simp
            (go_at_call 47; refine (clip_fields.calls A5 (x.f3.length + 1) c5 _ hn5 hm5).mono ?_); rintro e w1 ⟨rfl, rfl⟩; (try go_wp2_with (fail))
            refine hK.out _ _ trivial (fun _ => ?_)
            clear hK K
            (try simp only [Act.put, List.setIfInBounds_toArray, List.set_cons_zero, List.set_cons_succ])
            (refine msg_take (i := 6) (d := some 72) (v := .pointer (some ⟨B13, 0, none⟩)) rfl rfl (by kernel_rfl) (by kernel_rfl) (by kernel_rfl) (fun _ _ _ h => h) (Or.inl ⟨by rfl, ?hy⟩) trivial ?_; (case hy => (intro w hSw; go_simp; try (with_reducible rfl)))); (try simp only [Act.put, List.setIfInBounds_toArray, List.set_cons_zero, List.set_cons_succ])
            refine wpAnyH_ready (rs := [5]) (by kernel_rfl) (by simp) ?_
            refine AllReadyH.cons rfl (fun K hK => ?_) AllReadyH.nil
            go_simp
            (go_at_call 48; refine (clip_bytes.calls A6 Y.length c6 _ hn6 hm6).mono ?_); rintro e w1 ⟨rfl, rfl⟩; (try go_wp2_with (fail))
            refine hK.out _ _ trivial (fun _ => ?_)
            clear hK K
            (try simp only [Act.put, List.setIfInBounds_toArray, List.set_cons_zero, List.set_cons_succ])
            refine wpAnyH_ready (rs := [7]) (by kernel_rfl) (by simp) ?_
            refine AllReadyH.cons rfl (fun K hK => ?_) AllReadyH.nil
            go_simp
            (try rw [hW7])
            refine hK.out _ _ trivial (fun _ => ?_)
            clear hK K
            (try simp only [Act.put, List.setIfInBounds_toArray, List.set_cons_zero, List.set_cons_succ])
            (refine msg_take (i := 8) (d := some 73) (v := .pointer (some ⟨B13, 1, none⟩)) rfl rfl (by kernel_rfl) (by kernel_rfl) (by kernel_rfl) (fun _ _ _ h => h) (Or.inl ⟨by rfl, ?hy⟩) trivial ?_; (case hy => (intro w hSw; go_simp; try (with_reducible rfl)))); (try simp only [Act.put, List.setIfInBounds_toArray, List.set_cons_zero, List.set_cons_succ])
            refine wpAnyH_ready (rs := [9]) (by kernel_rfl) (by simp) ?_
            refine AllReadyH.cons rfl (fun K hK => ?_) AllReadyH.nil
            go_simp
            refine hK.out _ _ trivial (fun _ => ?_)
            clear hK K
            (try simp only [Act.put, List.setIfInBounds_toArray, List.set_cons_zero, List.set_cons_succ])
            refine wpAnyH_done (by kernel_rfl) ?_ _
            go_wp2_with (fail)
            go_meet
            case rel => exact ⟨by first | rfl | (simp; done), U1, F1, F2, UR, UB⟩
          case rest =>
            obtain ⟨rfl, BKo, HO1, HO2, BKr, HBw⟩ := hcut
            obtain ⟨⟨p1, p2⟩, hp, h⟩ := Option.bind_eq_some_iff.mp H.out
            have HP := Aside0.mk hp
            have HH := Aside0.mk h
            clear hp h H
            have PRS := Aside0.mk (show ∀ W : World, Kd.C k62 W A5 (ans_status x.f2 :: x.f3).length (ans_status x.f2 :: x.f3) → Kd.C (Kd.int .u8) W A6 Y.length Y → MsgTab W → Calls Tryz.prog 8 #[.agg #[(.slice A5 (x.f3.length + 1) (x.f3.length + 1)), (.slice A6 Y.length Y.length), (.slice none 0 0)]] W fun e w' => e = .returned (.tuple #[.int .i64 p1, .int .i64 p2]) ∧ Below W.heap.size W w' from fun W g1 g2 g3 => message_Response.calls A5 (x.f3.length + 1) (ans_status x.f2 :: x.f3) A6 Y.length Y none 0 [] p1 p2 W g1 (Nat.le_refl _) g2 (Nat.le_refl _) ⟨rfl, by simp, fun h => by simp at h⟩ (Nat.le_refl _) g3 HP.out)
            have o0 : wc.cell? ⟨B13, 0, none⟩ = some (.slice A5 (x.f3.length + 1) (x.f3.length + 1)) := (blk_cell BKo.out 0).trans rfl
            have o1 : wc.cell? ⟨B13, 1, none⟩ = some (.slice A6 Y.length Y.length) := (blk_cell BKo.out 1).trans rfl
            have o2 : wc.cell? ⟨B13, 2, none⟩ = some (.slice none 0 0) := (blk_cell BKo.out 2).trans rfl
            go_upto_region 15 with (first | (go_at_call 8; (with_reducible refine (PRS.out _ (Kd.R_reads' HO1.out).2.2 (Kd.R_reads' HO2.out).2.2 (HT.out.below HBw.out)).mono ?_); rintro e w14 ⟨rfl, hb⟩; have HBx := Aside0.mk (below_step HBw.out hb); have BKo4 := Aside0.mk (blk_below BKo.out hb); have BKr4 := Aside0.mk (blk_below BKr.out hb); have HO14 := Aside0.mk (Kd.R_below HO1.out hb); have HO24 := Aside0.mk (Kd.R_below HO2.out hb); clear hb))
            clear o0 o1 o2
            have o0 : w14.cell? ⟨B13, 0, none⟩ = some (.slice A5 (x.f3.length + 1) (x.f3.length + 1)) := (blk_cell BKo4.out 0).trans rfl
            have o1 : w14.cell? ⟨B13, 1, none⟩ = some (.slice A6 Y.length Y.length) := (blk_cell BKo4.out 1).trans rfl
            have o2 : w14.cell? ⟨B13, 2, none⟩ = some (.slice none 0 0) := (blk_cell BKo4.out 2).trans rfl
            have zr0 : w14.cell? ⟨w.heap.size + 1, 0, none⟩ = some (.slice none 0 0) ∧ w14.frozen? ⟨w.heap.size + 1, 0, none⟩ = false := ⟨(blk_cell BKr4.out 0).trans rfl, blk_frozen BKr4.out 0⟩
            have zr1 : w14.cell? ⟨w.heap.size + 1, 1, none⟩ = some (.slice none 0 0) ∧ w14.frozen? ⟨w.heap.size + 1, 1, none⟩ = false := ⟨(blk_cell BKr4.out 1).trans rfl, blk_frozen BKr4.out 1⟩
            have zr2 : w14.cell? ⟨w.heap.size + 1, 2, none⟩ = some (.slice none 0 0) ∧ w14.frozen? ⟨w.heap.size + 1, 2, none⟩ = false := ⟨(blk_cell BKr4.out 2).trans rfl, blk_frozen BKr4.out 2⟩
            by_cases hp2 : p2 = 0
            · subst hp2
              have hh := HH.out
              rw [if_pos rfl] at hh
              obtain ⟨h1, rfl⟩ := Prod.mk.inj (Option.some.inj hh)
              obtain ⟨rfl, rfl⟩ := Prod.mk.inj h1
              clear hh h1 HH
              have C1 := Aside0.mk (Kd.R_reads' (Kd.R_far (p := ⟨w.heap.size + 1, 2, none⟩) (Kd.R_far (p := ⟨w.heap.size + 1, 1, none⟩) (Kd.R_far (p := ⟨w.heap.size + 1, 0, none⟩) (Kd.R_types HO14.out BKr4.out (by decide)) (fun _ hk => hk.2) (.slice A5 (x.f3.length + 1) (x.f3.length + 1))) (fun _ hk => hk.2) (.slice A6 Y.length Y.length)) (fun _ hk => hk.2) (.slice none 0 0)))
              have C2 := Aside0.mk (Kd.R_reads' (Kd.R_far (p := ⟨w.heap.size + 1, 2, none⟩) (Kd.R_far (p := ⟨w.heap.size + 1, 1, none⟩) (Kd.R_far (p := ⟨w.heap.size + 1, 0, none⟩) (Kd.R_types HO24.out BKr4.out (by decide)) (fun _ hk => hk.2) (.slice A5 (x.f3.length + 1) (x.f3.length + 1))) (fun _ hk => hk.2) (.slice A6 Y.length Y.length)) (fun _ hk => hk.2) (.slice none 0 0)))
              obtain ⟨s1, s2⟩ := msg_store3 (.slice A5 (x.f3.length + 1) (x.f3.length + 1)) (.slice A6 Y.length Y.length) (.slice none 0 0) BKr4.out
              have S1 := Aside0.mk s1
              have SB := Aside0.mk (show Below w.heap.size w (((w14.setCell ⟨w.heap.size + 1, 0, none⟩ (.slice A5 (x.f3.length + 1) (x.f3.length + 1))).setCell ⟨w.heap.size + 1, 1, none⟩ (.slice A6 Y.length Y.length)).setCell ⟨w.heap.size + 1, 2, none⟩ (.slice none 0 0)) from ((HBx.out.setCell (p := ⟨w.heap.size + 1, 0, none⟩) (Nat.le_succ _) _).setCell (p := ⟨w.heap.size + 1, 1, none⟩) (Nat.le_succ _) _).setCell (p := ⟨w.heap.size + 1, 2, none⟩) (Nat.le_succ _) _)
              clear s1 s2
              go_wp2_with (fail)
              refine bodyPost_ret (results_list (rs := [.cell 4 25, .tmp 5]) rfl (by simp) (.cell (w.heap.size + 1) 25 _ (0, 0) _ rfl S1.out Tryz.underlying25 rfl (by kernel_rfl) (.tmp .nil))) rfl ?_
              exact ⟨⟨A5, (x.f3.length + 1), A6, Y.length, rfl, C1.out.2.2, Nat.le_refl _, C2.out.2.2, Nat.le_refl _⟩, SB.out⟩
            · have hh := HH.out
              rw [if_neg hp2] at hh
              obtain ⟨h1, rfl⟩ := Prod.mk.inj (Option.some.inj hh)
              obtain ⟨rfl, rfl⟩ := Prod.mk.inj h1
              have f0 : (p2 == 0) = false := beq_false_of_ne hp2
              clear hh h1 HH hp2
              obtain ⟨s1, s2⟩ := msg_store3 (.slice none 0 0) (.slice none 0 0) (.slice none 0 0) BKr4.out
              have S1 := Aside0.mk s1
              have SB := Aside0.mk (show Below w.heap.size w (((w14.setCell ⟨w.heap.size + 1, 0, none⟩ (.slice none 0 0)).setCell ⟨w.heap.size + 1, 1, none⟩ (.slice none 0 0)).setCell ⟨w.heap.size + 1, 2, none⟩ (.slice none 0 0)) from ((HBx.out.setCell (p := ⟨w.heap.size + 1, 0, none⟩) (Nat.le_succ _) _).setCell (p := ⟨w.heap.size + 1, 1, none⟩) (Nat.le_succ _) _).setCell (p := ⟨w.heap.size + 1, 2, none⟩) (Nat.le_succ _) _)
              clear s1 s2
              go_wp2_with (fail)
              refine bodyPost_ret (results_list (rs := [.cell 4 25, .tmp 5]) rfl (by simp) (.cell (w.heap.size + 1) 25 _ (0, 0) _ rfl S1.out Tryz.underlying25 rfl (by kernel_rfl) (.tmp .nil))) rfl ?_
              exact ⟨⟨none, 0, none, 0, rfl, ⟨rfl, by simp, fun h => by simp at h⟩, by simp, ⟨rfl, by simp, fun h => by simp at h⟩, by simp⟩, SB.out⟩
        | true =>
          rw [hf5] at e5
          have hYY : x.f4 ++ l0_1 = Y := by rw [← hY]; unfold ans_body; rw [hf5]; rfl
          have p1 : wc.cell? ⟨B13, 1, none⟩ = some (.slice A6 x.f4.length c6) := (blk_cell BKo.out 1).trans rfl
          have k1w : wc.cell? ⟨w.heap.size, 1, none⟩ = some (.slice A0_1 l0_1.length c0_1) := (blk_cell BKm.out 1).trans rfl
          have HC1 := Aside0.mk (Kd.C_below HR1.out HBw.out)
          have HYY := Aside0.mk hYY
          clear hYY hY
          have NE := Aside0.mk (show ∀ k, (Value.slice A6 x.f4.length c6).ownBlock = some k → k ≠ w.heap.size + 1 ∧ k ≠ B13 from fun k hk => by
            obtain ⟨cs, hcs⟩ := Kd.R_typed HO2.out k hk
            refine ⟨fun e => ?_, (HO2.out.1 k hk).2⟩
            subst e
            rw [BKr.out] at hcs
            cases hcs)
          go_upto_region 13 with (first | ((with_reducible refine gate_builtin (b := .append) (xs := #[.tmp 61, .tmp 63]) rfl ?_); (try (refine gate_guard (by rfl) ?_; dsimp only)); at_builtin; refine Kd.R_append_rows (Kd.int .u8) (Rr := (Kd.int .u8).K wc) (w0 := wc) b7 rfl (.tmp 61) (.tmp 63) 23 5 (.int .u8 0) 1 rfl Tryz.underlying23 clip_info5 rfl (by decide) (by omega) (.slice A6 x.f4.length c6) x.f4 l0_1 A0_1 l0_1.length c0_1 (fun k => True ∧ k ≠ B13) (fun _ => False) rfl rfl HO2.out ?aR ?aK (fun _ hk => hk.elim) (fun _ _ => ⟨trivial, by have := (Array.getElem?_eq_some_iff.1 BKo.out).1; omega⟩) ?aB ?aS ?aL ?_; (case aR => exact HC1.out); (case aK => (intro x cs hx; exact hx)); (case aB => exact Below.refl _ _); (case aS => exact hb7); (case aL => (simp; omega)); intro v2 w2 ho hb hg hat; rw [HYY.out] at ho; obtain ⟨A8, c8, e8⟩ := Kd.R_slice ho; subst e8; have HO2n := Aside0.mk ho; have g13 := Aside0.mk (show w2.heap[B13]? = some (.cells #[.slice A5 (x.f3.length + 1) c5, .slice A6 x.f4.length c6, .slice none 0 0] 25 (0, 0)) from (hg.block _ (Array.getElem?_eq_some_iff.1 BKo.out).1 (fun e => (NE.out _ e.symm).2 rfl)).trans BKo.out); have BKrn := Aside0.mk ((hg.block _ (Array.getElem?_eq_some_iff.1 BKr.out).1 (fun e => (NE.out _ e.symm).1 rfl)).trans BKr.out); have HO1n := Aside0.mk (Kd.R_over' HO1.out (Kd.R_typed HO2.out) (by decide) hg); have HBn := Aside0.mk (show Below w.heap.size w w2 from HBw.out.trans ⟨hb.os, hb.tape, hb.output, hb.size, fun k hk => hb.block k (by omega)⟩); clear ho hb hg hat; have q1 : w2.cell? ⟨B13, 1, none⟩ = some (.slice A6 x.f4.length c6) ∧ w2.frozen? ⟨B13, 1, none⟩ = false := ⟨(blk_cell g13.out 1).trans rfl, blk_frozen g13.out 1⟩))
          obtain ⟨s1, s2⟩ := msg_store1 1 (.slice A8 Y.length c8) g13.out
          obtain ⟨wn, hwn⟩ : ∃ z_, w2.setCell ⟨B13, 1, none⟩ (.slice A8 Y.length c8) = z_ := ⟨_, rfl⟩
          rw [hwn] at s1 s2
          rw [hwn]
          have BKo := Aside0.mk (show wn.heap[B13]? = some (.cells #[.slice A5 (x.f3.length + 1) c5, .slice A8 Y.length c8, .slice none 0 0] 25 (0, 0)) from s1)
          have BKr := Aside0.mk ((s2 _ (by omega)).trans BKrn.out)
          have HO1 := Aside0.mk (show Kd.R k62 62 wn w.heap.size (fun k => True ∧ k ≠ B13) (.slice A5 (x.f3.length + 1) c5) (ans_status x.f2 :: x.f3) by rw [← hwn]; exact Kd.R_far (p := ⟨B13, 1, none⟩) HO1n.out (fun _ hk => hk.2) _)
          have HO2 := Aside0.mk (show Kd.R (Kd.int .u8) 5 wn b7 (fun k => True ∧ k ≠ B13) (.slice A8 Y.length c8) Y by rw [← hwn]; exact Kd.R_far (p := ⟨B13, 1, none⟩) HO2n.out (fun _ hk => hk.2) _)
          have HBw := Aside0.mk (show Below w.heap.size w wn by rw [← hwn]; exact HBn.out.setCell (p := ⟨B13, 1, none⟩) (by show w.heap.size ≤ B13; omega) _)
          have hn5 := (Kd.R_reads' HO1.out).2.1
          have hn6 := (Kd.R_reads' HO2.out).2.1
          have hm5 : x.f3.length + 1 ≤ 9223372036854775807 := by omega
          have hm6 : Y.length ≤ 9223372036854775807 := by omega
          clear s1 s2 hwn q1 p1 k1w e5 BK12 NE HC1 g13 BKrn HO1n HO2n HBn
          go_cut [13] (fun v13 wd => v13 = .pointer (some ⟨B13, 0, none⟩) ∧ Aside0 (wd.heap[B13]? = some (.cells #[(.slice A5 (x.f3.length + 1) (x.f3.length + 1)), (.slice A8 Y.length Y.length), (.slice none 0 0)] 25 (0, 0))) ∧ Aside0 (Kd.R k62 62 wd w.heap.size (fun k => True ∧ k ≠ B13) (.slice A5 (x.f3.length + 1) c5) (ans_status x.f2 :: x.f3)) ∧ Aside0 (Kd.R (Kd.int .u8) 5 wd b7 (fun k => True ∧ k ≠ B13) (.slice A8 Y.length c8) Y) ∧ Aside0 (wd.heap[w.heap.size + 1]? = some (.cells #[.slice none 0 0, .slice none 0 0, .slice none 0 0] 25 (0, 0))) ∧ Aside0 (Below w.heap.size w wd))
          case first =>
            refine wp_region_held_drew (S := fun _ => True) (by kernel_rfl) trivial (fun _ => ?_)
            obtain ⟨R2, hR2⟩ : ∃ z_, wn.drew = z_ := ⟨_, rfl⟩
            have BKo := Aside0.mk (show R2.heap[B13]? = some (.cells #[(.slice A5 (x.f3.length + 1) c5), (.slice A8 Y.length c8), (.slice none 0 0)] 25 (0, 0)) by rw [← hR2]; exact BKo.out)
            have BKr := Aside0.mk (show R2.heap[w.heap.size + 1]? = some (.cells #[.slice none 0 0, .slice none 0 0, .slice none 0 0] 25 (0, 0)) by rw [← hR2]; exact BKr.out)
            have HO1 := Aside0.mk (show Kd.R k62 62 R2 w.heap.size (fun k => True ∧ k ≠ B13) (.slice A5 (x.f3.length + 1) c5) (ans_status x.f2 :: x.f3) by rw [← hR2]; exact Kd.R_drew HO1.out)
            have HO2 := Aside0.mk (show Kd.R (Kd.int .u8) 5 R2 b7 (fun k => True ∧ k ≠ B13) (.slice A8 Y.length c8) Y by rw [← hR2]; exact Kd.R_drew HO2.out)
            have HBw := Aside0.mk (show Below w.heap.size w R2 by rw [← hR2]; exact below_drew1 HBw.out)
            have z0 : R2.cell? ⟨B13, 0, none⟩ = some (.slice A5 (x.f3.length + 1) c5) ∧ R2.frozen? ⟨B13, 0, none⟩ = false := ⟨(blk_cell BKo.out 0).trans rfl, blk_frozen BKo.out 0⟩
            have z1 : R2.cell? ⟨B13, 1, none⟩ = some (.slice A8 Y.length c8) := (blk_cell BKo.out 1).trans rfl
            obtain ⟨s1, s2⟩ := msg_store1 0 (.slice A5 (x.f3.length + 1) (x.f3.length + 1)) BKo.out
            obtain ⟨W7, hW7⟩ : ∃ z_, R2.setCell ⟨B13, 0, none⟩ (.slice A5 (x.f3.length + 1) (x.f3.length + 1)) = z_ := ⟨_, rfl⟩
            rw [hW7] at s1 s2
            have s1' : W7.heap[B13]? = some (.cells #[(.slice A5 (x.f3.length + 1) (x.f3.length + 1)), (.slice A8 Y.length c8), (.slice none 0 0)] 25 (0, 0)) := s1
            have z7 : W7.cell? ⟨B13, 1, none⟩ = some (.slice A8 Y.length c8) ∧ W7.frozen? ⟨B13, 1, none⟩ = false := ⟨(blk_cell s1' 1).trans rfl, blk_frozen s1' 1⟩
            obtain ⟨u1, u2⟩ := msg_store1 1 (.slice A8 Y.length Y.length) s1'
            have U1 := Aside0.mk (show (W7.setCell ⟨B13, 1, none⟩ (.slice A8 Y.length Y.length)).heap[B13]? = some (.cells #[(.slice A5 (x.f3.length + 1) (x.f3.length + 1)), (.slice A8 Y.length Y.length), (.slice none 0 0)] 25 (0, 0)) from u1)
            have Ga : Kd.R k62 62 W7 w.heap.size (fun k => True ∧ k ≠ B13) (.slice A5 (x.f3.length + 1) c5) (ans_status x.f2 :: x.f3) := by rw [← hW7]; exact Kd.R_far (p := ⟨B13, 0, none⟩) HO1.out (fun _ hk => hk.2) (.slice A5 (x.f3.length + 1) (x.f3.length + 1))
            have Gb : Kd.R (Kd.int .u8) 5 W7 b7 (fun k => True ∧ k ≠ B13) (.slice A8 Y.length c8) Y := by rw [← hW7]; exact Kd.R_far (p := ⟨B13, 0, none⟩) HO2.out (fun _ hk => hk.2) (.slice A5 (x.f3.length + 1) (x.f3.length + 1))
            have F1 := Aside0.mk (Kd.R_far (p := ⟨B13, 1, none⟩) Ga (fun _ hk => hk.2) (.slice A8 Y.length Y.length))
            have F2 := Aside0.mk (Kd.R_far (p := ⟨B13, 1, none⟩) Gb (fun _ hk => hk.2) (.slice A8 Y.length Y.length))
            have UR := Aside0.mk ((u2 (w.heap.size + 1) (by omega)).trans ((s2 (w.heap.size + 1) (by omega)).trans BKr.out))
            have UB := Aside0.mk (show Below w.heap.size w (W7.setCell ⟨B13, 1, none⟩ (.slice A8 Y.length Y.length)) from (show Below w.heap.size w W7 by rw [← hW7]; exact HBw.out.setCell (p := ⟨B13, 0, none⟩) (by show w.heap.size ≤ B13; omega) _).setCell (p := ⟨B13, 1, none⟩) (by show w.heap.size ≤ B13; omega) _)
            clear s1 s2 s1' u1 u2 Ga Gb
            rw [hR2]
            (refine msg_take (i := 0) (d := some 66) (v := .pointer (some ⟨B13, 0, none⟩)) rfl rfl (by kernel_rfl) (by kernel_rfl) (by kernel_rfl) (fun _ _ _ h => h) (Or.inl ⟨by rfl, ?hy⟩) trivial ?_; (case hy => (intro w hSw; go_simp; try (with_reducible rfl)))); (try simp only [Act.put, List.setIfInBounds_toArray, List.set_cons_zero, List.set_cons_succ])
            (refine msg_take (i := 3) (d := some 69) (v := .pointer (some ⟨B13, 1, none⟩)) rfl rfl (by kernel_rfl) (by kernel_rfl) (by kernel_rfl) (fun _ _ _ h => h) (Or.inl ⟨by rfl, ?hy⟩) trivial ?_; (case hy => (intro w hSw; go_simp; try (with_reducible rfl)))); (try simp only [Act.put, List.setIfInBounds_toArray, List.set_cons_zero, List.set_cons_succ])
            refine wpAnyH_ready (rs := [1, 4]) (by kernel_rfl) (by simp) ?_
            refine AllReadyH.cons rfl (fun K hK => ?_) ?_
            · skip
              go_simp
              refine hK.out _ _ trivial (fun _ => ?_)
              clear hK K
              (try simp only [Act.put, List.setIfInBounds_toArray, List.set_cons_zero, List.set_cons_succ])
              refine wpAnyH_ready (rs := [2, 4]) (by kernel_rfl) (by simp) ?_
              refine AllReadyH.cons rfl (fun K hK => ?_) ?_
              · skip
                go_simp
                (go_at_call 47; refine (clip_fields.calls A5 (x.f3.length + 1) c5 _ hn5 hm5).mono ?_); rintro e w1 ⟨rfl, rfl⟩; (try go_wp2_with (fail))
                refine hK.out _ _ trivial (fun _ => ?_)
                clear hK K
                (try simp only [Act.put, List.setIfInBounds_toArray, List.set_cons_zero, List.set_cons_succ])
                refine wpAnyH_ready (rs := [4]) (by kernel_rfl) (by simp) ?_
                refine AllReadyH.cons rfl (fun K hK => ?_) AllReadyH.nil
                go_simp
                refine hK.out _ _ trivial (fun _ => ?_)
                clear hK K
                (try simp only [Act.put, List.setIfInBounds_toArray, List.set_cons_zero, List.set_cons_succ])
                (refine msg_take (i := 6) (d := some 72) (v := .pointer (some ⟨B13, 0, none⟩)) rfl rfl (by kernel_rfl) (by kernel_rfl) (by kernel_rfl) (fun _ _ _ h => h) (Or.inl ⟨by rfl, ?hy⟩) trivial ?_; (case hy => (intro w hSw; go_simp; try (with_reducible rfl)))); (try simp only [Act.put, List.setIfInBounds_toArray, List.set_cons_zero, List.set_cons_succ])
                refine wpAnyH_ready (rs := [5]) (by kernel_rfl) (by simp) ?_
                refine AllReadyH.cons rfl (fun K hK => ?_) AllReadyH.nil
                go_simp
                (go_at_call 48; refine (clip_bytes.calls A8 Y.length c8 _ hn6 hm6).mono ?_); rintro e w1 ⟨rfl, rfl⟩; (try go_wp2_with (fail))
                refine hK.out _ _ trivial (fun _ => ?_)
                clear hK K
                (try simp only [Act.put, List.setIfInBounds_toArray, List.set_cons_zero, List.set_cons_succ])
                refine wpAnyH_ready (rs := [7]) (by kernel_rfl) (by simp) ?_
                refine AllReadyH.cons rfl (fun K hK => ?_) AllReadyH.nil
                go_simp
                (try rw [hW7])
                refine hK.out _ _ trivial (fun _ => ?_)
                clear hK K
                (try simp only [Act.put, List.setIfInBounds_toArray, List.set_cons_zero, List.set_cons_succ])
                (refine msg_take (i := 8) (d := some 73) (v := .pointer (some ⟨B13, 1, none⟩)) rfl rfl (by kernel_rfl) (by kernel_rfl) (by kernel_rfl) (fun _ _ _ h => h) (Or.inl ⟨by rfl, ?hy⟩) trivial ?_; (case hy => (intro w hSw; go_simp; try (with_reducible rfl)))); (try simp only [Act.put, List.setIfInBounds_toArray, List.set_cons_zero, List.set_cons_succ])
                refine wpAnyH_ready (rs := [9]) (by kernel_rfl) (by simp) ?_
                refine AllReadyH.cons rfl (fun K hK => ?_) AllReadyH.nil
                go_simp
                refine hK.out _ _ trivial (fun _ => ?_)
                clear hK K
                (try simp only [Act.put, List.setIfInBounds_toArray, List.set_cons_zero, List.set_cons_succ])
                refine wpAnyH_done (by kernel_rfl) ?_ _
                go_wp2_with (fail)
                go_meet
                case rel => exact ⟨by first | rfl | (simp; done), U1, F1, F2, UR, UB⟩
              refine AllReadyH.cons rfl (fun K hK => ?_) AllReadyH.nil
              go_simp
              refine hK.out _ _ trivial (fun _ => ?_)
              clear hK K
              (try simp only [Act.put, List.setIfInBounds_toArray, List.set_cons_zero, List.set_cons_succ])
              refine wpAnyH_ready (rs := [2]) (by kernel_rfl) (by simp) ?_
              refine AllReadyH.cons rfl (fun K hK => ?_) AllReadyH.nil
              go_simp
              (go_at_call 47; refine (clip_fields.calls A5 (x.f3.length + 1) c5 _ hn5 hm5).mono ?_); rintro e w1 ⟨rfl, rfl⟩; (try go_wp2_with (fail))
              refine hK.out _ _ trivial (fun _ => ?_)
              clear hK K
              (try simp only [Act.put, List.setIfInBounds_toArray, List.set_cons_zero, List.set_cons_succ])
              (refine msg_take (i := 6) (d := some 72) (v := .pointer (some ⟨B13, 0, none⟩)) rfl rfl (by kernel_rfl) (by kernel_rfl) (by kernel_rfl) (fun _ _ _ h => h) (Or.inl ⟨by rfl, ?hy⟩) trivial ?_; (case hy => (intro w hSw; go_simp; try (with_reducible rfl)))); (try simp only [Act.put, List.setIfInBounds_toArray, List.set_cons_zero, List.set_cons_succ])
              refine wpAnyH_ready (rs := [5]) (by kernel_rfl) (by simp) ?_
              refine AllReadyH.cons rfl (fun K hK => ?_) AllReadyH.nil
              go_simp
              (go_at_call 48; refine (clip_bytes.calls A8 Y.length c8 _ hn6 hm6).mono ?_); rintro e w1 ⟨rfl, rfl⟩; (try go_wp2_with (fail))
              refine hK.out _ _ trivial (fun _ => ?_)
              clear hK K
              (try simp only [Act.put, List.setIfInBounds_toArray, List.set_cons_zero, List.set_cons_succ])
              refine wpAnyH_ready (rs := [7]) (by kernel_rfl) (by simp) ?_
              refine AllReadyH.cons rfl (fun K hK => ?_) AllReadyH.nil
              go_simp
              (try rw [hW7])
              refine hK.out _ _ trivial (fun _ => ?_)
              clear hK K
              (try simp only [Act.put, List.setIfInBounds_toArray, List.set_cons_zero, List.set_cons_succ])
              (refine msg_take (i := 8) (d := some 73) (v := .pointer (some ⟨B13, 1, none⟩)) rfl rfl (by kernel_rfl) (by kernel_rfl) (by kernel_rfl) (fun _ _ _ h => h) (Or.inl ⟨by rfl, ?hy⟩) trivial ?_; (case hy => (intro w hSw; go_simp; try (with_reducible rfl)))); (try simp only [Act.put, List.setIfInBounds_toArray, List.set_cons_zero, List.set_cons_succ])
              refine wpAnyH_ready (rs := [9]) (by kernel_rfl) (by simp) ?_
              refine AllReadyH.cons rfl (fun K hK => ?_) AllReadyH.nil
              go_simp
              refine hK.out _ _ trivial (fun _ => ?_)
              clear hK K
              (try simp only [Act.put, List.setIfInBounds_toArray, List.set_cons_zero, List.set_cons_succ])
              refine wpAnyH_done (by kernel_rfl) ?_ _
              go_wp2_with (fail)
              go_meet
              case rel => exact ⟨by first | rfl | (simp; done), U1, F1, F2, UR, UB⟩
            refine AllReadyH.cons rfl (fun K hK => ?_) AllReadyH.nil
            go_simp
            refine hK.out _ _ trivial (fun _ => ?_)
            clear hK K
            (try simp only [Act.put, List.setIfInBounds_toArray, List.set_cons_zero, List.set_cons_succ])
            refine wpAnyH_ready (rs := [1]) (by kernel_rfl) (by simp) ?_
            refine AllReadyH.cons rfl (fun K hK => ?_) AllReadyH.nil
            go_simp
            refine hK.out _ _ trivial (fun _ => ?_)
            clear hK K
            (try simp only [Act.put, List.setIfInBounds_toArray, List.set_cons_zero, List.set_cons_succ])
            refine wpAnyH_ready (rs := [2]) (by kernel_rfl) (by simp) ?_
            refine AllReadyH.cons rfl (fun K hK => ?_) AllReadyH.nil
            go_simp
            (go_at_call 47; refine (clip_fields.calls A5 (x.f3.length + 1) c5 _ hn5 hm5).mono ?_); rintro e w1 ⟨rfl, rfl⟩; (try go_wp2_with (fail))
            refine hK.out _ _ trivial (fun _ => ?_)
            clear hK K
            (try simp only [Act.put, List.setIfInBounds_toArray, List.set_cons_zero, List.set_cons_succ])
            (refine msg_take (i := 6) (d := some 72) (v := .pointer (some ⟨B13, 0, none⟩)) rfl rfl (by kernel_rfl) (by kernel_rfl) (by kernel_rfl) (fun _ _ _ h => h) (Or.inl ⟨by rfl, ?hy⟩) trivial ?_; (case hy => (intro w hSw; go_simp; try (with_reducible rfl)))); (try simp only [Act.put, List.setIfInBounds_toArray, List.set_cons_zero, List.set_cons_succ])
            refine wpAnyH_ready (rs := [5]) (by kernel_rfl) (by simp) ?_
            refine AllReadyH.cons rfl (fun K hK => ?_) AllReadyH.nil
            go_simp
            (go_at_call 48; refine (clip_bytes.calls A8 Y.length c8 _ hn6 hm6).mono ?_); rintro e w1 ⟨rfl, rfl⟩; (try go_wp2_with (fail))
            refine hK.out _ _ trivial (fun _ => ?_)
            clear hK K
            (try simp only [Act.put, List.setIfInBounds_toArray, List.set_cons_zero, List.set_cons_succ])
            refine wpAnyH_ready (rs := [7]) (by kernel_rfl) (by simp) ?_
            refine AllReadyH.cons rfl (fun K hK => ?_) AllReadyH.nil
            go_simp
            (try rw [hW7])
            refine hK.out _ _ trivial (fun _ => ?_)
            clear hK K
            (try simp only [Act.put, List.setIfInBounds_toArray, List.set_cons_zero, List.set_cons_succ])
            (refine msg_take (i := 8) (d := some 73) (v := .pointer (some ⟨B13, 1, none⟩)) rfl rfl (by kernel_rfl) (by kernel_rfl) (by kernel_rfl) (fun _ _ _ h => h) (Or.inl ⟨by rfl, ?hy⟩) trivial ?_; (case hy => (intro w hSw; go_simp; try (with_reducible rfl)))); (try simp only [Act.put, List.setIfInBounds_toArray, List.set_cons_zero, List.set_cons_succ])
            refine wpAnyH_ready (rs := [9]) (by kernel_rfl) (by simp) ?_
            refine AllReadyH.cons rfl (fun K hK => ?_) AllReadyH.nil
            go_simp
            refine hK.out _ _ trivial (fun _ => ?_)
            clear hK K
            (try simp only [Act.put, List.setIfInBounds_toArray, List.set_cons_zero, List.set_cons_succ])
            refine wpAnyH_done (by kernel_rfl) ?_ _
            go_wp2_with (fail)
            go_meet
            case rel => exact ⟨by first | rfl | (simp; done), U1, F1, F2, UR, UB⟩
          case rest =>
            obtain ⟨rfl, BKo, HO1, HO2, BKr, HBw⟩ := hcut
            obtain ⟨⟨p1, p2⟩, hp, h⟩ := Option.bind_eq_some_iff.mp H.out
            have HP := Aside0.mk hp
            have HH := Aside0.mk h
            clear hp h H
            have PRS := Aside0.mk (show ∀ W : World, Kd.C k62 W A5 (ans_status x.f2 :: x.f3).length (ans_status x.f2 :: x.f3) → Kd.C (Kd.int .u8) W A8 Y.length Y → MsgTab W → Calls Tryz.prog 8 #[.agg #[(.slice A5 (x.f3.length + 1) (x.f3.length + 1)), (.slice A8 Y.length Y.length), (.slice none 0 0)]] W fun e w' => e = .returned (.tuple #[.int .i64 p1, .int .i64 p2]) ∧ Below W.heap.size W w' from fun W g1 g2 g3 => message_Response.calls A5 (x.f3.length + 1) (ans_status x.f2 :: x.f3) A8 Y.length Y none 0 [] p1 p2 W g1 (Nat.le_refl _) g2 (Nat.le_refl _) ⟨rfl, by simp, fun h => by simp at h⟩ (Nat.le_refl _) g3 HP.out)
            have o0 : wc.cell? ⟨B13, 0, none⟩ = some (.slice A5 (x.f3.length + 1) (x.f3.length + 1)) := (blk_cell BKo.out 0).trans rfl
            have o1 : wc.cell? ⟨B13, 1, none⟩ = some (.slice A8 Y.length Y.length) := (blk_cell BKo.out 1).trans rfl
            have o2 : wc.cell? ⟨B13, 2, none⟩ = some (.slice none 0 0) := (blk_cell BKo.out 2).trans rfl
            go_upto_region 15 with (first | (go_at_call 8; (with_reducible refine (PRS.out _ (Kd.R_reads' HO1.out).2.2 (Kd.R_reads' HO2.out).2.2 (HT.out.below HBw.out)).mono ?_); rintro e w14 ⟨rfl, hb⟩; have HBx := Aside0.mk (below_step HBw.out hb); have BKo4 := Aside0.mk (blk_below BKo.out hb); have BKr4 := Aside0.mk (blk_below BKr.out hb); have HO14 := Aside0.mk (Kd.R_below HO1.out hb); have HO24 := Aside0.mk (Kd.R_below HO2.out hb); clear hb))
            clear o0 o1 o2
            have o0 : w14.cell? ⟨B13, 0, none⟩ = some (.slice A5 (x.f3.length + 1) (x.f3.length + 1)) := (blk_cell BKo4.out 0).trans rfl
            have o1 : w14.cell? ⟨B13, 1, none⟩ = some (.slice A8 Y.length Y.length) := (blk_cell BKo4.out 1).trans rfl
            have o2 : w14.cell? ⟨B13, 2, none⟩ = some (.slice none 0 0) := (blk_cell BKo4.out 2).trans rfl
            have zr0 : w14.cell? ⟨w.heap.size + 1, 0, none⟩ = some (.slice none 0 0) ∧ w14.frozen? ⟨w.heap.size + 1, 0, none⟩ = false := ⟨(blk_cell BKr4.out 0).trans rfl, blk_frozen BKr4.out 0⟩
            have zr1 : w14.cell? ⟨w.heap.size + 1, 1, none⟩ = some (.slice none 0 0) ∧ w14.frozen? ⟨w.heap.size + 1, 1, none⟩ = false := ⟨(blk_cell BKr4.out 1).trans rfl, blk_frozen BKr4.out 1⟩
            have zr2 : w14.cell? ⟨w.heap.size + 1, 2, none⟩ = some (.slice none 0 0) ∧ w14.frozen? ⟨w.heap.size + 1, 2, none⟩ = false := ⟨(blk_cell BKr4.out 2).trans rfl, blk_frozen BKr4.out 2⟩
            by_cases hp2 : p2 = 0
            · subst hp2
              have hh := HH.out
              rw [if_pos rfl] at hh
              obtain ⟨h1, rfl⟩ := Prod.mk.inj (Option.some.inj hh)
              obtain ⟨rfl, rfl⟩ := Prod.mk.inj h1
              clear hh h1 HH
              have C1 := Aside0.mk (Kd.R_reads' (Kd.R_far (p := ⟨w.heap.size + 1, 2, none⟩) (Kd.R_far (p := ⟨w.heap.size + 1, 1, none⟩) (Kd.R_far (p := ⟨w.heap.size + 1, 0, none⟩) (Kd.R_types HO14.out BKr4.out (by decide)) (fun _ hk => hk.2) (.slice A5 (x.f3.length + 1) (x.f3.length + 1))) (fun _ hk => hk.2) (.slice A8 Y.length Y.length)) (fun _ hk => hk.2) (.slice none 0 0)))
              have C2 := Aside0.mk (Kd.R_reads' (Kd.R_far (p := ⟨w.heap.size + 1, 2, none⟩) (Kd.R_far (p := ⟨w.heap.size + 1, 1, none⟩) (Kd.R_far (p := ⟨w.heap.size + 1, 0, none⟩) (Kd.R_types HO24.out BKr4.out (by decide)) (fun _ hk => hk.2) (.slice A5 (x.f3.length + 1) (x.f3.length + 1))) (fun _ hk => hk.2) (.slice A8 Y.length Y.length)) (fun _ hk => hk.2) (.slice none 0 0)))
              obtain ⟨s1, s2⟩ := msg_store3 (.slice A5 (x.f3.length + 1) (x.f3.length + 1)) (.slice A8 Y.length Y.length) (.slice none 0 0) BKr4.out
              have S1 := Aside0.mk s1
              have SB := Aside0.mk (show Below w.heap.size w (((w14.setCell ⟨w.heap.size + 1, 0, none⟩ (.slice A5 (x.f3.length + 1) (x.f3.length + 1))).setCell ⟨w.heap.size + 1, 1, none⟩ (.slice A8 Y.length Y.length)).setCell ⟨w.heap.size + 1, 2, none⟩ (.slice none 0 0)) from ((HBx.out.setCell (p := ⟨w.heap.size + 1, 0, none⟩) (Nat.le_succ _) _).setCell (p := ⟨w.heap.size + 1, 1, none⟩) (Nat.le_succ _) _).setCell (p := ⟨w.heap.size + 1, 2, none⟩) (Nat.le_succ _) _)
              clear s1 s2
              go_wp2_with (fail)
              refine bodyPost_ret (results_list (rs := [.cell 4 25, .tmp 5]) rfl (by simp) (.cell (w.heap.size + 1) 25 _ (0, 0) _ rfl S1.out Tryz.underlying25 rfl (by kernel_rfl) (.tmp .nil))) rfl ?_
              exact ⟨⟨A5, (x.f3.length + 1), A8, Y.length, rfl, C1.out.2.2, Nat.le_refl _, C2.out.2.2, Nat.le_refl _⟩, SB.out⟩
            · have hh := HH.out
              rw [if_neg hp2] at hh
              obtain ⟨h1, rfl⟩ := Prod.mk.inj (Option.some.inj hh)
              obtain ⟨rfl, rfl⟩ := Prod.mk.inj h1
              have f0 : (p2 == 0) = false := beq_false_of_ne hp2
              clear hh h1 HH hp2
              obtain ⟨s1, s2⟩ := msg_store3 (.slice none 0 0) (.slice none 0 0) (.slice none 0 0) BKr4.out
              have S1 := Aside0.mk s1
              have SB := Aside0.mk (show Below w.heap.size w (((w14.setCell ⟨w.heap.size + 1, 0, none⟩ (.slice none 0 0)).setCell ⟨w.heap.size + 1, 1, none⟩ (.slice none 0 0)).setCell ⟨w.heap.size + 1, 2, none⟩ (.slice none 0 0)) from ((HBx.out.setCell (p := ⟨w.heap.size + 1, 0, none⟩) (Nat.le_succ _) _).setCell (p := ⟨w.heap.size + 1, 1, none⟩) (Nat.le_succ _) _).setCell (p := ⟨w.heap.size + 1, 2, none⟩) (Nat.le_succ _) _)
              clear s1 s2
              go_wp2_with (fail)
              refine bodyPost_ret (results_list (rs := [.cell 4 25, .tmp 5]) rfl (by simp) (.cell (w.heap.size + 1) 25 _ (0, 0) _ rfl S1.out Tryz.underlying25 rfl (by kernel_rfl) (.tmp .nil))) rfl ?_
              exact ⟨⟨none, 0, none, 0, rfl, ⟨rfl, by simp, fun h => by simp at h⟩, by simp, ⟨rfl, by simp, fun h => by simp at h⟩, by simp⟩, SB.out⟩
  · rw [if_neg e0] at h
    obtain ⟨h1, rfl⟩ := Prod.mk.inj (Option.some.inj h)
    obtain ⟨rfl, rfl⟩ := Prod.mk.inj h1
    have f0 : (e == 0) = false := beq_false_of_ne e0
    clear h h1 e0
    go_upto_region 3 with (first | (go_at_call 10; (with_reducible refine (message_Request.calls A0_0 c0_0 l0_0 A0_1 c0_1 l0_1 A0_2 c0_2 l0_2 e _ (Kd.C_below HR0.out HB.out) hc0_0 (Kd.C_below HR1.out HB.out) hc0_1 (Kd.C_below HR2.out HB.out) hc0_2 (HT.out.below HB.out) HRQ.out).mono ?_); rintro e q1 ⟨rfl, hb⟩; have HB1 := Aside0.mk (below_step HB.out hb); have k0a := pw_cell_below hb k0; have k1a := pw_cell_below hb k1; have k2a := pw_cell_below hb k2; have BK3a := Aside0.mk (blk_below BK3.out hb); have BK4a := Aside0.mk (blk_below BK4.out hb); clear hb))
    have z0 : q1.cell? ⟨w.heap.size + 1, 0, none⟩ = some (.slice none 0 0) ∧ q1.frozen? ⟨w.heap.size + 1, 0, none⟩ = false := ⟨(blk_cell BK4a.out 0).trans rfl, blk_frozen BK4a.out 0⟩
    have z1 : q1.cell? ⟨w.heap.size + 1, 1, none⟩ = some (.slice none 0 0) ∧ q1.frozen? ⟨w.heap.size + 1, 1, none⟩ = false := ⟨(blk_cell BK4a.out 1).trans rfl, blk_frozen BK4a.out 1⟩
    have z2 : q1.cell? ⟨w.heap.size + 1, 2, none⟩ = some (.slice none 0 0) ∧ q1.frozen? ⟨w.heap.size + 1, 2, none⟩ = false := ⟨(blk_cell BK4a.out 2).trans rfl, blk_frozen BK4a.out 2⟩
    obtain ⟨s1, s2⟩ := msg_store3 (.slice none 0 0) (.slice none 0 0) (.slice none 0 0) BK4a.out
    have S1 := Aside0.mk s1
    have SB := Aside0.mk (show Below w.heap.size w (((q1.setCell ⟨w.heap.size + 1, 0, none⟩ (.slice none 0 0)).setCell ⟨w.heap.size + 1, 1, none⟩ (.slice none 0 0)).setCell ⟨w.heap.size + 1, 2, none⟩ (.slice none 0 0)) from ((HB1.out.setCell (p := ⟨w.heap.size + 1, 0, none⟩) (Nat.le_succ _) _).setCell (p := ⟨w.heap.size + 1, 1, none⟩) (Nat.le_succ _) _).setCell (p := ⟨w.heap.size + 1, 2, none⟩) (Nat.le_succ _) _)
    clear s1 s2
    go_wp2_with (fail)
    refine bodyPost_ret (results_list (rs := [.cell 4 25, .tmp 5]) rfl (by simp) (.cell (w.heap.size + 1) 25 _ (0, 0) _ rfl S1.out Tryz.underlying25 rfl (by kernel_rfl) (.tmp .nil))) rfl ?_
    exact ⟨⟨none, 0, none, 0, rfl, ⟨rfl, by simp, fun h => by simp at h⟩, by simp, ⟨rfl, by simp, fun h => by simp at h⟩, by simp⟩, SB.out⟩
end Go.Proofs.YtcgbpallpnaclaaGreatDoor.T
