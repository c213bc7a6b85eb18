/- A part of the walk of the laws of layer 22 (message): contracts of functions of the program, each walked once. -/
import Derived.Test.YtcgbpallpnaclaaDoorYFA
import Derived.BigQuiet
import Derived.Laws.Runes
import Derived.RangeFuncNested
import Derived.RangeFuncBound
import Derived.RangeFuncCalls
import Derived.RangeFuncLeaves
import Derived.RangeFuncBox
import Derived.OwnWalkIn
import Derived.TacticsInMore
import Derived.LoopNIn
import Derived.LoopIn
import Derived.Deep.DeepMust
import Derived.LoopN
import Derived.Laws.BitsAllLaws
import Derived.Maps.OwnIn
import Derived.Maps.Own
import Derived.Maps.OwnSet
import Derived.Maps.OwnOps
import Derived.Shelf.Abstract
import Derived.Sort.CutIn
import Derived.Shelf.RegionOpen
import Derived.StillTailTactics
import Derived.Outline
import Derived.Deep.RegionHeld3
import Derived.Laws.StructEq
import Derived.Laws.RangeAny
import Derived.Laws.EntriesVeiled
import Derived.WalkSpells
import Derived.Lib.SlBytesConst
import Derived.Deep.RegionLaw
import Derived.Deep.RegionWith
import Derived.ArgAppend
import Derived.Shelf.Strings.SlTrimAscii
import Derived.Shelf.Strings.IndexAnyAll
import Derived.Test.YtcgbpallpnaclaaDoorSh
import Derived.Test.YtcgbpallpnaclaaDoorWEqStruct
namespace Go.Proofs.YtcgbpallpnaclaaDoor.T
open Go.RowKit Go.Proofs.YtcgbpallpnaclaaDoorW.PrintWords Go.Proofs.YtcgbpallpnaclaaDoorW.PrintLast Go.Proofs.YtcgbpallpnaclaaDoorW.PrintMore
open Go.Proofs.YtcgbpallpnaclaaDoor.PMH
set_option linter.unusedVariables false
set_option linter.unusedSimpArgs false
/-! ### mailcoachlaw22.MessageFirst (made by wip/gen_first.py) -/
set_option maxHeartbeats 6400000 in
set_option maxRecDepth 100000 in
theorem mailcoachlaw22_MessageFirst.calls (A : Option Addr) (c : Nat) (l : List S40) (A0_0 : Option Addr) (c0_0 : Nat) (l0_0 : List S45) (A0_1 : Option Addr) (c0_1 : Nat) (l0_1 : List Int) (A0_2 : Option Addr) (c0_2 : Nat) (l0_2 : List S45) (w : World) (hr : Kd.C k40 w A l.length l) (hc : l.length ≤ c) (hr0_0 : Kd.C k45 w A0_0 l0_0.length l0_0) (hc0_0 : l0_0.length ≤ c0_0) (hr0_1 : Kd.C (Kd.int .u8) w A0_1 l0_1.length l0_1) (hc0_1 : l0_1.length ≤ c0_1) (hr0_2 : Kd.C k45 w A0_2 l0_2.length l0_2) (hc0_2 : l0_2.length ≤ c0_2) (hT : MsgTab w)
    (s0 : strF l0_0) (s2 : strF l0_2) (sr : ∀ x ∈ l, strR x ∧ -9223372036854775808 ≤ x.f2 ∧ x.f2 ≤ 9223372036854775807) (n : l.length ≤ 140737488355328) (n0 : l0_0.length ≤ 140737488355328) (n1 : l0_1.length ≤ 140737488355328) (n2 : l0_2.length ≤ 140737488355328) :
    Calls Tryd.prog 4 #[.slice A l.length c, .agg #[.slice A0_0 l0_0.length c0_0, .slice A0_1 l0_1.length c0_1, .slice A0_2 l0_2.length c0_2]] w fun e w' => e = .returned (.bool true) ∧ Below w.heap.size w w' := by
  obtain ⟨k, hk⟩ : ∃ k : Nat, 281474976710700 < k := ⟨281474976710701, by omega⟩
  obtain ⟨z1, hz1, hz1'⟩ := sz_message l0_0 l0_1 l0_2 k s0 s2 n0 n1 n2 (by omega) (by omega)
  obtain ⟨z2, hz2, hz2'⟩ := sz_rules l 140737488355329 k (fun x hx => ⟨(sr x hx).1, by have := (sr x hx).1.2.2.2.1; omega⟩) n (by omega)
  have HM := Aside0.mk hz1
  have HS := Aside0.mk hz2
  have HR := Aside0.mk hr
  have HR0 := Aside0.mk hr0_0
  have HR1 := Aside0.mk hr0_1
  have HR2 := Aside0.mk hr0_2
  have HT := Aside0.mk hT
  have SR := Aside0.mk sr
  have Z1 := Aside0.mk hz1'
  have Z2 := Aside0.mk hz2'
  clear hz1 hz2 hr hr0_0 hr0_1 hr0_2 hT s0 s2 sr hz1' hz2'
  obtain ⟨W0, hW0⟩ : ∃ W0, w.alloc (.cells #[.slice A0_0 l0_0.length c0_0, .slice A0_1 l0_1.length c0_1, .slice A0_2 l0_2.length c0_2] 32) = W0 := ⟨_, rfl⟩
  have BK := Aside0.mk (show W0.heap[w.heap.size]? = some (.cells #[.slice A0_0 l0_0.length c0_0, .slice A0_1 l0_1.length c0_1, .slice A0_2 l0_2.length c0_2] 32 (0, 0)) by rw [← hW0]; exact tok_block _ _ _)
  have HB := Aside0.mk (show Below w.heap.size w W0 by rw [← hW0]; exact below_alloc (Below.refl _ _) _)
  have k0 : W0.cell? ⟨w.heap.size, 0, none⟩ = some (.slice A0_0 l0_0.length c0_0) := (blk_cell BK.out 0).trans rfl
  have k1 : W0.cell? ⟨w.heap.size, 1, none⟩ = some (.slice A0_1 l0_1.length c0_1) := (blk_cell BK.out 1).trans rfl
  have k2 : W0.cell? ⟨w.heap.size, 2, none⟩ = some (.slice A0_2 l0_2.length c0_2) := (blk_cell BK.out 2).trans rfl
  go_enter Tryd.func4, Tryd.ntmps4
  by_cases g1 : 50000 < z1
  · have d1 : decide ((50000 : Int) < z1) = true := decide_eq_true g1
    clear g1
    go_wp2_with (first | (go_at_call 12; (with_reducible refine (mailcoachlaw01_MessageSize.calls k A0_0 c0_0 l0_0 A0_1 c0_1 l0_1 A0_2 c0_2 l0_2 z1 _ (Kd.C_below HR0.out HB.out) hc0_0 (Kd.C_below HR1.out HB.out) hc0_1 (Kd.C_below HR2.out HB.out) hc0_2 HM.out).mono ?_); rintro e w1 ⟨rfl, hb⟩; have HB1 := Aside0.mk (below_step HB.out hb); have BK1 := Aside0.mk (blk_below BK.out hb); have k0a := pw_cell_below hb k0; have k1a := pw_cell_below hb k1; have k2a := pw_cell_below hb k2; clear hb) | (go_at_call 11; (with_reducible refine (mailcoachlaw22_lives.calls _ (HT.out.below HB1.out)).mono ?_); rintro e w2 ⟨rfl, hb⟩; have HB2 := Aside0.mk (below_step HB1.out hb); clear hb))
    go_ret
    exact ⟨rfl, HB2.out⟩
  have d1 : decide ((50000 : Int) < z1) = false := decide_eq_false g1
  by_cases g2 : 50000 < z2
  · have d2 : decide ((50000 : Int) < z2) = true := decide_eq_true g2
    clear g2
    go_wp2_with (first | (go_at_call 12; (with_reducible refine (mailcoachlaw01_MessageSize.calls k A0_0 c0_0 l0_0 A0_1 c0_1 l0_1 A0_2 c0_2 l0_2 z1 _ (Kd.C_below HR0.out HB.out) hc0_0 (Kd.C_below HR1.out HB.out) hc0_1 (Kd.C_below HR2.out HB.out) hc0_2 HM.out).mono ?_); rintro e w1 ⟨rfl, hb⟩; have HB1 := Aside0.mk (below_step HB.out hb); have BK1 := Aside0.mk (blk_below BK.out hb); have k0a := pw_cell_below hb k0; have k1a := pw_cell_below hb k1; have k2a := pw_cell_below hb k2; clear hb) | (go_at_call 13; (with_reducible refine (mailcoachlaw01_RulesSize.calls k A c l z2 _ (Kd.C_below HR.out HB1.out) hc HS.out).mono ?_); rintro e w2 ⟨rfl, hb⟩; have HB2 := Aside0.mk (below_step HB1.out hb); have BK2 := Aside0.mk (blk_below BK1.out hb); have k0b := pw_cell_below hb k0a; have k1b := pw_cell_below hb k1a; have k2b := pw_cell_below hb k2a; clear hb) | (go_at_call 11; (with_reducible refine (mailcoachlaw22_lives.calls _ (HT.out.below HB2.out)).mono ?_); rintro e w3 ⟨rfl, hb⟩; have HB3 := Aside0.mk (below_step HB2.out hb); clear hb))
    go_ret
    exact ⟨rfl, HB3.out⟩
  have d2 : decide ((50000 : Int) < z2) = false := decide_eq_false g2
  by_cases g3 : 60 < l.length
  · have d3 : decide ((60 : Int) < (l.length : Int)) = true := decide_eq_true (by omega)
    go_wp2_with (first | (go_at_call 12; (with_reducible refine (mailcoachlaw01_MessageSize.calls k A0_0 c0_0 l0_0 A0_1 c0_1 l0_1 A0_2 c0_2 l0_2 z1 _ (Kd.C_below HR0.out HB.out) hc0_0 (Kd.C_below HR1.out HB.out) hc0_1 (Kd.C_below HR2.out HB.out) hc0_2 HM.out).mono ?_); rintro e w1 ⟨rfl, hb⟩; have HB1 := Aside0.mk (below_step HB.out hb); have BK1 := Aside0.mk (blk_below BK.out hb); have k0a := pw_cell_below hb k0; have k1a := pw_cell_below hb k1; have k2a := pw_cell_below hb k2; clear hb) | (go_at_call 13; (with_reducible refine (mailcoachlaw01_RulesSize.calls k A c l z2 _ (Kd.C_below HR.out HB1.out) hc HS.out).mono ?_); rintro e w2 ⟨rfl, hb⟩; have HB2 := Aside0.mk (below_step HB1.out hb); have BK2 := Aside0.mk (blk_below BK1.out hb); have k0b := pw_cell_below hb k0a; have k1b := pw_cell_below hb k1a; have k2b := pw_cell_below hb k2a; clear hb) | (go_at_call 11; (with_reducible refine (mailcoachlaw22_lives.calls _ (HT.out.below HB2.out)).mono ?_); rintro e w3 ⟨rfl, hb⟩; have HB3 := Aside0.mk (below_step HB2.out hb); clear hb))
    go_ret
    exact ⟨rfl, HB3.out⟩
  have d3 : decide ((60 : Int) < (l.length : Int)) = false := decide_eq_false (by omega)
  have hz1 := Z1.out (by omega)
  have hz2 := Z2.out (by omega)
  have m0 : msg_sum l0_0 ≤ 60000 := by omega
  have m2 : msg_sum l0_2 ≤ 60000 := by omega
  have b0 : l0_0.length ≤ 60000 := by omega
  have b1 : l0_1.length ≤ 60000 := by omega
  have b2 : l0_2.length ≤ 60000 := by omega
  obtain ⟨e0, he0⟩ := tt_req l0_0 l0_1 l0_2 m0 m2 b0 b2
  obtain ⟨a1, a2, e1, hA⟩ := first_answer l l0_0 l0_1 l0_2 e0 he0 (fun x hx => ⟨by have := hz2 x hx; omega, (SR.out x hx).2⟩) b1
  have HQ := Aside0.mk he0
  have HA := Aside0.mk hA
  have HZ := Aside0.mk (show ∀ y ∈ l, (y.f3.length : Int) + (msg_sum y.f3 : Nat) + y.f4.length ≤ 50000 from fun y hy => by have := hz2 y hy; omega)
  clear he0 hA hz1 hz2 m0 m2
  go_upto_region 4 with (first | (go_at_call 12; (with_reducible refine (mailcoachlaw01_MessageSize.calls k A0_0 c0_0 l0_0 A0_1 c0_1 l0_1 A0_2 c0_2 l0_2 z1 _ (Kd.C_below HR0.out HB.out) hc0_0 (Kd.C_below HR1.out HB.out) hc0_1 (Kd.C_below HR2.out HB.out) hc0_2 HM.out).mono ?_); rintro e w1 ⟨rfl, hb⟩; have HB1 := Aside0.mk (below_step HB.out hb); have BK1 := Aside0.mk (blk_below BK.out hb); have k0a := pw_cell_below hb k0; have k1a := pw_cell_below hb k1; have k2a := pw_cell_below hb k2; clear hb) | (go_at_call 13; (with_reducible refine (mailcoachlaw01_RulesSize.calls k A c l z2 _ (Kd.C_below HR.out HB1.out) hc HS.out).mono ?_); rintro e w2 ⟨rfl, hb⟩; have HB2 := Aside0.mk (below_step HB1.out hb); have BK2 := Aside0.mk (blk_below BK1.out hb); have k0b := pw_cell_below hb k0a; have k1b := pw_cell_below hb k1a; have k2b := pw_cell_below hb k2a; clear hb) | (go_at_call 14; (with_reducible refine (message_Answer.calls A c l A0_0 c0_0 l0_0 A0_1 c0_1 l0_1 A0_2 c0_2 l0_2 a1 a2 e1 _ (Kd.C_below HR.out HB2.out) hc (Kd.C_below HR0.out HB2.out) hc0_0 (Kd.C_below HR1.out HB2.out) hc0_1 (Kd.C_below HR2.out HB2.out) hc0_2 (HT.out.below HB2.out) HA.out).mono ?_); rintro e w3 ⟨⟨A1, c1, A2, c2, rfl, ca1, cc1, ca2, cc2⟩, hb⟩; have HB3 := Aside0.mk (below_step HB2.out hb); have CA1 := Aside0.mk ca1; have CA2 := Aside0.mk ca2; have BK3 := Aside0.mk (blk_below BK2.out hb); have k0c := pw_cell_below hb k0b; have k1c := pw_cell_below hb k1b; have k2c := pw_cell_below hb k2b; clear hb ca1 ca2))
  obtain ⟨W3, hW3⟩ : ∃ W3, w3.alloc (.cells #[.slice A1 a1.length c1, .slice A2 a2.length c2, .slice none 0 0] 32) = W3 := ⟨_, rfl⟩
  have hlt3 : w.heap.size < w3.heap.size := (Array.getElem?_eq_some_iff.1 BK3.out).1
  obtain ⟨B5, hB5⟩ : ∃ B5, w3.heap.size = B5 := ⟨_, rfl⟩
  have BKm := Aside0.mk (show W3.heap[w.heap.size]? = some (.cells #[.slice A0_0 l0_0.length c0_0, .slice A0_1 l0_1.length c0_1, .slice A0_2 l0_2.length c0_2] 32 (0, 0)) by rw [← hW3]; exact blk_alloc BK3.out _)
  have BKa := Aside0.mk (show W3.heap[B5]? = some (.cells #[.slice A1 a1.length c1, .slice A2 a2.length c2, .slice none 0 0] 32 (0, 0)) by rw [← hW3, ← hB5]; exact tok_block _ _ _)
  have hba : Below w3.heap.size w3 W3 := by rw [← hW3]; exact below_alloc (Below.refl _ _) _
  have C1 := Aside0.mk (Kd.C_below CA1.out hba)
  have C2 := Aside0.mk (Kd.C_below CA2.out hba)
  have HB4 := Aside0.mk (below_step HB3.out hba)
  have j0 : W3.cell? ⟨w.heap.size, 0, none⟩ = some (.slice A0_0 l0_0.length c0_0) := (blk_cell BKm.out 0).trans rfl
  have j1 : W3.cell? ⟨w.heap.size, 1, none⟩ = some (.slice A0_1 l0_1.length c0_1) := (blk_cell BKm.out 1).trans rfl
  have j2 : W3.cell? ⟨w.heap.size, 2, none⟩ = some (.slice A0_2 l0_2.length c0_2) := (blk_cell BKm.out 2).trans rfl
  rw [hW3, hB5]
  clear hW3 hba CA1 CA2 BK3 HB3 k0c k1c k2c BK2 HB2 k0b k1b k2b BK1 HB1 k0a k1a k2a k0 k1 k2 BK HB hW0 d1 d2 d3 g1 g2
  by_cases q0 : e0 = 0
  · subst q0
    obtain ⟨t1, hg1⟩ := get_req req_m l0_0
    obtain ⟨t2, hg2⟩ := get_req req_p l0_0
    obtain ⟨F, hF⟩ : ∃ F, rule_fits (req_get req_m l0_0) (req_get req_p l0_0) = F := ⟨_, rfl⟩
    obtain ⟨v1, hv1⟩ : ∃ v, req_get req_m l0_0 = v := ⟨_, rfl⟩
    obtain ⟨v2, hv2⟩ : ∃ v, req_get req_p l0_0 = v := ⟨_, rfl⟩
    have HON := Aside0.mk (fun (x : S40) (i : Nat) => first_one (l := l) (x := x) (i := i) HQ.out HA.out)
    have HFI := Aside0.mk (first_find HQ.out HA.out).2
    obtain ⟨sh1, sh2⟩ := first_shape l HQ.out HA.out (fun x hx => by have := HZ.out x hx; omega) b1
    rw [hF] at HON HFI
    rw [hv1, hv2] at hF
    rw [hv1] at hg1
    rw [hv2] at hg2
    have HG1 := Aside0.mk (show message_Get.f l0_0 ⟨#[58, 109, 101, 116, 104, 111, 100]⟩ = some (v1, t1) from hg1)
    have HG2 := Aside0.mk (show message_Get.f l0_0 ⟨#[58, 112, 97, 116, 104]⟩ = some (v2, t2) from hg2)
    have HFF := Aside0.mk hF
    clear hg1 hg2 hv1 hv2 hF
    go_wp2_with (first | (go_at_call 15; (with_reducible refine (message_Request.calls A0_0 c0_0 l0_0 A0_1 c0_1 l0_1 A0_2 c0_2 l0_2 0 _ (Kd.C_below HR0.out HB4.out) hc0_0 (Kd.C_below HR1.out HB4.out) hc0_1 (Kd.C_below HR2.out HB4.out) hc0_2 (HT.out.below HB4.out) HQ.out).mono ?_); rintro e w4 ⟨rfl, hb⟩; have HB5 := Aside0.mk (below_step HB4.out hb); have j0a := pw_cell_below hb j0; have j1a := pw_cell_below hb j1; have j2a := pw_cell_below hb j2; have BKma := Aside0.mk (blk_below BKm.out hb); have BKaa := Aside0.mk (blk_below BKa.out hb); have C1a := Aside0.mk (Kd.C_below C1.out hb); have C2a := Aside0.mk (Kd.C_below C2.out hb); clear hb) | (go_at_call 8; (with_reducible refine (message_Get.calls A0_0 c0_0 l0_0 ⟨#[58, 109, 101, 116, 104, 111, 100]⟩ v1 t1 _ (Kd.C_below HR0.out HB5.out) hc0_0 HG1.out).mono ?_); rintro e w5 ⟨rfl, hb⟩; have HB6 := Aside0.mk (below_step HB5.out hb); have j0b := pw_cell_below hb j0a; have j1b := pw_cell_below hb j1a; have j2b := pw_cell_below hb j2a; have BKmb := Aside0.mk (blk_below BKma.out hb); have BKab := Aside0.mk (blk_below BKaa.out hb); have C1b := Aside0.mk (Kd.C_below C1a.out hb); have C2b := Aside0.mk (Kd.C_below C2a.out hb); clear hb) | (go_at_call 8; (with_reducible refine (message_Get.calls A0_0 c0_0 l0_0 ⟨#[58, 112, 97, 116, 104]⟩ v2 t2 _ (Kd.C_below HR0.out HB6.out) hc0_0 HG2.out).mono ?_); rintro e w6 ⟨rfl, hb⟩; have HB7 := Aside0.mk (below_step HB6.out hb); have j0c := pw_cell_below hb j0b; have j1c := pw_cell_below hb j1b; have j2c := pw_cell_below hb j2b; have BKmc := Aside0.mk (blk_below BKmb.out hb); have BKac := Aside0.mk (blk_below BKab.out hb); have C1c := Aside0.mk (Kd.C_below C1b.out hb); have C2c := Aside0.mk (Kd.C_below C2b.out hb); clear hb))
    clear j0 j1 j2 BKm BKa C1 C2 HB4 j0a j1a j2a BKma BKaa C1a C2a HB5 j0b j1b j2b BKmb BKab C1b C2b HB6 j0c j1c j2c HG1 HG2
    go_loopw [11] (fun v11 wr => ∃ i : Nat, i ≤ l.length ∧ v11 = .int .i64 i ∧ Aside0 (Below w6.heap.size w6 wr) ∧ Aside0 (l.find? F = (l.drop i).find? F)) (fun v11 _ => l.length - (intOf v11).toNat)
    case atStart => exact ⟨0, by omega, rfl, ⟨Below.refl _ _⟩, ⟨rfl⟩⟩
    case round =>
      obtain ⟨i, hi, rfl, HBL, HFN⟩ := hrel
      have HBr := Aside0.mk (below_step HB7.out HBL.out)
      have BKm := Aside0.mk (blk_below BKmc.out HBL.out)
      have BKa := Aside0.mk (blk_below BKac.out HBL.out)
      have C1 := Aside0.mk (Kd.C_below C1c.out HBL.out)
      have C2 := Aside0.mk (Kd.C_below C2c.out HBL.out)
      by_cases hlt : i < l.length
      · have HC := Aside0.mk (Kd.C_below HR.out HBr.out)
        obtain ⟨ad, A3, c3, A4, c4, hA, y0, y1, y2, y3, y4, y5, _, _, _, _⟩ := at_T40 HC.out (i : Int) (by omega) (by omega)
        rw [Int.toNat_natCast] at y0 y1 y2 y3 y4 y5
        have hfn := HFN.out
        rw [rule_rd_drop l i hlt] at hfn
        have hdl : (l.take (i + 1)).drop i = [rd_T40 l (i : Int)] := by
          exact (first_mid l i hlt).symm
        obtain ⟨x, hx⟩ : ∃ x, rd_T40 l (i : Int) = x := ⟨_, rfl⟩
        rw [hx] at y0 y1 y2 y3 y4 y5 hfn hdl
        obtain ⟨bb1, bb2, eb, hB, hyes, hno⟩ := HON.out x i hfn
        have HBA := Aside0.mk hB
        have hltz : (i : Int) < (l.length : Int) := by omega
        have HLT := Aside0.mk hlt
        subst hA
        have HDL := Aside0.mk hdl
        clear hfn hdl hB hx
        go_upto_region 12 with (fail)
        obtain ⟨W8, hW8⟩ : ∃ W8, wr.alloc (.cells #[.string x.f0, .string x.f1, .int .i64 x.f2, .slice A3 x.f3.length c3, .slice A4 x.f4.length c4, .bool x.f5] 40) = W8 := ⟨_, rfl⟩
        obtain ⟨B12, hB12⟩ : ∃ B12, wr.heap.size = B12 := ⟨_, rfl⟩
        have BKx := Aside0.mk (show W8.heap[B12]? = some (.cells #[.string x.f0, .string x.f1, .int .i64 x.f2, .slice A3 x.f3.length c3, .slice A4 x.f4.length c4, .bool x.f5] 40 (0, 0)) by rw [← hW8, ← hB12]; exact tok_block _ _ _)
        have d0 : W8.cell? ⟨B12, 0, none⟩ = some (.string x.f0) := (blk_cell BKx.out 0).trans rfl
        have d1 : W8.cell? ⟨B12, 1, none⟩ = some (.string x.f1) := (blk_cell BKx.out 1).trans rfl
        have HB8 := Aside0.mk (show Below w6.heap.size w6 W8 by rw [← hW8]; exact below_alloc HBL.out _)
        rw [hW8, hB12]
        clear hW8 hB12 y0 y1 y2 y3 y4 y5 HBr BKm BKa C1 C2 HC
        go_cut [13] (fun v13 wd => v13 = .bool (F x) ∧ Aside0 (Below w6.heap.size w6 wd))
        case first =>
          have hFx : F x = ((x.f0.toList.isEmpty || x.f0.toList == v1.toList) && (decide (x.f1.size ≤ v2.size) && ((v2.extract 0 x.f1.size).toList == x.f1.toList))) := by rw [← HFF.out]; unfold rule_fits; rw [first_pref]
          cases hE : x.f0.toList.isEmpty with
          | true =>
            by_cases hz : x.f1.size ≤ v2.size
            · have hzi : (x.f1.size : Int) ≤ (v2.size : Int) := by omega
              have hzd : decide ((x.f1.size : Int) ≤ (v2.size : Int)) = true := decide_eq_true hzi
              cases hbq : ((v2.extract 0 x.f1.size).toList == x.f1.toList) with
              | true =>
                have HX := Aside0.mk (show F x = true by rw [hFx]; simp [hE, hz, hbq])
                clear hFx
                go_quiet (fail)
                go_wp2_with (fail)
                go_meet
                case rel => exact ⟨by rw [HX.out], ⟨HB8.out.trans (by exact pw_below_drewN (Below.refl _ _) _)⟩⟩
              | false =>
                have HX := Aside0.mk (show F x = false by rw [hFx]; simp [hE, hz, hbq])
                clear hFx
                go_quiet (fail)
                go_wp2_with (fail)
                go_meet
                case rel => exact ⟨by rw [HX.out], ⟨HB8.out.trans (by exact pw_below_drewN (Below.refl _ _) _)⟩⟩
            · have hzd : decide ((x.f1.size : Int) ≤ (v2.size : Int)) = false := decide_eq_false (by omega)
              have HX := Aside0.mk (show F x = false by rw [hFx]; simp [hE, hz])
              clear hFx
              go_quiet (fail)
              go_wp2_with (fail)
              go_meet
              case rel => exact ⟨by rw [HX.out], ⟨HB8.out.trans (by exact pw_below_drewN (Below.refl _ _) _)⟩⟩
          | false =>
            cases hQ : (x.f0.toList == v1.toList) with
            | true =>
              by_cases hz : x.f1.size ≤ v2.size
              · have hzi : (x.f1.size : Int) ≤ (v2.size : Int) := by omega
                have hzd : decide ((x.f1.size : Int) ≤ (v2.size : Int)) = true := decide_eq_true hzi
                cases hbq : ((v2.extract 0 x.f1.size).toList == x.f1.toList) with
                | true =>
                  have HX := Aside0.mk (show F x = true by rw [hFx]; simp [hE, hQ, hz, hbq])
                  clear hFx
                  go_quiet (fail)
                  go_wp2_with (fail)
                  go_meet
                  case rel => exact ⟨by rw [HX.out], ⟨HB8.out.trans (by exact pw_below_drewN (Below.refl _ _) _)⟩⟩
                | false =>
                  have HX := Aside0.mk (show F x = false by rw [hFx]; simp [hE, hQ, hz, hbq])
                  clear hFx
                  go_quiet (fail)
                  go_wp2_with (fail)
                  go_meet
                  case rel => exact ⟨by rw [HX.out], ⟨HB8.out.trans (by exact pw_below_drewN (Below.refl _ _) _)⟩⟩
              · have hzd : decide ((x.f1.size : Int) ≤ (v2.size : Int)) = false := decide_eq_false (by omega)
                have HX := Aside0.mk (show F x = false by rw [hFx]; simp [hE, hQ, hz])
                clear hFx
                go_quiet (fail)
                go_wp2_with (fail)
                go_meet
                case rel => exact ⟨by rw [HX.out], ⟨HB8.out.trans (by exact pw_below_drewN (Below.refl _ _) _)⟩⟩
            | false =>
              have HX := Aside0.mk (show F x = false by rw [hFx]; simp [hE, hQ])
              clear hFx
              go_quiet (fail)
              go_wp2_with (fail)
              go_meet
              case rel => exact ⟨by rw [HX.out], ⟨HB8.out.trans (by exact pw_below_drewN (Below.refl _ _) _)⟩⟩
        case rest =>
          clear HB8 BKx d0 d1
          obtain ⟨rfl, HBc⟩ := hcut
          have HBr := Aside0.mk (below_step HB7.out HBc.out)
          have BKm := Aside0.mk (blk_below BKmc.out HBc.out)
          have j0 : wc.cell? ⟨w.heap.size, 0, none⟩ = some (.slice A0_0 l0_0.length c0_0) := (blk_cell BKm.out 0).trans rfl
          have j1 : wc.cell? ⟨w.heap.size, 1, none⟩ = some (.slice A0_1 l0_1.length c0_1) := (blk_cell BKm.out 1).trans rfl
          have j2 : wc.cell? ⟨w.heap.size, 2, none⟩ = some (.slice A0_2 l0_2.length c0_2) := (blk_cell BKm.out 2).trans rfl
          obtain ⟨i0, hi0, hz1⟩ := Option.map_eq_some_iff.1 (show (Tryd.prog.info? 40).map (fun i => i.size) = some 6 by kernel_rfl)
          have hcm := cut_mid (P := Tryd.prog) 29 40 .i64 .i64 (i := i0) Tryd.underlying29 hi0 6 hz1 (some ad) l.length c (i : Int) ((i : Int) + 1) (by omega) (by omega) (by omega) hc
          rw [Int.toNat_natCast, show ((i : Int) + 1).toNat - i = 1 by omega] at hcm
          obtain ⟨A9, hA9⟩ : ∃ A9, (if c = i then (some ad) else (some ad).map (·.add (i * 6))) = A9 := ⟨_, rfl⟩
          obtain ⟨C9, hC9⟩ : ∃ C9, c - i = C9 := ⟨_, rfl⟩
          rw [hA9, hC9] at hcm
          have hiw : IntKind.i64.wrap ((i : Int) + 1) = (i : Int) + 1 := wrap_small _ (by omega) (by omega)
          have PA := Aside0.mk (show ∀ W : World, Below w.heap.size w W → Calls Tryd.prog 14 #[.slice A9 1 C9, .agg #[.slice A0_0 l0_0.length c0_0, .slice A0_1 l0_1.length c0_1, .slice A0_2 l0_2.length c0_2]] W (fun e w' => (∃ (D1 : Option Addr) (d1 : Nat) (D2 : Option Addr) (d2 : Nat), e = .returned (.tuple #[.agg #[.slice D1 bb1.length d1, .slice D2 bb2.length d2, .slice none 0 0], .int .i64 eb]) ∧ Kd.C k45 w' D1 bb1.length bb1 ∧ bb1.length ≤ d1 ∧ Kd.C (Kd.int .u8) w' D2 bb2.length bb2 ∧ bb2.length ≤ d2) ∧ Below W.heap.size W w') from fun W hW => by
            have hd := Kd.C_mid (lo := i) (hi := i + 1) (Kd.C_below HR.out hW) (by omega) (by omega) hc
            rw [HDL.out] at hd
            have h6 : k40.sz = 6 := rfl
            rw [h6, hA9] at hd
            exact message_Answer.calls A9 C9 [x] A0_0 c0_0 l0_0 A0_1 c0_1 l0_1 A0_2 c0_2 l0_2 bb1 bb2 eb W hd (by show 1 ≤ C9; omega) (Kd.C_below HR0.out hW) hc0_0 (Kd.C_below HR1.out hW) hc0_1 (Kd.C_below HR2.out hW) hc0_2 (HT.out.below hW) HBA.out)
          clear hz1 hi0 hA9 hC9
          go_upto_region 13 with (fail)
          go_cut [14, 15] (fun v14 v15 wd => ∃ (B14 : Nat) (D1 : Option Addr) (d1 : Nat) (D2 : Option Addr) (d2 : Nat), v14 = .pointer (some ⟨B14, 0, none⟩) ∧ v15 = .int .i64 eb ∧ Aside0 (wd.heap[B14]? = some (.cells #[.slice D1 bb1.length d1, .slice D2 bb2.length d2, .slice none 0 0] 32 (0, 0))) ∧ Aside0 (Kd.C k45 wd D1 bb1.length bb1) ∧ bb1.length ≤ d1 ∧ Aside0 (Kd.C (Kd.int .u8) wd D2 bb2.length bb2) ∧ bb2.length ≤ d2 ∧ Aside0 (Below w6.heap.size w6 wd))
          case first =>
            refine wp_region_held_drew (S := fun w' => w'.heap[w.heap.size]? = some (.cells #[.slice A0_0 l0_0.length c0_0, .slice A0_1 l0_1.length c0_1, .slice A0_2 l0_2.length c0_2] 32 (0, 0))) (by kernel_rfl) ?_ (fun hHeld => ?_)
            · exact BKm.out
            obtain ⟨R1, hR1⟩ : ∃ z_, wc.drew = z_ := ⟨_, rfl⟩
            have HBc := Aside0.mk (show Below w6.heap.size w6 R1 by rw [← hR1]; exact below_drew1 HBc.out)
            rw [hR1] at hHeld ⊢
            clear hR1 BKm j0 j1 j2 HBr
            (refine msg_take (i := 0) (d := some 98) (v := .slice (some ad) l.length c) rfl rfl (by kernel_rfl) (by kernel_rfl) (by kernel_rfl) (fun _ _ _ h => h) (Or.inl ⟨by rfl, ?hy⟩) (by assumption) ?_; (case hy => (intro w' hSw; go_simp; try (with_reducible rfl)))); (try simp only [Act.put, List.setIfInBounds_toArray, List.set_cons_zero, List.set_cons_succ])
            (refine msg_take (i := 1) (d := some 99) (v := .int .i64 i) rfl rfl (by kernel_rfl) (by kernel_rfl) (by kernel_rfl) (fun _ _ _ h => h) (Or.inl ⟨by rfl, ?hy⟩) (by assumption) ?_; (case hy => (intro w' hSw; go_simp; try (with_reducible rfl)))); (try simp only [Act.put, List.setIfInBounds_toArray, List.set_cons_zero, List.set_cons_succ])
            (refine msg_take (i := 2) (d := some 100) (v := .int .i64 i) rfl rfl (by kernel_rfl) (by kernel_rfl) (by kernel_rfl) (fun _ _ _ h => h) (Or.inl ⟨by rfl, ?hy⟩) (by assumption) ?_; (case hy => (intro w' hSw; go_simp; try (with_reducible rfl)))); (try simp only [Act.put, List.setIfInBounds_toArray, List.set_cons_zero, List.set_cons_succ])
            (refine msg_take (i := 3) (d := some 101) (v := .int .i64 ((i : Int) + 1)) rfl rfl (by kernel_rfl) (by kernel_rfl) (by kernel_rfl) (fun _ _ _ h => h) (Or.inl ⟨by rfl, ?hy⟩) (by assumption) ?_; (case hy => (intro w' hSw; go_simp; try (with_reducible rfl)))); (try simp only [Act.put, List.setIfInBounds_toArray, List.set_cons_zero, List.set_cons_succ])
            (refine msg_take (i := 4) (d := some 102) (v := .slice A9 1 C9) rfl rfl (by kernel_rfl) (by kernel_rfl) (by kernel_rfl) (fun _ _ _ h => h) (Or.inl ⟨by rfl, ?hy⟩) (by assumption) ?_; (case hy => (intro w' hSw; go_simp; try (with_reducible rfl)))); (try simp only [Act.put, List.setIfInBounds_toArray, List.set_cons_zero, List.set_cons_succ])
            (refine msg_take (i := 5) (d := some 103) (v := .agg #[.slice A0_0 l0_0.length c0_0, .slice A0_1 l0_1.length c0_1, .slice A0_2 l0_2.length c0_2]) rfl rfl (by kernel_rfl) (by kernel_rfl) (by kernel_rfl) (fun _ _ _ h => h) (Or.inl ⟨by rfl, ?hy⟩) (by assumption) ?_; (case hy => (intro w' hSw; have e0 : w'.cell? ⟨w.heap.size, 0, none⟩ = some (.slice A0_0 l0_0.length c0_0) := (blk_cell hSw 0).trans rfl; have e1 : w'.cell? ⟨w.heap.size, 1, none⟩ = some (.slice A0_1 l0_1.length c0_1) := (blk_cell hSw 1).trans rfl; have e2 : w'.cell? ⟨w.heap.size, 2, none⟩ = some (.slice A0_2 l0_2.length c0_2) := (blk_cell hSw 2).trans rfl; clear hSw; go_simp; try (with_reducible rfl)))); (try simp only [Act.put, List.setIfInBounds_toArray, List.set_cons_zero, List.set_cons_succ])
            refine wpAnyH_ready (rs := [6, 10]) (by kernel_rfl) (by simp) ?_
            refine AllReadyH.cons rfl (fun K hK => ?_) ?_
            · skip
              go_simp
              (go_at_call 14; refine (PA.out _ (below_step HB7.out HBc.out)).mono ?_); rintro e u1 ⟨⟨D1, d1, D2, d2, rfl, ca1, cc3, ca2, cc4⟩, hz⟩
              have hS := blk_below hHeld hz
              have HBc := Aside0.mk (below_step HBc.out hz)
              have CD1 := Aside0.mk ca1
              have CD2 := Aside0.mk ca2
              clear hz ca1 ca2
              (try go_wp2_with (fail))
              refine hK.out _ _ hS (fun hHeld => ?_)
              clear hS hK K
              (try simp only [Act.put, List.setIfInBounds_toArray, List.set_cons_zero, List.set_cons_succ])
              (refine msg_take (i := 7) (d := some 97) (v := .tuple #[.agg #[.slice D1 bb1.length d1, .slice D2 bb2.length d2, .slice none 0 0], .int .i64 eb]) rfl rfl (by kernel_rfl) (by kernel_rfl) (by kernel_rfl) (fun _ _ _ h => h) (Or.inl ⟨by rfl, ?hy⟩) (by assumption) ?_; (case hy => (intro w' hSw; go_simp; try (with_reducible rfl)))); (try simp only [Act.put, List.setIfInBounds_toArray, List.set_cons_zero, List.set_cons_succ])
              (refine msg_take (i := 8) (d := some 105) (v := .agg #[.slice D1 bb1.length d1, .slice D2 bb2.length d2, .slice none 0 0]) rfl rfl (by kernel_rfl) (by kernel_rfl) (by kernel_rfl) (fun _ _ _ h => h) (Or.inl ⟨by rfl, ?hy⟩) (by assumption) ?_; (case hy => (intro w' hSw; go_simp; try (with_reducible rfl)))); (try simp only [Act.put, List.setIfInBounds_toArray, List.set_cons_zero, List.set_cons_succ])
              (refine msg_take (i := 9) (d := some 106) (v := .int .i64 eb) rfl rfl (by kernel_rfl) (by kernel_rfl) (by kernel_rfl) (fun _ _ _ h => h) (Or.inl ⟨by rfl, ?hy⟩) (by assumption) ?_; (case hy => (intro w' hSw; go_simp; try (with_reducible rfl)))); (try simp only [Act.put, List.setIfInBounds_toArray, List.set_cons_zero, List.set_cons_succ])
              refine wpAnyH_ready (rs := [10]) (by kernel_rfl) (by simp) ?_
              refine AllReadyH.cons rfl (fun K hK => ?_) AllReadyH.nil
              go_simp
              obtain ⟨u2, hu2⟩ : ∃ z_, u1.alloc (.cells #[.slice none 0 0, .slice none 0 0, .slice none 0 0] 32) = z_ := ⟨_, rfl⟩
              have BKb := Aside0.mk (show u2.heap[u1.heap.size]? = some (.cells #[.slice none 0 0, .slice none 0 0, .slice none 0 0] 32 (0, 0)) by rw [← hu2]; exact tok_block _ _ _)
              have hS : u2.heap[w.heap.size]? = some (.cells #[.slice A0_0 l0_0.length c0_0, .slice A0_1 l0_1.length c0_1, .slice A0_2 l0_2.length c0_2] 32 (0, 0)) := by rw [← hu2]; exact blk_alloc hHeld _
              have NEb : w.heap.size ≠ u1.heap.size := Nat.ne_of_lt (Array.getElem?_eq_some_iff.1 hHeld).1
              have LTb : w6.heap.size ≤ u1.heap.size := HBc.out.size
              have HBc := Aside0.mk (show Below w6.heap.size w6 u2 by rw [← hu2]; exact below_alloc HBc.out _)
              have hba : Below u1.heap.size u1 u2 := by rw [← hu2]; exact below_alloc (Below.refl _ _) _
              have CD1 := Aside0.mk (Kd.C_below CD1.out hba)
              have CD2 := Aside0.mk (Kd.C_below CD2.out hba)
              clear hba
              rw [hu2]
              clear hu2
              refine hK.out _ _ hS (fun hHeld => ?_)
              clear hS hK K
              (try simp only [Act.put, List.setIfInBounds_toArray, List.set_cons_zero, List.set_cons_succ])
              refine wpAnyH_ready (rs := [11]) (by kernel_rfl) (by simp) ?_
              refine AllReadyH.cons rfl (fun K hK => ?_) AllReadyH.nil
              have zo0 : u2.cell? ⟨u1.heap.size, 0, none⟩ = some (.slice none 0 0) ∧ u2.frozen? ⟨u1.heap.size, 0, none⟩ = false := ⟨(blk_cell BKb.out 0).trans rfl, blk_frozen BKb.out 0⟩
              have zo1 : u2.cell? ⟨u1.heap.size, 1, none⟩ = some (.slice none 0 0) ∧ u2.frozen? ⟨u1.heap.size, 1, none⟩ = false := ⟨(blk_cell BKb.out 1).trans rfl, blk_frozen BKb.out 1⟩
              have zo2 : u2.cell? ⟨u1.heap.size, 2, none⟩ = some (.slice none 0 0) ∧ u2.frozen? ⟨u1.heap.size, 2, none⟩ = false := ⟨(blk_cell BKb.out 2).trans rfl, blk_frozen BKb.out 2⟩
              obtain ⟨s1, s2⟩ := msg_store3 (.slice D1 bb1.length d1) (.slice D2 bb2.length d2) (.slice none 0 0) BKb.out
              go_simp
              obtain ⟨wn, hwn⟩ : ∃ z_, ((u2.setCell ⟨u1.heap.size, 0, none⟩ (.slice D1 bb1.length d1)).setCell ⟨u1.heap.size, 1, none⟩ (.slice D2 bb2.length d2)).setCell ⟨u1.heap.size, 2, none⟩ (.slice none 0 0) = z_ := ⟨_, rfl⟩
              have HBc := Aside0.mk (show Below w6.heap.size w6 wn by rw [← hwn]; exact ((HBc.out.setCell (p := ⟨u1.heap.size, 0, none⟩) (by show w6.heap.size ≤ u1.heap.size; omega) _).setCell (p := ⟨u1.heap.size, 1, none⟩) (by show w6.heap.size ≤ u1.heap.size; omega) _).setCell (p := ⟨u1.heap.size, 2, none⟩) (by show w6.heap.size ≤ u1.heap.size; omega) _)
              rw [hwn] at s1 s2
              have CD1 := Aside0.mk (far_fields CD1.out BKb.out (by simp) s2)
              have CD2 := Aside0.mk (far_bytes CD2.out BKb.out (by simp) s2)
              have BKb := Aside0.mk s1
              have hS := (s2 _ NEb).trans hHeld
              (try rw [hwn])
              clear s1 s2 zo0 zo1 zo2 hwn
              refine hK.out _ _ hS (fun hHeld => ?_)
              clear hS hK K
              (try simp only [Act.put, List.setIfInBounds_toArray, List.set_cons_zero, List.set_cons_succ])
              (refine msg_take (i := 12) (d := some 15) (v := .int .i64 eb) rfl rfl (by kernel_rfl) (by kernel_rfl) (by kernel_rfl) (fun _ _ _ h => h) (Or.inl ⟨by rfl, ?hy⟩) (by assumption) ?_; (case hy => (intro w' hSw; go_simp; try (with_reducible rfl)))); (try simp only [Act.put, List.setIfInBounds_toArray, List.set_cons_zero, List.set_cons_succ])
              refine wpAnyH_done (by kernel_rfl) ?_ _
              go_wp2_with (fail)
              go_meet
              case rel => exact ⟨u1.heap.size, D1, d1, D2, d2, by first | rfl | (simp; done), by first | rfl | (simp; done), BKb, CD1, cc3, CD2, cc4, HBc⟩
            refine AllReadyH.cons rfl (fun K hK => ?_) AllReadyH.nil
            go_simp
            obtain ⟨u1, hu1⟩ : ∃ z_, R1.alloc (.cells #[.slice none 0 0, .slice none 0 0, .slice none 0 0] 32) = z_ := ⟨_, rfl⟩
            have BKb := Aside0.mk (show u1.heap[R1.heap.size]? = some (.cells #[.slice none 0 0, .slice none 0 0, .slice none 0 0] 32 (0, 0)) by rw [← hu1]; exact tok_block _ _ _)
            have hS : u1.heap[w.heap.size]? = some (.cells #[.slice A0_0 l0_0.length c0_0, .slice A0_1 l0_1.length c0_1, .slice A0_2 l0_2.length c0_2] 32 (0, 0)) := by rw [← hu1]; exact blk_alloc hHeld _
            have NEb : w.heap.size ≠ R1.heap.size := Nat.ne_of_lt (Array.getElem?_eq_some_iff.1 hHeld).1
            have LTb : w6.heap.size ≤ R1.heap.size := HBc.out.size
            have HBc := Aside0.mk (show Below w6.heap.size w6 u1 by rw [← hu1]; exact below_alloc HBc.out _)
            rw [hu1]
            clear hu1
            refine hK.out _ _ hS (fun hHeld => ?_)
            clear hS hK K
            (try simp only [Act.put, List.setIfInBounds_toArray, List.set_cons_zero, List.set_cons_succ])
            refine wpAnyH_ready (rs := [6]) (by kernel_rfl) (by simp) ?_
            refine AllReadyH.cons rfl (fun K hK => ?_) AllReadyH.nil
            go_simp
            (go_at_call 14; refine (PA.out _ (below_step HB7.out HBc.out)).mono ?_); rintro e u2 ⟨⟨D1, d1, D2, d2, rfl, ca1, cc3, ca2, cc4⟩, hz⟩
            have hS := blk_below hHeld hz
            have HBc := Aside0.mk (below_step HBc.out hz)
            have CD1 := Aside0.mk ca1
            have CD2 := Aside0.mk ca2
            have BKb := Aside0.mk (blk_below BKb.out hz)
            clear hz ca1 ca2
            (try go_wp2_with (fail))
            refine hK.out _ _ hS (fun hHeld => ?_)
            clear hS hK K
            (try simp only [Act.put, List.setIfInBounds_toArray, List.set_cons_zero, List.set_cons_succ])
            (refine msg_take (i := 7) (d := some 97) (v := .tuple #[.agg #[.slice D1 bb1.length d1, .slice D2 bb2.length d2, .slice none 0 0], .int .i64 eb]) rfl rfl (by kernel_rfl) (by kernel_rfl) (by kernel_rfl) (fun _ _ _ h => h) (Or.inl ⟨by rfl, ?hy⟩) (by assumption) ?_; (case hy => (intro w' hSw; go_simp; try (with_reducible rfl)))); (try simp only [Act.put, List.setIfInBounds_toArray, List.set_cons_zero, List.set_cons_succ])
            (refine msg_take (i := 8) (d := some 105) (v := .agg #[.slice D1 bb1.length d1, .slice D2 bb2.length d2, .slice none 0 0]) rfl rfl (by kernel_rfl) (by kernel_rfl) (by kernel_rfl) (fun _ _ _ h => h) (Or.inl ⟨by rfl, ?hy⟩) (by assumption) ?_; (case hy => (intro w' hSw; go_simp; try (with_reducible rfl)))); (try simp only [Act.put, List.setIfInBounds_toArray, List.set_cons_zero, List.set_cons_succ])
            (refine msg_take (i := 9) (d := some 106) (v := .int .i64 eb) rfl rfl (by kernel_rfl) (by kernel_rfl) (by kernel_rfl) (fun _ _ _ h => h) (Or.inl ⟨by rfl, ?hy⟩) (by assumption) ?_; (case hy => (intro w' hSw; go_simp; try (with_reducible rfl)))); (try simp only [Act.put, List.setIfInBounds_toArray, List.set_cons_zero, List.set_cons_succ])
            refine wpAnyH_ready (rs := [11]) (by kernel_rfl) (by simp) ?_
            refine AllReadyH.cons rfl (fun K hK => ?_) AllReadyH.nil
            have zo0 : u2.cell? ⟨R1.heap.size, 0, none⟩ = some (.slice none 0 0) ∧ u2.frozen? ⟨R1.heap.size, 0, none⟩ = false := ⟨(blk_cell BKb.out 0).trans rfl, blk_frozen BKb.out 0⟩
            have zo1 : u2.cell? ⟨R1.heap.size, 1, none⟩ = some (.slice none 0 0) ∧ u2.frozen? ⟨R1.heap.size, 1, none⟩ = false := ⟨(blk_cell BKb.out 1).trans rfl, blk_frozen BKb.out 1⟩
            have zo2 : u2.cell? ⟨R1.heap.size, 2, none⟩ = some (.slice none 0 0) ∧ u2.frozen? ⟨R1.heap.size, 2, none⟩ = false := ⟨(blk_cell BKb.out 2).trans rfl, blk_frozen BKb.out 2⟩
            obtain ⟨s1, s2⟩ := msg_store3 (.slice D1 bb1.length d1) (.slice D2 bb2.length d2) (.slice none 0 0) BKb.out
            go_simp
            obtain ⟨wn, hwn⟩ : ∃ z_, ((u2.setCell ⟨R1.heap.size, 0, none⟩ (.slice D1 bb1.length d1)).setCell ⟨R1.heap.size, 1, none⟩ (.slice D2 bb2.length d2)).setCell ⟨R1.heap.size, 2, none⟩ (.slice none 0 0) = z_ := ⟨_, rfl⟩
            have HBc := Aside0.mk (show Below w6.heap.size w6 wn by rw [← hwn]; exact ((HBc.out.setCell (p := ⟨R1.heap.size, 0, none⟩) (by show w6.heap.size ≤ R1.heap.size; omega) _).setCell (p := ⟨R1.heap.size, 1, none⟩) (by show w6.heap.size ≤ R1.heap.size; omega) _).setCell (p := ⟨R1.heap.size, 2, none⟩) (by show w6.heap.size ≤ R1.heap.size; omega) _)
            rw [hwn] at s1 s2
            have CD1 := Aside0.mk (far_fields CD1.out BKb.out (by simp) s2)
            have CD2 := Aside0.mk (far_bytes CD2.out BKb.out (by simp) s2)
            have BKb := Aside0.mk s1
            have hS := (s2 _ NEb).trans hHeld
            (try rw [hwn])
            clear s1 s2 zo0 zo1 zo2 hwn
            refine hK.out _ _ hS (fun hHeld => ?_)
            clear hS hK K
            (try simp only [Act.put, List.setIfInBounds_toArray, List.set_cons_zero, List.set_cons_succ])
            (refine msg_take (i := 12) (d := some 15) (v := .int .i64 eb) rfl rfl (by kernel_rfl) (by kernel_rfl) (by kernel_rfl) (fun _ _ _ h => h) (Or.inl ⟨by rfl, ?hy⟩) (by assumption) ?_; (case hy => (intro w' hSw; go_simp; try (with_reducible rfl)))); (try simp only [Act.put, List.setIfInBounds_toArray, List.set_cons_zero, List.set_cons_succ])
            refine wpAnyH_done (by kernel_rfl) ?_ _
            go_wp2_with (fail)
            go_meet
            case rel => exact ⟨R1.heap.size, D1, d1, D2, d2, by first | rfl | (simp; done), by first | rfl | (simp; done), BKb, CD1, cc3, CD2, cc4, HBc⟩
          case rest =>
            clear PA j0 j1 j2 BKm HBr hcm hiw
            obtain ⟨B14, D1, d1, D2, d2, rfl, rfl, BKb, CD1, cc3, CD2, cc4, HBd⟩ := hcut
            have HBr := Aside0.mk (below_step HB7.out HBd.out)
            have BKa := Aside0.mk (blk_below BKac.out HBd.out)
            have C1 := Aside0.mk (Kd.C_below C1c.out HBd.out)
            have C2 := Aside0.mk (Kd.C_below C2c.out HBd.out)
            have ya0 : wc.cell? ⟨B5, 0, none⟩ = some (.slice A1 a1.length c1) := (blk_cell BKa.out 0).trans rfl
            have ya1 : wc.cell? ⟨B5, 1, none⟩ = some (.slice A2 a2.length c2) := (blk_cell BKa.out 1).trans rfl
            have ya2 : wc.cell? ⟨B5, 2, none⟩ = some (.slice none 0 0) := (blk_cell BKa.out 2).trans rfl
            have yb0 : wc.cell? ⟨B14, 0, none⟩ = some (.slice D1 bb1.length d1) := (blk_cell BKb.out 0).trans rfl
            have yb1 : wc.cell? ⟨B14, 1, none⟩ = some (.slice D2 bb2.length d2) := (blk_cell BKb.out 1).trans rfl
            have yb2 : wc.cell? ⟨B14, 2, none⟩ = some (.slice none 0 0) := (blk_cell BKb.out 2).trans rfl
            cases hFx : F x with
            | true =>
              obtain ⟨p1, p2, p3, v, g, hRS, hg⟩ := hyes hFx
              have p1' := p1.symm
              have p2' := p2.symm
              have p3' := p3.symm
              clear p1 p2 p3 hyes hno HON HFI HBA
              subst p1' p2' p3'
              have HRS := Aside0.mk hRS
              clear hRS
              have PSM := Aside0.mk (show ∀ W : World, Kd.C k45 W A1 a1.length a1 → Kd.C (Kd.int .u8) W A2 a2.length a2 → Kd.C k45 W D1 a1.length a1 → Kd.C (Kd.int .u8) W D2 a2.length a2 → Calls Tryd.prog 16 #[.agg #[.slice A1 a1.length c1, .slice A2 a2.length c2, .slice none 0 0], .agg #[.slice D1 a1.length d1, .slice D2 a2.length d2, .slice none 0 0]] W (fun e w' => e = .returned (.bool true) ∧ Below W.heap.size W w') from fun W h1 h2 h3 h4 => mailcoachlaw01_SameMessage.calls k A1 c1 a1 A2 c2 a2 none 0 [] D1 d1 a1 D2 d2 a2 none 0 [] true W h1 cc1 h2 cc2 ⟨rfl, by simp, fun h => by simp at h⟩ (Nat.le_refl _) h3 cc3 h4 cc4 ⟨rfl, by simp, fun h => by simp at h⟩ (Nat.le_refl _) (sm_message a1 a2 k sh1 sh2 (by omega) (by omega)))
              have PRS := Aside0.mk (show ∀ W : World, Kd.C k45 W A1 a1.length a1 → Kd.C (Kd.int .u8) W A2 a2.length a2 → MsgTab W → Calls Tryd.prog 17 #[.agg #[.slice A1 a1.length c1, .slice A2 a2.length c2, .slice none 0 0]] W (fun e w' => e = .returned (.tuple #[.int .i64 v, .int .i64 g]) ∧ Below W.heap.size W w') from fun W h1 h2 h3 => message_Response.calls A1 c1 a1 A2 c2 a2 none 0 [] v g W h1 cc1 h2 cc2 ⟨rfl, by simp, fun h => by simp at h⟩ (Nat.le_refl _) h3 HRS.out)
              by_cases hz0 : e1 = 0
              · subst hz0
                obtain rfl := hg rfl
                go_wp2_with (first | (go_at_call 16; (with_reducible refine (PSM.out _ C1.out C2.out CD1.out CD2.out).mono ?_); rintro e s1 ⟨rfl, hb⟩; have HBs := Aside0.mk (below_step HBr.out hb); have C1s := Aside0.mk (Kd.C_below C1.out hb); have C2s := Aside0.mk (Kd.C_below C2.out hb); have ys0 := pw_cell_below hb ya0; have ys1 := pw_cell_below hb ya1; have ys2 := pw_cell_below hb ya2; clear hb) | (go_at_call 17; (with_reducible refine (PRS.out _ C1s.out C2s.out (HT.out.below HBs.out)).mono ?_); rintro e s2 ⟨rfl, hb⟩; have HBt := Aside0.mk (below_step HBs.out hb); clear hb) | (go_at_call 11; (with_reducible refine (mailcoachlaw22_lives.calls _ (HT.out.below HBt.out)).mono ?_); rintro e s3 ⟨rfl, hb⟩; have HBu := Aside0.mk (below_step HBt.out hb); clear hb))
                go_ret
                exact ⟨rfl, HBu.out⟩
              · have z1 : (e1 == 0) = false := beq_false_of_ne hz0
                have z2 : (e1 != 0) = true := by simp [bne, z1]
                go_wp2_with (first | (go_at_call 16; (with_reducible refine (PSM.out _ C1.out C2.out CD1.out CD2.out).mono ?_); rintro e s1 ⟨rfl, hb⟩; have HBs := Aside0.mk (below_step HBr.out hb); have C1s := Aside0.mk (Kd.C_below C1.out hb); have C2s := Aside0.mk (Kd.C_below C2.out hb); have ys0 := pw_cell_below hb ya0; have ys1 := pw_cell_below hb ya1; have ys2 := pw_cell_below hb ya2; clear hb) | (go_at_call 17; (with_reducible refine (PRS.out _ C1s.out C2s.out (HT.out.below HBs.out)).mono ?_); rintro e s2 ⟨rfl, hb⟩; have HBt := Aside0.mk (below_step HBs.out hb); clear hb) | (go_at_call 11; (with_reducible refine (mailcoachlaw22_lives.calls _ (HT.out.below HBt.out)).mono ?_); rintro e s3 ⟨rfl, hb⟩; have HBu := Aside0.mk (below_step HBt.out hb); clear hb))
                go_ret
                exact ⟨rfl, HBu.out⟩
            | false =>
              obtain ⟨p1, rfl, p3⟩ := hno hFx
              have P3 := Aside0.mk p3
              clear p3 hyes hno HON HFI HBA
              have hl1 : bb1.length = 1 := by rw [p1]; rfl
              have hli : ((bb1.length : Nat) : Int) = 1 := by omega
              obtain ⟨adz, hAz, x0, x1⟩ := at_T45 CD1.out (0 : Int) (by omega) (by omega)
              have ha0 : adz.add 0 = adz := by first | rfl | (unfold Addr.add; split <;> simp_all)
              have hf1 : (rd_T45 bb1 0).f1 = ⟨#[52, 48, 52]⟩ := by rw [p1]; rfl
              rw [hf1] at x1
              (try simp only [Int.toNat_zero, Nat.zero_mul, ha0] at x0 x1)
              have hbe : ((bb1.length : Int) != 1) = false := by rw [hli]; rfl
              have hlt0 : (0 : Int) < (bb1.length : Int) := by omega
              subst hAz
              have P1 := Aside0.mk p1
              clear ha0 hf1 p1 hl1 hli x0
              go_wp2_with (fail)
              go_roundw
              case rel => exact ⟨i + 1, by omega, by go_num, HBd, P3⟩
              case measure => have := HLT.out; simp [intOf]; omega
      · obtain rfl : i = l.length := by omega
        have hfn := HFN.out
        rw [List.drop_length] at hfn
        obtain ⟨p12, p3⟩ := Prod.mk.inj (HFI.out (hfn.trans rfl))
        obtain ⟨p1, p2⟩ := Prod.mk.inj p12
        subst p3
        have ya0 : wr.cell? ⟨B5, 0, none⟩ = some (.slice A1 a1.length c1) := (blk_cell BKa.out 0).trans rfl
        clear hfn p12 p2 HON HFI
        have hl1 : a1.length = 1 := by rw [p1]; rfl
        have hli : ((a1.length : Nat) : Int) = 1 := by omega
        obtain ⟨adz, hAz, x0, x1⟩ := at_T45 C1.out (0 : Int) (by omega) (by omega)
        have ha0 : adz.add 0 = adz := by first | rfl | (unfold Addr.add; split <;> simp_all)
        have hf1 : (rd_T45 a1 0).f1 = ⟨#[52, 48, 52]⟩ := by rw [p1]; rfl
        rw [hf1] at x1
        (try simp only [Int.toNat_zero, Nat.zero_mul, ha0] at x0 x1)
        have hbe : ((a1.length : Int) != 1) = false := by rw [hli]; rfl
        have hlt0 : (0 : Int) < (a1.length : Int) := by omega
        subst hAz
        have P1 := Aside0.mk p1
        clear ha0 hf1 p1 hl1 hli x0
        go_wp2_with (first | (go_at_call 11; (with_reducible refine (mailcoachlaw22_lives.calls _ (HT.out.below HBr.out)).mono ?_); rintro e s3 ⟨rfl, hb⟩; have HBu := Aside0.mk (below_step HBr.out hb); clear hb))
        go_ret
        exact ⟨rfl, HBu.out⟩
  · have q1 := first_bad HQ.out q0 HA.out
    subst q1
    have z1 : (e1 == 0) = false := beq_false_of_ne q0
    have z2 : (e1 != 0) = true := by simp [bne, z1]
    go_wp2_with (first | (go_at_call 15; (with_reducible refine (message_Request.calls A0_0 c0_0 l0_0 A0_1 c0_1 l0_1 A0_2 c0_2 l0_2 e1 _ (Kd.C_below HR0.out HB4.out) hc0_0 (Kd.C_below HR1.out HB4.out) hc0_1 (Kd.C_below HR2.out HB4.out) hc0_2 (HT.out.below HB4.out) HQ.out).mono ?_); rintro e w4 ⟨rfl, hb⟩; have HB5 := Aside0.mk (below_step HB4.out hb); have j0a := pw_cell_below hb j0; have j1a := pw_cell_below hb j1; have j2a := pw_cell_below hb j2; clear hb) | (go_at_call 15; (with_reducible refine (message_Request.calls A0_0 c0_0 l0_0 A0_1 c0_1 l0_1 A0_2 c0_2 l0_2 e1 _ (Kd.C_below HR0.out HB5.out) hc0_0 (Kd.C_below HR1.out HB5.out) hc0_1 (Kd.C_below HR2.out HB5.out) hc0_2 (HT.out.below HB5.out) HQ.out).mono ?_); rintro e w5 ⟨rfl, hb⟩; have HB6 := Aside0.mk (below_step HB5.out hb); clear hb) | (go_at_call 11; (with_reducible refine (mailcoachlaw22_lives.calls _ (HT.out.below HB6.out)).mono ?_); rintro e w6 ⟨rfl, hb⟩; have HB7 := Aside0.mk (below_step HB6.out hb); clear hb))
    go_ret
    exact ⟨rfl, HB7.out⟩
end Go.Proofs.YtcgbpallpnaclaaDoor.T
