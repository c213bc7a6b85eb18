/- A part of the walk of the laws of layer 26 (script): contracts of functions of the program, each walked once; and the plain law. -/
import Derived.Test.YtegmbihjjhhpmaaDoorSV
import Derived.Test.YtegmbihjjhhpmaaDoorSh
import Derived.Lib.ItoaLen
import Derived.IntWalk
import Derived.Great.Walk
import Derived.RangeFuncNested
import Derived.RangeFuncBound
import Derived.RangeFuncCalls
import Derived.RangeFuncLeaves
import Derived.RangeFuncBox
import Derived.OwnWalkIn
import Derived.TacticsInMore
import Derived.LoopNIn
import Derived.LoopIn
import Derived.Deep.DeepMust
import Derived.LoopN
import Derived.Laws.BitsAllLaws
import Derived.Maps.OwnIn
import Derived.Shelf.Abstract
import Derived.Sort.CutIn
import Derived.Shelf.RegionOpen
import Derived.StillTailTactics
import Derived.Great.BuildSlice
import Derived.Laws.Tables
import Derived.Lib.OthersKept
import Derived.Outline
import Derived.Deep.RegionHeld3
import Derived.Laws.StructEq
import Derived.Deep.RegionLaw
import Derived.Deep.RegionWith
import Derived.ArgAppend
namespace Go.Proofs.YtegmbihjjhhpmaaDoor.T
open Go.RowKit Go.Proofs.YtegmbihjjhhpmaaDoorW.PrintWords Go.Proofs.YtegmbihjjhhpmaaDoorW.PrintLast Go.Proofs.YtegmbihjjhhpmaaDoorW.PrintMore
open Go.Proofs.YtegmbihjjhhpmaaDoor.PSC
set_option linter.unusedVariables false
set_option linter.unusedSimpArgs false
/-! ### lives -/
theorem sc_smalls1 : ∀ e ∈ [sc_e1, sc_e2, sc_e3], sc_smallE e := by
  intro e he
  simp only [List.mem_cons, List.not_mem_nil, or_false] at he
  rcases he with rfl | rfl | rfl <;> simp [sc_smallE, sc_smallF, sc_ok64, sc_e1, sc_e2, sc_e3, sc_msg0] <;> decide
set_option maxHeartbeats 3200000 in
set_option maxRecDepth 100000 in
theorem script_lives.calls (w : World) (hT : ScTab w) : Calls Tryd.prog 7 #[] w fun e w' => e = .returned (.bool true) ∧ Below w.heap.size w w' := by
  have HT := Aside0.mk hT
  have P1 := Aside0.mk (fun (w : World) (h : ScTab w) => script_Parse.calls sc_s1 w (by decide) h)
  have P2 := Aside0.mk (fun (w : World) (h : ScTab w) => script_Parse.calls sc_s2 w (by decide) h)
  have P3 := Aside0.mk (fun (w : World) (h : ScTab w) => script_Rules.calls sc_s3 w (by decide) h)
  rw [sc_Parse1] at P1
  rw [sc_Parse2] at P2
  rw [sc_Rules3] at P3
  have T1 := Aside0.mk (fun (w : World) A c (h : Kd.C k47 w A [sc_e1, sc_e2, sc_e3].length [sc_e1, sc_e2, sc_e3]) hc (hT : ScTab w) => script_Text.calls A c [sc_e1, sc_e2, sc_e3] w h hc (by decide) sc_smalls1 hT)
  rw [sc_Text1] at T1
  obtain ⟨S, hS⟩ : ∃ S, sc_s1 = S := ⟨_, rfl⟩
  have hS2 : (⟨#[97, 115, 107, 32, 102, 32, 51, 97, 54, 100, 32, 52, 55, 32, 98, 32, 48, 48, 10, 103, 111, 97, 119, 97, 121, 10, 112, 97, 115, 115, 32, 50, 10]⟩ : ByteArray) = S := hS
  have hS3 : sc_b sc_s1.data.toList = S := by rw [hS]; rfl
  simp only [hS3] at T1
  rw [hS] at P1
  have hSS : (S.toList == S.toList) = true := by simp
  clear hT hS hS3
  go_enter Tryd.func7, Tryd.ntmps7
  go_upto_region 2 with (fail)
  (try rw [hS2])
  clear hS2
  go_upto_region 3 with (go_at_call 9; refine (P1.out _ HT.out).mono ?_; rintro e w1 ⟨⟨A1, c1, rfl, ho⟩, hz⟩; have HO1 := Aside0.mk (sc_out_ev ho); have HT1 := Aside0.mk (HT.out.below hz); have HB1 := Aside0.mk hz; clear hz ho)
  have hlen3 : [sc_e1, sc_e2, sc_e3].length = 3 := rfl
  go_upto_region 4 with (go_at_call 8; refine (T1.out w1 A1 3 HO1.out (by decide) HT1.out).mono ?_; rintro e w2 ⟨rfl, hz⟩; have HO2 := Aside0.mk (Kd.C_below HO1.out hz); have HT2 := Aside0.mk (HT1.out.below hz); have HB2 := Aside0.mk (below_step HB1.out hz); clear hz)
  go_upto_region 5 with (go_at_call 9; refine (P2.out _ HT2.out).mono ?_; rintro e w3 ⟨⟨A3, c3, rfl, ho⟩, hz⟩; have HO3 := Aside0.mk (Kd.C_below HO2.out hz); have HT3 := Aside0.mk (HT2.out.below hz); have HB3 := Aside0.mk (below_step HB2.out hz); clear hz ho)
  clear P1 P2 T1
  go_wp2_with (go_at_call 14; refine (P3.out _ HT3.out).mono ?_; rintro e w4 ⟨⟨A4, c4, rfl, ho⟩, hz⟩; have HO4 := Aside0.mk (Kd.C_below HO3.out hz); have HR4 := Aside0.mk (sc_out_ru ho); have HB4 := Aside0.mk (below_step HB3.out hz); clear hz ho; obtain ⟨ad0, a2, b2, a3, b3, a4, b4, a5, b5, e0, x0, x1, x2, x3, x4, x5, l2, g2, l3, g3, l4, g4, l5, g5⟩ := at_T47 HO4.out 0 (by decide) (by decide); cases e0; obtain ⟨f0, ef, y0, y1⟩ := at_T49 g2 0 (by decide) (by decide); cases ef; obtain ⟨ad1, a6, b6, a7, b7, a8, b8, a9, b9, e9, z0, z1, z2, z3, z4, z5, m2, k2, m3, k3, m4, k4, m5, k5⟩ := at_T47 HO4.out 2 (by decide) (by decide); cases e9; obtain ⟨ad2, d3, q3, d4, q4, e8, u0, u1, u2, u3, u4, u5, us⟩ := at_T51 HR4.out 0 (by decide) (by decide); cases e8; have X2 : w4.cell? ⟨ad0.block, ad0.off + 2, none⟩ = some (.slice (some f0) 1 b2) := x2; have X3 : w4.cell? ⟨ad0.block, ad0.off + 3, none⟩ = some (.slice a3 1 b3) := x3; have Y0 : w4.cell? f0 = some (.string ⟨#[58, 109]⟩) := y0; have Y1 : w4.cell? ⟨f0.block, f0.off + 1, none⟩ = some (.string ⟨#[71]⟩) := y1; have Z1 : w4.cell? ⟨ad0.block, ad0.off + 12 + 1, none⟩ = some (.int .i64 2) := z1; have Z1b : w4.cell? ⟨ad0.block, ad0.off + 13, none⟩ = some (.int .i64 2) := z1; have U0 : w4.cell? ad2 = some (.string ⟨#[]⟩) := u0; have U1 : w4.cell? ⟨ad2.block, ad2.off + 1, none⟩ = some (.string ⟨#[47]⟩) := u1; have U2 : w4.cell? ⟨ad2.block, ad2.off + 2, none⟩ = some (.int .i64 200) := u2; have U5 : w4.cell? ⟨ad2.block, ad2.off + 5, none⟩ = some (.bool true) := u5; clear x0 x1 x2 x3 x4 x5 y0 y1 z0 z1 z2 z3 z4 z5 u0 u1 u2 u3 u4 u5 us l2 g2 l3 g3 l4 g4 l5 g5 m2 k2 m3 k3 m4 k4 m5 k5)
  trace_state
  go_ret
  exact ⟨rfl, HB4.out⟩
end Go.Proofs.YtegmbihjjhhpmaaDoor.T
