/- A part of the walk of the laws of layer 26 (script): contracts of functions of the program, each walked once; and the plain law. -/
import Derived.Test.YtegmbihjjhhpmaaDoorSQ
import Derived.Test.YtegmbihjjhhpmaaDoorSh
import Derived.Lib.ItoaLen
import Derived.IntWalk
import Derived.RangeFuncNested
import Derived.RangeFuncBound
import Derived.RangeFuncCalls
import Derived.RangeFuncLeaves
import Derived.RangeFuncBox
import Derived.OwnWalkIn
import Derived.TacticsInMore
import Derived.LoopNIn
import Derived.LoopIn
import Derived.Deep.DeepMust
import Derived.LoopN
import Derived.Laws.BitsAllLaws
import Derived.Maps.OwnIn
import Derived.Shelf.Abstract
import Derived.Sort.CutIn
import Derived.Shelf.RegionOpen
import Derived.StillTailTactics
import Derived.Great.BuildSlice
import Derived.Laws.Tables
import Derived.Lib.OthersKept
import Derived.Outline
import Derived.Deep.RegionHeld3
import Derived.Laws.StructEq
import Derived.Deep.RegionLaw
import Derived.Deep.RegionWith
import Derived.ArgAppend
namespace Go.Proofs.YtegmbihjjhhpmaaDoor.T
open Go.RowKit Go.Proofs.YtegmbihjjhhpmaaDoorW.PrintWords Go.Proofs.YtegmbihjjhhpmaaDoorW.PrintLast Go.Proofs.YtegmbihjjhhpmaaDoorW.PrintMore
open Go.Proofs.YtegmbihjjhhpmaaDoor.PSC
set_option linter.unusedVariables false
set_option linter.unusedSimpArgs false
/-! ### Text's function (made by wip/gen_line.py) -/
def sc_smallE (x : S47) : Prop := sc_ok64 x.f1 ∧ sc_smallF x.f2.f0 ∧ x.f2.f0.length ≤ 1000000 ∧ x.f2.f1.length ≤ 1000000 ∧ sc_smallF x.f2.f2 ∧ x.f2.f2.length ≤ 1000000 ∧ x.f3.length ≤ 1000000
theorem sc_row_kinds (j : Nat) (r : ByteArray × Int × Bool × Bool) (hj : sc_rows[j]? = some r) : j < 9 ∧ r.1.size ≤ 8 ∧ ((r.2.1 = 1 ∧ r.2.2.1 = false ∧ r.2.2.2 = false) ∨ (r.2.1 ≠ 1 ∧ r.2.2.1 = true ∧ r.2.2.2 = false) ∨ (r.2.1 ≠ 1 ∧ r.2.2.1 = false ∧ r.2.2.2 = false) ∨ (r.2.1 ≠ 1 ∧ r.2.2.1 = true ∧ r.2.2.2 = true)) := by
  have hlt : j < 9 := (List.getElem?_eq_some_iff.1 hj).1
  have : j = 0 ∨ j = 1 ∨ j = 2 ∨ j = 3 ∨ j = 4 ∨ j = 5 ∨ j = 6 ∨ j = 7 ∨ j = 8 := by omega
  rcases this with rfl | rfl | rfl | rfl | rfl | rfl | rfl | rfl | rfl <;> (obtain rfl := (Option.some.inj hj); exact ⟨by decide, by decide, by decide⟩)
theorem script_told_f.calls (A : Option Addr) (c : Nat) (l : List S49) (w : World) (hr : Kd.C k49 w A l.length l) (hc : l.length ≤ c) (hs : sc_smallF l) (hl : l.length ≤ 1000000) :
    Calls Tryd.prog 21 #[.string ⟨#[102]⟩, .slice A l.length c] w fun e w' => e = .returned (.string (sc_b (sc_toldL sc_f l))) ∧ Below w.heap.size w w' := script_told.calls sc_f A c l w hr hc hs (by decide) hl
theorem script_told_t.calls (A : Option Addr) (c : Nat) (l : List S49) (w : World) (hr : Kd.C k49 w A l.length l) (hc : l.length ≤ c) (hs : sc_smallF l) (hl : l.length ≤ 1000000) :
    Calls Tryd.prog 21 #[.string ⟨#[116]⟩, .slice A l.length c] w fun e w' => e = .returned (.string (sc_b (sc_toldL sc_t l))) ∧ Below w.heap.size w w' := script_told.calls sc_t A c l w hr hc hs (by decide) hl
set_option maxHeartbeats 6400000 in
set_option maxRecDepth 100000 in
theorem line_none (B4 : Nat) (x : S47) (W w0 : World) (A2 : Option Addr) (c2 : Nat) (A3 : Option Addr) (c3 : Nat) (A4 : Option Addr) (c4 : Nat) (A5 : Option Addr) (c5 : Nat) (hT : ScTab w0) (hRK : w0.heap[B4]? = some (.cells sc_rowsC 54 (0, 0))) (hx : sc_smallE x) (hW : Below w0.heap.size w0 W) (ha : x.f2.f0.length ≤ c2 ∧ k49.C W A2 x.f2.f0.length x.f2.f0 ∧ x.f2.f1.length ≤ c3 ∧ (Kd.int .u8).C W A3 x.f2.f1.length x.f2.f1 ∧ x.f2.f2.length ≤ c4 ∧ k49.C W A4 x.f2.f2.length x.f2.f2 ∧ x.f3.length ≤ c5 ∧ (Kd.int .u8).C W A5 x.f3.length x.f3) (hi : sc_idx x.f0 sc_rows 0 = -1) (R : ByteArray × Int) (hR : R = (sc_b [], 1)) :
    Calls Tryd.prog 18 #[.agg #[.int .u8 x.f0, .int .i64 x.f1, .slice A2 x.f2.f0.length c2, .slice A3 x.f2.f1.length c3, .slice A4 x.f2.f2.length c4, .slice A5 x.f3.length c5], .pointer (some ⟨B4, 0, none⟩)] W fun e w' => e = .returned (.tuple #[.string R.1, .int .i64 R.2]) ∧ Below W.heap.size W w' := by
  obtain ⟨a1, a2, a3, a4, a5, a6, a7, a8⟩ := ha
  obtain ⟨s0, s1, s2, s3, s4, s5, s6⟩ := hx
  have HOK := Aside0.mk s0
  have HSF0 := Aside0.mk s1
  have HL2 := Aside0.mk s2
  have HL3 := Aside0.mk s3
  have HSF2 := Aside0.mk s4
  have HL4 := Aside0.mk s5
  have HL5 := Aside0.mk s6
  have HC2 := Aside0.mk a1
  have HC3 := Aside0.mk a3
  have HC4 := Aside0.mk a5
  have HC5 := Aside0.mk a7
  have HRR := Aside0.mk hR
  obtain ⟨W1, hW1⟩ : ∃ V, W.alloc (.cells #[.int .u8 x.f0, .int .i64 x.f1, .slice A2 x.f2.f0.length c2, .slice A3 x.f2.f1.length c3, .slice A4 x.f2.f2.length c4, .slice A5 x.f3.length c5] 47) = V := ⟨_, rfl⟩
  obtain ⟨B, hBB⟩ : ∃ b, W.heap.size = b := ⟨_, rfl⟩
  have hbw : Below W.heap.size W W1 := by rw [← hW1]; exact below_alloc (Below.refl _ _) _
  have BK := Aside0.mk (show W1.heap[B]? = some (.cells #[.int .u8 x.f0, .int .i64 x.f1, .slice A2 x.f2.f0.length c2, .slice A3 x.f2.f1.length c3, .slice A4 x.f2.f2.length c4, .slice A5 x.f3.length c5] 47 (0, 0)) by rw [← hW1, ← hBB]; exact heap_alloc_new _ _)
  have HBW := Aside0.mk hbw
  have HR2 := Aside0.mk (Kd.C_below a2 hbw)
  have HR3 := Aside0.mk (Kd.C_below a4 hbw)
  have HR4 := Aside0.mk (Kd.C_below a6 hbw)
  have HR5 := Aside0.mk (Kd.C_below a8 hbw)
  have HB := Aside0.mk (Below.refl W1.heap.size W1)
  have HTT := Aside0.mk ((hT.below hW).below hbw)
  have RK := Aside0.mk (show W1.heap[B4]? = some (.cells sc_rowsC 54 (0, 0)) from (hbw.block B4 (Nat.lt_of_lt_of_le (tk_lt hRK) hW.size)).trans ((hW.block B4 (tk_lt hRK)).trans hRK))
  have RK0 := RK
  clear hW hbw hT hRK a1 a2 a3 a4 a5 a6 a7 a8 s0 s1 s2 s3 s4 s5 s6 hR
  go_enter Tryd.func18, Tryd.ntmps18
  go_upto_region 1 with (fail)
  (try rw [hW1])
  (try rw [hBB])
  clear hW1 hBB
  have d0 : W1.cell? ⟨B, 0, none⟩ = some (.int .u8 x.f0) := (blk_cell BK.out 0).trans rfl
  have d1 : W1.cell? ⟨B, 1, none⟩ = some (.int .i64 x.f1) := (blk_cell BK.out 1).trans rfl
  have d2 : W1.cell? ⟨B, 2, none⟩ = some (.slice A2 x.f2.f0.length c2) := (blk_cell BK.out 2).trans rfl
  have d3 : W1.cell? ⟨B, 3, none⟩ = some (.slice A3 x.f2.f1.length c3) := (blk_cell BK.out 3).trans rfl
  have d4 : W1.cell? ⟨B, 4, none⟩ = some (.slice A4 x.f2.f2.length c4) := (blk_cell BK.out 4).trans rfl
  have d5 : W1.cell? ⟨B, 5, none⟩ = some (.slice A5 x.f3.length c5) := (blk_cell BK.out 5).trans rfl
  go_wp2_with (first | (go_at_call 19; refine (sc_IndexFunc.calls B4 B x.f0 _ _ RK.out BK.out rfl).mono ?_; rw [hi]; rintro e w1 ⟨rfl, hz⟩; have HB := Aside0.mk (show Below W1.heap.size W1 w1 from by first | exact below_step HB.out hz | exact below_step (below_drew1 HB.out) hz); have BK := Aside0.mk (show w1.heap[B]? = some (.cells #[.int .u8 x.f0, .int .i64 x.f1, .slice A2 x.f2.f0.length c2, .slice A3 x.f2.f1.length c3, .slice A4 x.f2.f2.length c4, .slice A5 x.f3.length c5] 47 (0, 0)) from by first | exact blk_below BK.out hz | exact (hz.block B (tk_lt BK.out)).trans BK.out); have RK := Aside0.mk (show w1.heap[B4]? = some (.cells sc_rowsC 54 (0, 0)) from by first | exact blk_below RK.out hz | exact (hz.block B4 (tk_lt RK.out)).trans RK.out); have d0 : w1.cell? ⟨B, 0, none⟩ = some (.int .u8 x.f0) := (blk_cell BK.out 0).trans rfl; have d1 : w1.cell? ⟨B, 1, none⟩ = some (.int .i64 x.f1) := (blk_cell BK.out 1).trans rfl; have d2 : w1.cell? ⟨B, 2, none⟩ = some (.slice A2 x.f2.f0.length c2) := (blk_cell BK.out 2).trans rfl; have d3 : w1.cell? ⟨B, 3, none⟩ = some (.slice A3 x.f2.f1.length c3) := (blk_cell BK.out 3).trans rfl; have d4 : w1.cell? ⟨B, 4, none⟩ = some (.slice A4 x.f2.f2.length c4) := (blk_cell BK.out 4).trans rfl; have d5 : w1.cell? ⟨B, 5, none⟩ = some (.slice A5 x.f3.length c5) := (blk_cell BK.out 5).trans rfl; clear hz))
  go_ret2
  rw [HRR.out]
  exact ⟨rfl, below_step HBW.out HB.out⟩
set_option maxHeartbeats 6400000 in
set_option maxRecDepth 100000 in
theorem line_bad1 (B4 : Nat) (x : S47) (W w0 : World) (A2 : Option Addr) (c2 : Nat) (A3 : Option Addr) (c3 : Nat) (A4 : Option Addr) (c4 : Nat) (A5 : Option Addr) (c5 : Nat) (hT : ScTab w0) (hRK : w0.heap[B4]? = some (.cells sc_rowsC 54 (0, 0))) (hx : sc_smallE x) (hW : Below w0.heap.size w0 W) (ha : x.f2.f0.length ≤ c2 ∧ k49.C W A2 x.f2.f0.length x.f2.f0 ∧ x.f2.f1.length ≤ c3 ∧ (Kd.int .u8).C W A3 x.f2.f1.length x.f2.f1 ∧ x.f2.f2.length ≤ c4 ∧ k49.C W A4 x.f2.f2.length x.f2.f2 ∧ x.f3.length ≤ c5 ∧ (Kd.int .u8).C W A5 x.f3.length x.f3) (j : Nat) (r : ByteArray × Int × Bool × Bool) (hi : sc_idx x.f0 sc_rows 0 = (j : Int)) (hj : sc_rows[j]? = some r) (hk : x.f0 = r.2.1) (hm : 0 < x.f2.f0.length + x.f2.f1.length + x.f2.f2.length) (hk1 : x.f0 ≠ 1) (R : ByteArray × Int) (hR : R = (sc_b [], 1)) :
    Calls Tryd.prog 18 #[.agg #[.int .u8 x.f0, .int .i64 x.f1, .slice A2 x.f2.f0.length c2, .slice A3 x.f2.f1.length c3, .slice A4 x.f2.f2.length c4, .slice A5 x.f3.length c5], .pointer (some ⟨B4, 0, none⟩)] W fun e w' => e = .returned (.tuple #[.string R.1, .int .i64 R.2]) ∧ Below W.heap.size W w' := by
  obtain ⟨a1, a2, a3, a4, a5, a6, a7, a8⟩ := ha
  obtain ⟨s0, s1, s2, s3, s4, s5, s6⟩ := hx
  have HOK := Aside0.mk s0
  have HSF0 := Aside0.mk s1
  have HL2 := Aside0.mk s2
  have HL3 := Aside0.mk s3
  have HSF2 := Aside0.mk s4
  have HL4 := Aside0.mk s5
  have HL5 := Aside0.mk s6
  have HC2 := Aside0.mk a1
  have HC3 := Aside0.mk a3
  have HC4 := Aside0.mk a5
  have HC5 := Aside0.mk a7
  have HRR := Aside0.mk hR
  obtain ⟨W1, hW1⟩ : ∃ V, W.alloc (.cells #[.int .u8 x.f0, .int .i64 x.f1, .slice A2 x.f2.f0.length c2, .slice A3 x.f2.f1.length c3, .slice A4 x.f2.f2.length c4, .slice A5 x.f3.length c5] 47) = V := ⟨_, rfl⟩
  obtain ⟨B, hBB⟩ : ∃ b, W.heap.size = b := ⟨_, rfl⟩
  have hbw : Below W.heap.size W W1 := by rw [← hW1]; exact below_alloc (Below.refl _ _) _
  have BK := Aside0.mk (show W1.heap[B]? = some (.cells #[.int .u8 x.f0, .int .i64 x.f1, .slice A2 x.f2.f0.length c2, .slice A3 x.f2.f1.length c3, .slice A4 x.f2.f2.length c4, .slice A5 x.f3.length c5] 47 (0, 0)) by rw [← hW1, ← hBB]; exact heap_alloc_new _ _)
  have HBW := Aside0.mk hbw
  have HR2 := Aside0.mk (Kd.C_below a2 hbw)
  have HR3 := Aside0.mk (Kd.C_below a4 hbw)
  have HR4 := Aside0.mk (Kd.C_below a6 hbw)
  have HR5 := Aside0.mk (Kd.C_below a8 hbw)
  have HB := Aside0.mk (Below.refl W1.heap.size W1)
  have HTT := Aside0.mk ((hT.below hW).below hbw)
  have RK := Aside0.mk (show W1.heap[B4]? = some (.cells sc_rowsC 54 (0, 0)) from (hbw.block B4 (Nat.lt_of_lt_of_le (tk_lt hRK) hW.size)).trans ((hW.block B4 (tk_lt hRK)).trans hRK))
  have RK0 := RK
  clear hW hbw hT hRK a1 a2 a3 a4 a5 a6 a7 a8 s0 s1 s2 s3 s4 s5 s6 hR
  have HJ := Aside0.mk hj
  have HKK := Aside0.mk hk
  have hjl := (sc_row_kinds j r hj).1
  have hjz : (0 : Int) ≤ (j : Int) := by omega
  have hjz2 : ((j : Int) < 0) = False := eq_false (by omega)
  have hjz3 : (j : Int) < 9 := by omega
  clear hj hk
  have hkb : (x.f0 == 1) = false := by simp [hk1]
  have hkc : (x.f0 != 1) = true := by simp [hk1]
  have hkd : decide (x.f0 = 1) = false := by simp [hk1]
  have ew1 : wrap64 ((x.f2.f0.length : Int) + (x.f2.f1.length : Int)) = (x.f2.f0.length : Int) + (x.f2.f1.length : Int) := IntWalk.wrap64_in _ (by have := HL2.out; have := HL3.out; omega)
  have ew2 : wrap64 ((x.f2.f0.length : Int) + (x.f2.f1.length : Int) + (x.f2.f2.length : Int)) = (x.f2.f0.length : Int) + (x.f2.f1.length : Int) + (x.f2.f2.length : Int) := IntWalk.wrap64_in _ (by have := HL2.out; have := HL3.out; have := HL4.out; omega)
  have hs : 0 < (x.f2.f0.length : Int) + (x.f2.f1.length : Int) + (x.f2.f2.length : Int) := by omega
  have HM := Aside0.mk hm
  clear hm
  go_enter Tryd.func18, Tryd.ntmps18
  go_upto_region 1 with (fail)
  (try rw [hW1])
  (try rw [hBB])
  clear hW1 hBB
  have d0 : W1.cell? ⟨B, 0, none⟩ = some (.int .u8 x.f0) := (blk_cell BK.out 0).trans rfl
  have d1 : W1.cell? ⟨B, 1, none⟩ = some (.int .i64 x.f1) := (blk_cell BK.out 1).trans rfl
  have d2 : W1.cell? ⟨B, 2, none⟩ = some (.slice A2 x.f2.f0.length c2) := (blk_cell BK.out 2).trans rfl
  have d3 : W1.cell? ⟨B, 3, none⟩ = some (.slice A3 x.f2.f1.length c3) := (blk_cell BK.out 3).trans rfl
  have d4 : W1.cell? ⟨B, 4, none⟩ = some (.slice A4 x.f2.f2.length c4) := (blk_cell BK.out 4).trans rfl
  have d5 : W1.cell? ⟨B, 5, none⟩ = some (.slice A5 x.f3.length c5) := (blk_cell BK.out 5).trans rfl
  go_wp2_with (first | (go_at_call 19; refine (sc_IndexFunc.calls B4 B x.f0 _ _ RK.out BK.out rfl).mono ?_; rw [hi]; rintro e w1 ⟨rfl, hz⟩; have HB := Aside0.mk (show Below W1.heap.size W1 w1 from by first | exact below_step HB.out hz | exact below_step (below_drew1 HB.out) hz); have BK := Aside0.mk (show w1.heap[B]? = some (.cells #[.int .u8 x.f0, .int .i64 x.f1, .slice A2 x.f2.f0.length c2, .slice A3 x.f2.f1.length c3, .slice A4 x.f2.f2.length c4, .slice A5 x.f3.length c5] 47 (0, 0)) from by first | exact blk_below BK.out hz | exact (hz.block B (tk_lt BK.out)).trans BK.out); have RK := Aside0.mk (show w1.heap[B4]? = some (.cells sc_rowsC 54 (0, 0)) from by first | exact blk_below RK.out hz | exact (hz.block B4 (tk_lt RK.out)).trans RK.out); have d0 : w1.cell? ⟨B, 0, none⟩ = some (.int .u8 x.f0) := (blk_cell BK.out 0).trans rfl; have d1 : w1.cell? ⟨B, 1, none⟩ = some (.int .i64 x.f1) := (blk_cell BK.out 1).trans rfl; have d2 : w1.cell? ⟨B, 2, none⟩ = some (.slice A2 x.f2.f0.length c2) := (blk_cell BK.out 2).trans rfl; have d3 : w1.cell? ⟨B, 3, none⟩ = some (.slice A3 x.f2.f1.length c3) := (blk_cell BK.out 3).trans rfl; have d4 : w1.cell? ⟨B, 4, none⟩ = some (.slice A4 x.f2.f2.length c4) := (blk_cell BK.out 4).trans rfl; have d5 : w1.cell? ⟨B, 5, none⟩ = some (.slice A5 x.f3.length c5) := (blk_cell BK.out 5).trans rfl; have hrc := sc_rowcell _ B4 RK.out j r HJ.out; obtain ⟨q0, q1, q2, q3⟩ := hrc; clear hz))
  go_ret2
  rw [HRR.out]
  exact ⟨rfl, below_step HBW.out HB.out⟩
set_option maxHeartbeats 6400000 in
set_option maxRecDepth 100000 in
theorem line_bad2 (B4 : Nat) (x : S47) (W w0 : World) (A2 : Option Addr) (c2 : Nat) (A3 : Option Addr) (c3 : Nat) (A4 : Option Addr) (c4 : Nat) (A5 : Option Addr) (c5 : Nat) (hT : ScTab w0) (hRK : w0.heap[B4]? = some (.cells sc_rowsC 54 (0, 0))) (hx : sc_smallE x) (hW : Below w0.heap.size w0 W) (ha : x.f2.f0.length ≤ c2 ∧ k49.C W A2 x.f2.f0.length x.f2.f0 ∧ x.f2.f1.length ≤ c3 ∧ (Kd.int .u8).C W A3 x.f2.f1.length x.f2.f1 ∧ x.f2.f2.length ≤ c4 ∧ k49.C W A4 x.f2.f2.length x.f2.f2 ∧ x.f3.length ≤ c5 ∧ (Kd.int .u8).C W A5 x.f3.length x.f3) (j : Nat) (r : ByteArray × Int × Bool × Bool) (hi : sc_idx x.f0 sc_rows 0 = (j : Int)) (hj : sc_rows[j]? = some r) (hk : x.f0 = r.2.1) (hm : 0 < x.f2.f0.length + x.f2.f1.length + x.f2.f2.length) (hk1 : x.f0 = 1) (hn : x.f1 ≠ 0) (hrn : r.2.2.1 = false) (R : ByteArray × Int) (hR : R = (sc_b [], 1)) :
    Calls Tryd.prog 18 #[.agg #[.int .u8 x.f0, .int .i64 x.f1, .slice A2 x.f2.f0.length c2, .slice A3 x.f2.f1.length c3, .slice A4 x.f2.f2.length c4, .slice A5 x.f3.length c5], .pointer (some ⟨B4, 0, none⟩)] W fun e w' => e = .returned (.tuple #[.string R.1, .int .i64 R.2]) ∧ Below W.heap.size W w' := by
  obtain ⟨a1, a2, a3, a4, a5, a6, a7, a8⟩ := ha
  obtain ⟨s0, s1, s2, s3, s4, s5, s6⟩ := hx
  have HOK := Aside0.mk s0
  have HSF0 := Aside0.mk s1
  have HL2 := Aside0.mk s2
  have HL3 := Aside0.mk s3
  have HSF2 := Aside0.mk s4
  have HL4 := Aside0.mk s5
  have HL5 := Aside0.mk s6
  have HC2 := Aside0.mk a1
  have HC3 := Aside0.mk a3
  have HC4 := Aside0.mk a5
  have HC5 := Aside0.mk a7
  have HRR := Aside0.mk hR
  obtain ⟨W1, hW1⟩ : ∃ V, W.alloc (.cells #[.int .u8 x.f0, .int .i64 x.f1, .slice A2 x.f2.f0.length c2, .slice A3 x.f2.f1.length c3, .slice A4 x.f2.f2.length c4, .slice A5 x.f3.length c5] 47) = V := ⟨_, rfl⟩
  obtain ⟨B, hBB⟩ : ∃ b, W.heap.size = b := ⟨_, rfl⟩
  have hbw : Below W.heap.size W W1 := by rw [← hW1]; exact below_alloc (Below.refl _ _) _
  have BK := Aside0.mk (show W1.heap[B]? = some (.cells #[.int .u8 x.f0, .int .i64 x.f1, .slice A2 x.f2.f0.length c2, .slice A3 x.f2.f1.length c3, .slice A4 x.f2.f2.length c4, .slice A5 x.f3.length c5] 47 (0, 0)) by rw [← hW1, ← hBB]; exact heap_alloc_new _ _)
  have HBW := Aside0.mk hbw
  have HR2 := Aside0.mk (Kd.C_below a2 hbw)
  have HR3 := Aside0.mk (Kd.C_below a4 hbw)
  have HR4 := Aside0.mk (Kd.C_below a6 hbw)
  have HR5 := Aside0.mk (Kd.C_below a8 hbw)
  have HB := Aside0.mk (Below.refl W1.heap.size W1)
  have HTT := Aside0.mk ((hT.below hW).below hbw)
  have RK := Aside0.mk (show W1.heap[B4]? = some (.cells sc_rowsC 54 (0, 0)) from (hbw.block B4 (Nat.lt_of_lt_of_le (tk_lt hRK) hW.size)).trans ((hW.block B4 (tk_lt hRK)).trans hRK))
  have RK0 := RK
  clear hW hbw hT hRK a1 a2 a3 a4 a5 a6 a7 a8 s0 s1 s2 s3 s4 s5 s6 hR
  have HJ := Aside0.mk hj
  have HKK := Aside0.mk hk
  have hjl := (sc_row_kinds j r hj).1
  have hjz : (0 : Int) ≤ (j : Int) := by omega
  have hjz2 : ((j : Int) < 0) = False := eq_false (by omega)
  have hjz3 : (j : Int) < 9 := by omega
  clear hj hk
  have hn0 : (x.f1 == 0) = false := by simp [hn]
  have hn1 : (x.f1 != 0) = true := by simp [hn]
  have hkb : (x.f0 == 1) = true := by simp [hk1]
  have hkc : (x.f0 != 1) = false := by simp [hk1]
  have hkd : decide (x.f0 = 1) = true := by simp [hk1]
  have HK1 := Aside0.mk hk1
  clear hk1
  have ew1 : wrap64 ((x.f2.f0.length : Int) + (x.f2.f1.length : Int)) = (x.f2.f0.length : Int) + (x.f2.f1.length : Int) := IntWalk.wrap64_in _ (by have := HL2.out; have := HL3.out; omega)
  have ew2 : wrap64 ((x.f2.f0.length : Int) + (x.f2.f1.length : Int) + (x.f2.f2.length : Int)) = (x.f2.f0.length : Int) + (x.f2.f1.length : Int) + (x.f2.f2.length : Int) := IntWalk.wrap64_in _ (by have := HL2.out; have := HL3.out; have := HL4.out; omega)
  have hs : 0 < (x.f2.f0.length : Int) + (x.f2.f1.length : Int) + (x.f2.f2.length : Int) := by omega
  have HM := Aside0.mk hm
  clear hm
  go_enter Tryd.func18, Tryd.ntmps18
  go_upto_region 1 with (fail)
  (try rw [hW1])
  (try rw [hBB])
  clear hW1 hBB
  have d0 : W1.cell? ⟨B, 0, none⟩ = some (.int .u8 x.f0) := (blk_cell BK.out 0).trans rfl
  have d1 : W1.cell? ⟨B, 1, none⟩ = some (.int .i64 x.f1) := (blk_cell BK.out 1).trans rfl
  have d2 : W1.cell? ⟨B, 2, none⟩ = some (.slice A2 x.f2.f0.length c2) := (blk_cell BK.out 2).trans rfl
  have d3 : W1.cell? ⟨B, 3, none⟩ = some (.slice A3 x.f2.f1.length c3) := (blk_cell BK.out 3).trans rfl
  have d4 : W1.cell? ⟨B, 4, none⟩ = some (.slice A4 x.f2.f2.length c4) := (blk_cell BK.out 4).trans rfl
  have d5 : W1.cell? ⟨B, 5, none⟩ = some (.slice A5 x.f3.length c5) := (blk_cell BK.out 5).trans rfl
  go_wp2_with (first | (go_at_call 19; refine (sc_IndexFunc.calls B4 B x.f0 _ _ RK.out BK.out rfl).mono ?_; rw [hi]; rintro e w1 ⟨rfl, hz⟩; have HB := Aside0.mk (show Below W1.heap.size W1 w1 from by first | exact below_step HB.out hz | exact below_step (below_drew1 HB.out) hz); have BK := Aside0.mk (show w1.heap[B]? = some (.cells #[.int .u8 x.f0, .int .i64 x.f1, .slice A2 x.f2.f0.length c2, .slice A3 x.f2.f1.length c3, .slice A4 x.f2.f2.length c4, .slice A5 x.f3.length c5] 47 (0, 0)) from by first | exact blk_below BK.out hz | exact (hz.block B (tk_lt BK.out)).trans BK.out); have RK := Aside0.mk (show w1.heap[B4]? = some (.cells sc_rowsC 54 (0, 0)) from by first | exact blk_below RK.out hz | exact (hz.block B4 (tk_lt RK.out)).trans RK.out); have d0 : w1.cell? ⟨B, 0, none⟩ = some (.int .u8 x.f0) := (blk_cell BK.out 0).trans rfl; have d1 : w1.cell? ⟨B, 1, none⟩ = some (.int .i64 x.f1) := (blk_cell BK.out 1).trans rfl; have d2 : w1.cell? ⟨B, 2, none⟩ = some (.slice A2 x.f2.f0.length c2) := (blk_cell BK.out 2).trans rfl; have d3 : w1.cell? ⟨B, 3, none⟩ = some (.slice A3 x.f2.f1.length c3) := (blk_cell BK.out 3).trans rfl; have d4 : w1.cell? ⟨B, 4, none⟩ = some (.slice A4 x.f2.f2.length c4) := (blk_cell BK.out 4).trans rfl; have d5 : w1.cell? ⟨B, 5, none⟩ = some (.slice A5 x.f3.length c5) := (blk_cell BK.out 5).trans rfl; have hrc := sc_rowcell _ B4 RK.out j r HJ.out; obtain ⟨q0, q1, q2, q3⟩ := hrc; clear hz))
  go_ret2
  rw [HRR.out]
  exact ⟨rfl, below_step HBW.out HB.out⟩
set_option maxHeartbeats 6400000 in
set_option maxRecDepth 100000 in
theorem line_bad3 (B4 : Nat) (x : S47) (W w0 : World) (A2 : Option Addr) (c2 : Nat) (A3 : Option Addr) (c3 : Nat) (A4 : Option Addr) (c4 : Nat) (A5 : Option Addr) (c5 : Nat) (hT : ScTab w0) (hRK : w0.heap[B4]? = some (.cells sc_rowsC 54 (0, 0))) (hx : sc_smallE x) (hW : Below w0.heap.size w0 W) (ha : x.f2.f0.length ≤ c2 ∧ k49.C W A2 x.f2.f0.length x.f2.f0 ∧ x.f2.f1.length ≤ c3 ∧ (Kd.int .u8).C W A3 x.f2.f1.length x.f2.f1 ∧ x.f2.f2.length ≤ c4 ∧ k49.C W A4 x.f2.f2.length x.f2.f2 ∧ x.f3.length ≤ c5 ∧ (Kd.int .u8).C W A5 x.f3.length x.f3) (j : Nat) (r : ByteArray × Int × Bool × Bool) (hi : sc_idx x.f0 sc_rows 0 = (j : Int)) (hj : sc_rows[j]? = some r) (hk : x.f0 = r.2.1) (hm : x.f2.f0.length = 0 ∧ x.f2.f1.length = 0 ∧ x.f2.f2.length = 0) (hn : x.f1 ≠ 0) (hrn : r.2.2.1 = false) (R : ByteArray × Int) (hR : R = (sc_b [], 1)) :
    Calls Tryd.prog 18 #[.agg #[.int .u8 x.f0, .int .i64 x.f1, .slice A2 x.f2.f0.length c2, .slice A3 x.f2.f1.length c3, .slice A4 x.f2.f2.length c4, .slice A5 x.f3.length c5], .pointer (some ⟨B4, 0, none⟩)] W fun e w' => e = .returned (.tuple #[.string R.1, .int .i64 R.2]) ∧ Below W.heap.size W w' := by
  obtain ⟨a1, a2, a3, a4, a5, a6, a7, a8⟩ := ha
  obtain ⟨s0, s1, s2, s3, s4, s5, s6⟩ := hx
  have HOK := Aside0.mk s0
  have HSF0 := Aside0.mk s1
  have HL2 := Aside0.mk s2
  have HL3 := Aside0.mk s3
  have HSF2 := Aside0.mk s4
  have HL4 := Aside0.mk s5
  have HL5 := Aside0.mk s6
  have HC2 := Aside0.mk a1
  have HC3 := Aside0.mk a3
  have HC4 := Aside0.mk a5
  have HC5 := Aside0.mk a7
  have HRR := Aside0.mk hR
  obtain ⟨W1, hW1⟩ : ∃ V, W.alloc (.cells #[.int .u8 x.f0, .int .i64 x.f1, .slice A2 x.f2.f0.length c2, .slice A3 x.f2.f1.length c3, .slice A4 x.f2.f2.length c4, .slice A5 x.f3.length c5] 47) = V := ⟨_, rfl⟩
  obtain ⟨B, hBB⟩ : ∃ b, W.heap.size = b := ⟨_, rfl⟩
  have hbw : Below W.heap.size W W1 := by rw [← hW1]; exact below_alloc (Below.refl _ _) _
  have BK := Aside0.mk (show W1.heap[B]? = some (.cells #[.int .u8 x.f0, .int .i64 x.f1, .slice A2 x.f2.f0.length c2, .slice A3 x.f2.f1.length c3, .slice A4 x.f2.f2.length c4, .slice A5 x.f3.length c5] 47 (0, 0)) by rw [← hW1, ← hBB]; exact heap_alloc_new _ _)
  have HBW := Aside0.mk hbw
  have HR2 := Aside0.mk (Kd.C_below a2 hbw)
  have HR3 := Aside0.mk (Kd.C_below a4 hbw)
  have HR4 := Aside0.mk (Kd.C_below a6 hbw)
  have HR5 := Aside0.mk (Kd.C_below a8 hbw)
  have HB := Aside0.mk (Below.refl W1.heap.size W1)
  have HTT := Aside0.mk ((hT.below hW).below hbw)
  have RK := Aside0.mk (show W1.heap[B4]? = some (.cells sc_rowsC 54 (0, 0)) from (hbw.block B4 (Nat.lt_of_lt_of_le (tk_lt hRK) hW.size)).trans ((hW.block B4 (tk_lt hRK)).trans hRK))
  have RK0 := RK
  clear hW hbw hT hRK a1 a2 a3 a4 a5 a6 a7 a8 s0 s1 s2 s3 s4 s5 s6 hR
  have HJ := Aside0.mk hj
  have HKK := Aside0.mk hk
  have hjl := (sc_row_kinds j r hj).1
  have hjz : (0 : Int) ≤ (j : Int) := by omega
  have hjz2 : ((j : Int) < 0) = False := eq_false (by omega)
  have hjz3 : (j : Int) < 9 := by omega
  clear hj hk
  have hn0 : (x.f1 == 0) = false := by simp [hn]
  have hn1 : (x.f1 != 0) = true := by simp [hn]
  have ew1 : wrap64 ((x.f2.f0.length : Int) + (x.f2.f1.length : Int)) = (x.f2.f0.length : Int) + (x.f2.f1.length : Int) := IntWalk.wrap64_in _ (by have := HL2.out; have := HL3.out; omega)
  have ew2 : wrap64 ((x.f2.f0.length : Int) + (x.f2.f1.length : Int) + (x.f2.f2.length : Int)) = (x.f2.f0.length : Int) + (x.f2.f1.length : Int) + (x.f2.f2.length : Int) := IntWalk.wrap64_in _ (by have := HL2.out; have := HL3.out; have := HL4.out; omega)
  have hs : (0 < (x.f2.f0.length : Int) + (x.f2.f1.length : Int) + (x.f2.f2.length : Int)) = False := eq_false (by omega)
  have HM := Aside0.mk hm
  clear hm
  go_enter Tryd.func18, Tryd.ntmps18
  go_upto_region 1 with (fail)
  (try rw [hW1])
  (try rw [hBB])
  clear hW1 hBB
  have d0 : W1.cell? ⟨B, 0, none⟩ = some (.int .u8 x.f0) := (blk_cell BK.out 0).trans rfl
  have d1 : W1.cell? ⟨B, 1, none⟩ = some (.int .i64 x.f1) := (blk_cell BK.out 1).trans rfl
  have d2 : W1.cell? ⟨B, 2, none⟩ = some (.slice A2 x.f2.f0.length c2) := (blk_cell BK.out 2).trans rfl
  have d3 : W1.cell? ⟨B, 3, none⟩ = some (.slice A3 x.f2.f1.length c3) := (blk_cell BK.out 3).trans rfl
  have d4 : W1.cell? ⟨B, 4, none⟩ = some (.slice A4 x.f2.f2.length c4) := (blk_cell BK.out 4).trans rfl
  have d5 : W1.cell? ⟨B, 5, none⟩ = some (.slice A5 x.f3.length c5) := (blk_cell BK.out 5).trans rfl
  go_wp2_with (first | (go_at_call 19; refine (sc_IndexFunc.calls B4 B x.f0 _ _ RK.out BK.out rfl).mono ?_; rw [hi]; rintro e w1 ⟨rfl, hz⟩; have HB := Aside0.mk (show Below W1.heap.size W1 w1 from by first | exact below_step HB.out hz | exact below_step (below_drew1 HB.out) hz); have BK := Aside0.mk (show w1.heap[B]? = some (.cells #[.int .u8 x.f0, .int .i64 x.f1, .slice A2 x.f2.f0.length c2, .slice A3 x.f2.f1.length c3, .slice A4 x.f2.f2.length c4, .slice A5 x.f3.length c5] 47 (0, 0)) from by first | exact blk_below BK.out hz | exact (hz.block B (tk_lt BK.out)).trans BK.out); have RK := Aside0.mk (show w1.heap[B4]? = some (.cells sc_rowsC 54 (0, 0)) from by first | exact blk_below RK.out hz | exact (hz.block B4 (tk_lt RK.out)).trans RK.out); have d0 : w1.cell? ⟨B, 0, none⟩ = some (.int .u8 x.f0) := (blk_cell BK.out 0).trans rfl; have d1 : w1.cell? ⟨B, 1, none⟩ = some (.int .i64 x.f1) := (blk_cell BK.out 1).trans rfl; have d2 : w1.cell? ⟨B, 2, none⟩ = some (.slice A2 x.f2.f0.length c2) := (blk_cell BK.out 2).trans rfl; have d3 : w1.cell? ⟨B, 3, none⟩ = some (.slice A3 x.f2.f1.length c3) := (blk_cell BK.out 3).trans rfl; have d4 : w1.cell? ⟨B, 4, none⟩ = some (.slice A4 x.f2.f2.length c4) := (blk_cell BK.out 4).trans rfl; have d5 : w1.cell? ⟨B, 5, none⟩ = some (.slice A5 x.f3.length c5) := (blk_cell BK.out 5).trans rfl; have hrc := sc_rowcell _ B4 RK.out j r HJ.out; obtain ⟨q0, q1, q2, q3⟩ := hrc; clear hz))
  go_ret2
  rw [HRR.out]
  exact ⟨rfl, below_step HBW.out HB.out⟩
set_option maxHeartbeats 6400000 in
set_option maxRecDepth 100000 in
theorem line_bad4 (B4 : Nat) (x : S47) (W w0 : World) (A2 : Option Addr) (c2 : Nat) (A3 : Option Addr) (c3 : Nat) (A4 : Option Addr) (c4 : Nat) (A5 : Option Addr) (c5 : Nat) (hT : ScTab w0) (hRK : w0.heap[B4]? = some (.cells sc_rowsC 54 (0, 0))) (hx : sc_smallE x) (hW : Below w0.heap.size w0 W) (ha : x.f2.f0.length ≤ c2 ∧ k49.C W A2 x.f2.f0.length x.f2.f0 ∧ x.f2.f1.length ≤ c3 ∧ (Kd.int .u8).C W A3 x.f2.f1.length x.f2.f1 ∧ x.f2.f2.length ≤ c4 ∧ k49.C W A4 x.f2.f2.length x.f2.f2 ∧ x.f3.length ≤ c5 ∧ (Kd.int .u8).C W A5 x.f3.length x.f3) (j : Nat) (r : ByteArray × Int × Bool × Bool) (hi : sc_idx x.f0 sc_rows 0 = (j : Int)) (hj : sc_rows[j]? = some r) (hk : x.f0 = r.2.1) (hm : 0 < x.f2.f0.length + x.f2.f1.length + x.f2.f2.length) (hk1 : x.f0 = 1) (hn : x.f1 = 0) (hd : 0 < x.f3.length) (hrd : r.2.2.2 = false) (R : ByteArray × Int) (hR : R = (sc_b [], 1)) :
    Calls Tryd.prog 18 #[.agg #[.int .u8 x.f0, .int .i64 x.f1, .slice A2 x.f2.f0.length c2, .slice A3 x.f2.f1.length c3, .slice A4 x.f2.f2.length c4, .slice A5 x.f3.length c5], .pointer (some ⟨B4, 0, none⟩)] W fun e w' => e = .returned (.tuple #[.string R.1, .int .i64 R.2]) ∧ Below W.heap.size W w' := by
  obtain ⟨a1, a2, a3, a4, a5, a6, a7, a8⟩ := ha
  obtain ⟨s0, s1, s2, s3, s4, s5, s6⟩ := hx
  have HOK := Aside0.mk s0
  have HSF0 := Aside0.mk s1
  have HL2 := Aside0.mk s2
  have HL3 := Aside0.mk s3
  have HSF2 := Aside0.mk s4
  have HL4 := Aside0.mk s5
  have HL5 := Aside0.mk s6
  have HC2 := Aside0.mk a1
  have HC3 := Aside0.mk a3
  have HC4 := Aside0.mk a5
  have HC5 := Aside0.mk a7
  have HRR := Aside0.mk hR
  obtain ⟨W1, hW1⟩ : ∃ V, W.alloc (.cells #[.int .u8 x.f0, .int .i64 x.f1, .slice A2 x.f2.f0.length c2, .slice A3 x.f2.f1.length c3, .slice A4 x.f2.f2.length c4, .slice A5 x.f3.length c5] 47) = V := ⟨_, rfl⟩
  obtain ⟨B, hBB⟩ : ∃ b, W.heap.size = b := ⟨_, rfl⟩
  have hbw : Below W.heap.size W W1 := by rw [← hW1]; exact below_alloc (Below.refl _ _) _
  have BK := Aside0.mk (show W1.heap[B]? = some (.cells #[.int .u8 x.f0, .int .i64 x.f1, .slice A2 x.f2.f0.length c2, .slice A3 x.f2.f1.length c3, .slice A4 x.f2.f2.length c4, .slice A5 x.f3.length c5] 47 (0, 0)) by rw [← hW1, ← hBB]; exact heap_alloc_new _ _)
  have HBW := Aside0.mk hbw
  have HR2 := Aside0.mk (Kd.C_below a2 hbw)
  have HR3 := Aside0.mk (Kd.C_below a4 hbw)
  have HR4 := Aside0.mk (Kd.C_below a6 hbw)
  have HR5 := Aside0.mk (Kd.C_below a8 hbw)
  have HB := Aside0.mk (Below.refl W1.heap.size W1)
  have HTT := Aside0.mk ((hT.below hW).below hbw)
  have RK := Aside0.mk (show W1.heap[B4]? = some (.cells sc_rowsC 54 (0, 0)) from (hbw.block B4 (Nat.lt_of_lt_of_le (tk_lt hRK) hW.size)).trans ((hW.block B4 (tk_lt hRK)).trans hRK))
  have RK0 := RK
  clear hW hbw hT hRK a1 a2 a3 a4 a5 a6 a7 a8 s0 s1 s2 s3 s4 s5 s6 hR
  have HJ := Aside0.mk hj
  have HKK := Aside0.mk hk
  have hjl := (sc_row_kinds j r hj).1
  have hjz : (0 : Int) ≤ (j : Int) := by omega
  have hjz2 : ((j : Int) < 0) = False := eq_false (by omega)
  have hjz3 : (j : Int) < 9 := by omega
  clear hj hk
  have hd0 : 0 < (x.f3.length : Int) := by omega
  have hn0 : (x.f1 == 0) = true := by simp [hn]
  have hn1 : (x.f1 != 0) = false := by simp [hn]
  have HN1 := Aside0.mk hn
  clear hn
  have hkb : (x.f0 == 1) = true := by simp [hk1]
  have hkc : (x.f0 != 1) = false := by simp [hk1]
  have hkd : decide (x.f0 = 1) = true := by simp [hk1]
  have HK1 := Aside0.mk hk1
  clear hk1
  have ew1 : wrap64 ((x.f2.f0.length : Int) + (x.f2.f1.length : Int)) = (x.f2.f0.length : Int) + (x.f2.f1.length : Int) := IntWalk.wrap64_in _ (by have := HL2.out; have := HL3.out; omega)
  have ew2 : wrap64 ((x.f2.f0.length : Int) + (x.f2.f1.length : Int) + (x.f2.f2.length : Int)) = (x.f2.f0.length : Int) + (x.f2.f1.length : Int) + (x.f2.f2.length : Int) := IntWalk.wrap64_in _ (by have := HL2.out; have := HL3.out; have := HL4.out; omega)
  have hs : 0 < (x.f2.f0.length : Int) + (x.f2.f1.length : Int) + (x.f2.f2.length : Int) := by omega
  have HM := Aside0.mk hm
  clear hm
  go_enter Tryd.func18, Tryd.ntmps18
  go_upto_region 1 with (fail)
  (try rw [hW1])
  (try rw [hBB])
  clear hW1 hBB
  have d0 : W1.cell? ⟨B, 0, none⟩ = some (.int .u8 x.f0) := (blk_cell BK.out 0).trans rfl
  have d1 : W1.cell? ⟨B, 1, none⟩ = some (.int .i64 x.f1) := (blk_cell BK.out 1).trans rfl
  have d2 : W1.cell? ⟨B, 2, none⟩ = some (.slice A2 x.f2.f0.length c2) := (blk_cell BK.out 2).trans rfl
  have d3 : W1.cell? ⟨B, 3, none⟩ = some (.slice A3 x.f2.f1.length c3) := (blk_cell BK.out 3).trans rfl
  have d4 : W1.cell? ⟨B, 4, none⟩ = some (.slice A4 x.f2.f2.length c4) := (blk_cell BK.out 4).trans rfl
  have d5 : W1.cell? ⟨B, 5, none⟩ = some (.slice A5 x.f3.length c5) := (blk_cell BK.out 5).trans rfl
  go_wp2_with (first | (go_at_call 19; refine (sc_IndexFunc.calls B4 B x.f0 _ _ RK.out BK.out rfl).mono ?_; rw [hi]; rintro e w1 ⟨rfl, hz⟩; have HB := Aside0.mk (show Below W1.heap.size W1 w1 from by first | exact below_step HB.out hz | exact below_step (below_drew1 HB.out) hz); have BK := Aside0.mk (show w1.heap[B]? = some (.cells #[.int .u8 x.f0, .int .i64 x.f1, .slice A2 x.f2.f0.length c2, .slice A3 x.f2.f1.length c3, .slice A4 x.f2.f2.length c4, .slice A5 x.f3.length c5] 47 (0, 0)) from by first | exact blk_below BK.out hz | exact (hz.block B (tk_lt BK.out)).trans BK.out); have RK := Aside0.mk (show w1.heap[B4]? = some (.cells sc_rowsC 54 (0, 0)) from by first | exact blk_below RK.out hz | exact (hz.block B4 (tk_lt RK.out)).trans RK.out); have d0 : w1.cell? ⟨B, 0, none⟩ = some (.int .u8 x.f0) := (blk_cell BK.out 0).trans rfl; have d1 : w1.cell? ⟨B, 1, none⟩ = some (.int .i64 x.f1) := (blk_cell BK.out 1).trans rfl; have d2 : w1.cell? ⟨B, 2, none⟩ = some (.slice A2 x.f2.f0.length c2) := (blk_cell BK.out 2).trans rfl; have d3 : w1.cell? ⟨B, 3, none⟩ = some (.slice A3 x.f2.f1.length c3) := (blk_cell BK.out 3).trans rfl; have d4 : w1.cell? ⟨B, 4, none⟩ = some (.slice A4 x.f2.f2.length c4) := (blk_cell BK.out 4).trans rfl; have d5 : w1.cell? ⟨B, 5, none⟩ = some (.slice A5 x.f3.length c5) := (blk_cell BK.out 5).trans rfl; have hrc := sc_rowcell _ B4 RK.out j r HJ.out; obtain ⟨q0, q1, q2, q3⟩ := hrc; clear hz))
  go_ret2
  rw [HRR.out]
  exact ⟨rfl, below_step HBW.out HB.out⟩
set_option maxHeartbeats 6400000 in
set_option maxRecDepth 100000 in
theorem line_bad5 (B4 : Nat) (x : S47) (W w0 : World) (A2 : Option Addr) (c2 : Nat) (A3 : Option Addr) (c3 : Nat) (A4 : Option Addr) (c4 : Nat) (A5 : Option Addr) (c5 : Nat) (hT : ScTab w0) (hRK : w0.heap[B4]? = some (.cells sc_rowsC 54 (0, 0))) (hx : sc_smallE x) (hW : Below w0.heap.size w0 W) (ha : x.f2.f0.length ≤ c2 ∧ k49.C W A2 x.f2.f0.length x.f2.f0 ∧ x.f2.f1.length ≤ c3 ∧ (Kd.int .u8).C W A3 x.f2.f1.length x.f2.f1 ∧ x.f2.f2.length ≤ c4 ∧ k49.C W A4 x.f2.f2.length x.f2.f2 ∧ x.f3.length ≤ c5 ∧ (Kd.int .u8).C W A5 x.f3.length x.f3) (j : Nat) (r : ByteArray × Int × Bool × Bool) (hi : sc_idx x.f0 sc_rows 0 = (j : Int)) (hj : sc_rows[j]? = some r) (hk : x.f0 = r.2.1) (hm : x.f2.f0.length = 0 ∧ x.f2.f1.length = 0 ∧ x.f2.f2.length = 0) (hn : x.f1 = 0) (hd : 0 < x.f3.length) (hrd : r.2.2.2 = false) (R : ByteArray × Int) (hR : R = (sc_b [], 1)) :
    Calls Tryd.prog 18 #[.agg #[.int .u8 x.f0, .int .i64 x.f1, .slice A2 x.f2.f0.length c2, .slice A3 x.f2.f1.length c3, .slice A4 x.f2.f2.length c4, .slice A5 x.f3.length c5], .pointer (some ⟨B4, 0, none⟩)] W fun e w' => e = .returned (.tuple #[.string R.1, .int .i64 R.2]) ∧ Below W.heap.size W w' := by
  obtain ⟨a1, a2, a3, a4, a5, a6, a7, a8⟩ := ha
  obtain ⟨s0, s1, s2, s3, s4, s5, s6⟩ := hx
  have HOK := Aside0.mk s0
  have HSF0 := Aside0.mk s1
  have HL2 := Aside0.mk s2
  have HL3 := Aside0.mk s3
  have HSF2 := Aside0.mk s4
  have HL4 := Aside0.mk s5
  have HL5 := Aside0.mk s6
  have HC2 := Aside0.mk a1
  have HC3 := Aside0.mk a3
  have HC4 := Aside0.mk a5
  have HC5 := Aside0.mk a7
  have HRR := Aside0.mk hR
  obtain ⟨W1, hW1⟩ : ∃ V, W.alloc (.cells #[.int .u8 x.f0, .int .i64 x.f1, .slice A2 x.f2.f0.length c2, .slice A3 x.f2.f1.length c3, .slice A4 x.f2.f2.length c4, .slice A5 x.f3.length c5] 47) = V := ⟨_, rfl⟩
  obtain ⟨B, hBB⟩ : ∃ b, W.heap.size = b := ⟨_, rfl⟩
  have hbw : Below W.heap.size W W1 := by rw [← hW1]; exact below_alloc (Below.refl _ _) _
  have BK := Aside0.mk (show W1.heap[B]? = some (.cells #[.int .u8 x.f0, .int .i64 x.f1, .slice A2 x.f2.f0.length c2, .slice A3 x.f2.f1.length c3, .slice A4 x.f2.f2.length c4, .slice A5 x.f3.length c5] 47 (0, 0)) by rw [← hW1, ← hBB]; exact heap_alloc_new _ _)
  have HBW := Aside0.mk hbw
  have HR2 := Aside0.mk (Kd.C_below a2 hbw)
  have HR3 := Aside0.mk (Kd.C_below a4 hbw)
  have HR4 := Aside0.mk (Kd.C_below a6 hbw)
  have HR5 := Aside0.mk (Kd.C_below a8 hbw)
  have HB := Aside0.mk (Below.refl W1.heap.size W1)
  have HTT := Aside0.mk ((hT.below hW).below hbw)
  have RK := Aside0.mk (show W1.heap[B4]? = some (.cells sc_rowsC 54 (0, 0)) from (hbw.block B4 (Nat.lt_of_lt_of_le (tk_lt hRK) hW.size)).trans ((hW.block B4 (tk_lt hRK)).trans hRK))
  have RK0 := RK
  clear hW hbw hT hRK a1 a2 a3 a4 a5 a6 a7 a8 s0 s1 s2 s3 s4 s5 s6 hR
  have HJ := Aside0.mk hj
  have HKK := Aside0.mk hk
  have hjl := (sc_row_kinds j r hj).1
  have hjz : (0 : Int) ≤ (j : Int) := by omega
  have hjz2 : ((j : Int) < 0) = False := eq_false (by omega)
  have hjz3 : (j : Int) < 9 := by omega
  clear hj hk
  have hd0 : 0 < (x.f3.length : Int) := by omega
  have hn0 : (x.f1 == 0) = true := by simp [hn]
  have hn1 : (x.f1 != 0) = false := by simp [hn]
  have HN1 := Aside0.mk hn
  clear hn
  have ew1 : wrap64 ((x.f2.f0.length : Int) + (x.f2.f1.length : Int)) = (x.f2.f0.length : Int) + (x.f2.f1.length : Int) := IntWalk.wrap64_in _ (by have := HL2.out; have := HL3.out; omega)
  have ew2 : wrap64 ((x.f2.f0.length : Int) + (x.f2.f1.length : Int) + (x.f2.f2.length : Int)) = (x.f2.f0.length : Int) + (x.f2.f1.length : Int) + (x.f2.f2.length : Int) := IntWalk.wrap64_in _ (by have := HL2.out; have := HL3.out; have := HL4.out; omega)
  have hs : (0 < (x.f2.f0.length : Int) + (x.f2.f1.length : Int) + (x.f2.f2.length : Int)) = False := eq_false (by omega)
  have HM := Aside0.mk hm
  clear hm
  go_enter Tryd.func18, Tryd.ntmps18
  go_upto_region 1 with (fail)
  (try rw [hW1])
  (try rw [hBB])
  clear hW1 hBB
  have d0 : W1.cell? ⟨B, 0, none⟩ = some (.int .u8 x.f0) := (blk_cell BK.out 0).trans rfl
  have d1 : W1.cell? ⟨B, 1, none⟩ = some (.int .i64 x.f1) := (blk_cell BK.out 1).trans rfl
  have d2 : W1.cell? ⟨B, 2, none⟩ = some (.slice A2 x.f2.f0.length c2) := (blk_cell BK.out 2).trans rfl
  have d3 : W1.cell? ⟨B, 3, none⟩ = some (.slice A3 x.f2.f1.length c3) := (blk_cell BK.out 3).trans rfl
  have d4 : W1.cell? ⟨B, 4, none⟩ = some (.slice A4 x.f2.f2.length c4) := (blk_cell BK.out 4).trans rfl
  have d5 : W1.cell? ⟨B, 5, none⟩ = some (.slice A5 x.f3.length c5) := (blk_cell BK.out 5).trans rfl
  go_wp2_with (first | (go_at_call 19; refine (sc_IndexFunc.calls B4 B x.f0 _ _ RK.out BK.out rfl).mono ?_; rw [hi]; rintro e w1 ⟨rfl, hz⟩; have HB := Aside0.mk (show Below W1.heap.size W1 w1 from by first | exact below_step HB.out hz | exact below_step (below_drew1 HB.out) hz); have BK := Aside0.mk (show w1.heap[B]? = some (.cells #[.int .u8 x.f0, .int .i64 x.f1, .slice A2 x.f2.f0.length c2, .slice A3 x.f2.f1.length c3, .slice A4 x.f2.f2.length c4, .slice A5 x.f3.length c5] 47 (0, 0)) from by first | exact blk_below BK.out hz | exact (hz.block B (tk_lt BK.out)).trans BK.out); have RK := Aside0.mk (show w1.heap[B4]? = some (.cells sc_rowsC 54 (0, 0)) from by first | exact blk_below RK.out hz | exact (hz.block B4 (tk_lt RK.out)).trans RK.out); have d0 : w1.cell? ⟨B, 0, none⟩ = some (.int .u8 x.f0) := (blk_cell BK.out 0).trans rfl; have d1 : w1.cell? ⟨B, 1, none⟩ = some (.int .i64 x.f1) := (blk_cell BK.out 1).trans rfl; have d2 : w1.cell? ⟨B, 2, none⟩ = some (.slice A2 x.f2.f0.length c2) := (blk_cell BK.out 2).trans rfl; have d3 : w1.cell? ⟨B, 3, none⟩ = some (.slice A3 x.f2.f1.length c3) := (blk_cell BK.out 3).trans rfl; have d4 : w1.cell? ⟨B, 4, none⟩ = some (.slice A4 x.f2.f2.length c4) := (blk_cell BK.out 4).trans rfl; have d5 : w1.cell? ⟨B, 5, none⟩ = some (.slice A5 x.f3.length c5) := (blk_cell BK.out 5).trans rfl; have hrc := sc_rowcell _ B4 RK.out j r HJ.out; obtain ⟨q0, q1, q2, q3⟩ := hrc; clear hz))
  go_ret2
  rw [HRR.out]
  exact ⟨rfl, below_step HBW.out HB.out⟩
set_option maxHeartbeats 6400000 in
set_option maxRecDepth 100000 in
theorem line_bad6 (B4 : Nat) (x : S47) (W w0 : World) (A2 : Option Addr) (c2 : Nat) (A3 : Option Addr) (c3 : Nat) (A4 : Option Addr) (c4 : Nat) (A5 : Option Addr) (c5 : Nat) (hT : ScTab w0) (hRK : w0.heap[B4]? = some (.cells sc_rowsC 54 (0, 0))) (hx : sc_smallE x) (hW : Below w0.heap.size w0 W) (ha : x.f2.f0.length ≤ c2 ∧ k49.C W A2 x.f2.f0.length x.f2.f0 ∧ x.f2.f1.length ≤ c3 ∧ (Kd.int .u8).C W A3 x.f2.f1.length x.f2.f1 ∧ x.f2.f2.length ≤ c4 ∧ k49.C W A4 x.f2.f2.length x.f2.f2 ∧ x.f3.length ≤ c5 ∧ (Kd.int .u8).C W A5 x.f3.length x.f3) (j : Nat) (r : ByteArray × Int × Bool × Bool) (hi : sc_idx x.f0 sc_rows 0 = (j : Int)) (hj : sc_rows[j]? = some r) (hk : x.f0 = r.2.1) (hm : x.f2.f0.length = 0 ∧ x.f2.f1.length = 0 ∧ x.f2.f2.length = 0) (hn : x.f1 ≠ 0) (hrn : r.2.2.1 = true) (hd : 0 < x.f3.length) (hrd : r.2.2.2 = false) (R : ByteArray × Int) (hR : R = (sc_b [], 1)) :
    Calls Tryd.prog 18 #[.agg #[.int .u8 x.f0, .int .i64 x.f1, .slice A2 x.f2.f0.length c2, .slice A3 x.f2.f1.length c3, .slice A4 x.f2.f2.length c4, .slice A5 x.f3.length c5], .pointer (some ⟨B4, 0, none⟩)] W fun e w' => e = .returned (.tuple #[.string R.1, .int .i64 R.2]) ∧ Below W.heap.size W w' := by
  obtain ⟨a1, a2, a3, a4, a5, a6, a7, a8⟩ := ha
  obtain ⟨s0, s1, s2, s3, s4, s5, s6⟩ := hx
  have HOK := Aside0.mk s0
  have HSF0 := Aside0.mk s1
  have HL2 := Aside0.mk s2
  have HL3 := Aside0.mk s3
  have HSF2 := Aside0.mk s4
  have HL4 := Aside0.mk s5
  have HL5 := Aside0.mk s6
  have HC2 := Aside0.mk a1
  have HC3 := Aside0.mk a3
  have HC4 := Aside0.mk a5
  have HC5 := Aside0.mk a7
  have HRR := Aside0.mk hR
  obtain ⟨W1, hW1⟩ : ∃ V, W.alloc (.cells #[.int .u8 x.f0, .int .i64 x.f1, .slice A2 x.f2.f0.length c2, .slice A3 x.f2.f1.length c3, .slice A4 x.f2.f2.length c4, .slice A5 x.f3.length c5] 47) = V := ⟨_, rfl⟩
  obtain ⟨B, hBB⟩ : ∃ b, W.heap.size = b := ⟨_, rfl⟩
  have hbw : Below W.heap.size W W1 := by rw [← hW1]; exact below_alloc (Below.refl _ _) _
  have BK := Aside0.mk (show W1.heap[B]? = some (.cells #[.int .u8 x.f0, .int .i64 x.f1, .slice A2 x.f2.f0.length c2, .slice A3 x.f2.f1.length c3, .slice A4 x.f2.f2.length c4, .slice A5 x.f3.length c5] 47 (0, 0)) by rw [← hW1, ← hBB]; exact heap_alloc_new _ _)
  have HBW := Aside0.mk hbw
  have HR2 := Aside0.mk (Kd.C_below a2 hbw)
  have HR3 := Aside0.mk (Kd.C_below a4 hbw)
  have HR4 := Aside0.mk (Kd.C_below a6 hbw)
  have HR5 := Aside0.mk (Kd.C_below a8 hbw)
  have HB := Aside0.mk (Below.refl W1.heap.size W1)
  have HTT := Aside0.mk ((hT.below hW).below hbw)
  have RK := Aside0.mk (show W1.heap[B4]? = some (.cells sc_rowsC 54 (0, 0)) from (hbw.block B4 (Nat.lt_of_lt_of_le (tk_lt hRK) hW.size)).trans ((hW.block B4 (tk_lt hRK)).trans hRK))
  have RK0 := RK
  clear hW hbw hT hRK a1 a2 a3 a4 a5 a6 a7 a8 s0 s1 s2 s3 s4 s5 s6 hR
  have HJ := Aside0.mk hj
  have HKK := Aside0.mk hk
  have hjl := (sc_row_kinds j r hj).1
  have hjz : (0 : Int) ≤ (j : Int) := by omega
  have hjz2 : ((j : Int) < 0) = False := eq_false (by omega)
  have hjz3 : (j : Int) < 9 := by omega
  clear hj hk
  have hd0 : 0 < (x.f3.length : Int) := by omega
  have hn0 : (x.f1 == 0) = false := by simp [hn]
  have hn1 : (x.f1 != 0) = true := by simp [hn]
  have ew1 : wrap64 ((x.f2.f0.length : Int) + (x.f2.f1.length : Int)) = (x.f2.f0.length : Int) + (x.f2.f1.length : Int) := IntWalk.wrap64_in _ (by have := HL2.out; have := HL3.out; omega)
  have ew2 : wrap64 ((x.f2.f0.length : Int) + (x.f2.f1.length : Int) + (x.f2.f2.length : Int)) = (x.f2.f0.length : Int) + (x.f2.f1.length : Int) + (x.f2.f2.length : Int) := IntWalk.wrap64_in _ (by have := HL2.out; have := HL3.out; have := HL4.out; omega)
  have hs : (0 < (x.f2.f0.length : Int) + (x.f2.f1.length : Int) + (x.f2.f2.length : Int)) = False := eq_false (by omega)
  have HM := Aside0.mk hm
  clear hm
  go_enter Tryd.func18, Tryd.ntmps18
  go_upto_region 1 with (fail)
  (try rw [hW1])
  (try rw [hBB])
  clear hW1 hBB
  have d0 : W1.cell? ⟨B, 0, none⟩ = some (.int .u8 x.f0) := (blk_cell BK.out 0).trans rfl
  have d1 : W1.cell? ⟨B, 1, none⟩ = some (.int .i64 x.f1) := (blk_cell BK.out 1).trans rfl
  have d2 : W1.cell? ⟨B, 2, none⟩ = some (.slice A2 x.f2.f0.length c2) := (blk_cell BK.out 2).trans rfl
  have d3 : W1.cell? ⟨B, 3, none⟩ = some (.slice A3 x.f2.f1.length c3) := (blk_cell BK.out 3).trans rfl
  have d4 : W1.cell? ⟨B, 4, none⟩ = some (.slice A4 x.f2.f2.length c4) := (blk_cell BK.out 4).trans rfl
  have d5 : W1.cell? ⟨B, 5, none⟩ = some (.slice A5 x.f3.length c5) := (blk_cell BK.out 5).trans rfl
  go_wp2_with (first | (go_at_call 19; refine (sc_IndexFunc.calls B4 B x.f0 _ _ RK.out BK.out rfl).mono ?_; rw [hi]; rintro e w1 ⟨rfl, hz⟩; have HB := Aside0.mk (show Below W1.heap.size W1 w1 from by first | exact below_step HB.out hz | exact below_step (below_drew1 HB.out) hz); have BK := Aside0.mk (show w1.heap[B]? = some (.cells #[.int .u8 x.f0, .int .i64 x.f1, .slice A2 x.f2.f0.length c2, .slice A3 x.f2.f1.length c3, .slice A4 x.f2.f2.length c4, .slice A5 x.f3.length c5] 47 (0, 0)) from by first | exact blk_below BK.out hz | exact (hz.block B (tk_lt BK.out)).trans BK.out); have RK := Aside0.mk (show w1.heap[B4]? = some (.cells sc_rowsC 54 (0, 0)) from by first | exact blk_below RK.out hz | exact (hz.block B4 (tk_lt RK.out)).trans RK.out); have d0 : w1.cell? ⟨B, 0, none⟩ = some (.int .u8 x.f0) := (blk_cell BK.out 0).trans rfl; have d1 : w1.cell? ⟨B, 1, none⟩ = some (.int .i64 x.f1) := (blk_cell BK.out 1).trans rfl; have d2 : w1.cell? ⟨B, 2, none⟩ = some (.slice A2 x.f2.f0.length c2) := (blk_cell BK.out 2).trans rfl; have d3 : w1.cell? ⟨B, 3, none⟩ = some (.slice A3 x.f2.f1.length c3) := (blk_cell BK.out 3).trans rfl; have d4 : w1.cell? ⟨B, 4, none⟩ = some (.slice A4 x.f2.f2.length c4) := (blk_cell BK.out 4).trans rfl; have d5 : w1.cell? ⟨B, 5, none⟩ = some (.slice A5 x.f3.length c5) := (blk_cell BK.out 5).trans rfl; have hrc := sc_rowcell _ B4 RK.out j r HJ.out; obtain ⟨q0, q1, q2, q3⟩ := hrc; clear hz))
  go_ret2
  rw [HRR.out]
  exact ⟨rfl, below_step HBW.out HB.out⟩
set_option maxHeartbeats 6400000 in
set_option maxRecDepth 100000 in
theorem line_good1 (B4 : Nat) (x : S47) (W w0 : World) (A2 : Option Addr) (c2 : Nat) (A3 : Option Addr) (c3 : Nat) (A4 : Option Addr) (c4 : Nat) (A5 : Option Addr) (c5 : Nat) (hT : ScTab w0) (hRK : w0.heap[B4]? = some (.cells sc_rowsC 54 (0, 0))) (hx : sc_smallE x) (hW : Below w0.heap.size w0 W) (ha : x.f2.f0.length ≤ c2 ∧ k49.C W A2 x.f2.f0.length x.f2.f0 ∧ x.f2.f1.length ≤ c3 ∧ (Kd.int .u8).C W A3 x.f2.f1.length x.f2.f1 ∧ x.f2.f2.length ≤ c4 ∧ k49.C W A4 x.f2.f2.length x.f2.f2 ∧ x.f3.length ≤ c5 ∧ (Kd.int .u8).C W A5 x.f3.length x.f3) (j : Nat) (r : ByteArray × Int × Bool × Bool) (hi : sc_idx x.f0 sc_rows 0 = (j : Int)) (hj : sc_rows[j]? = some r) (hk : x.f0 = r.2.1) (hm : 0 < x.f2.f0.length + x.f2.f1.length + x.f2.f2.length) (hk1 : x.f0 = 1) (hn : x.f1 = 0) (hrn : r.2.2.1 = false) (hd : x.f3.length = 0) (hrd : r.2.2.2 = false) (R : ByteArray × Int) (hR : R = (r.1 ++ (sc_b (sc_toldL sc_f x.f2.f0) ++ sc_b (sc_tail (sc_bw x.f2.f1)) ++ sc_b (sc_toldL sc_t x.f2.f2)), 0)) :
    Calls Tryd.prog 18 #[.agg #[.int .u8 x.f0, .int .i64 x.f1, .slice A2 x.f2.f0.length c2, .slice A3 x.f2.f1.length c3, .slice A4 x.f2.f2.length c4, .slice A5 x.f3.length c5], .pointer (some ⟨B4, 0, none⟩)] W fun e w' => e = .returned (.tuple #[.string R.1, .int .i64 R.2]) ∧ Below W.heap.size W w' := by
  obtain ⟨a1, a2, a3, a4, a5, a6, a7, a8⟩ := ha
  obtain ⟨s0, s1, s2, s3, s4, s5, s6⟩ := hx
  have HOK := Aside0.mk s0
  have HSF0 := Aside0.mk s1
  have HL2 := Aside0.mk s2
  have HL3 := Aside0.mk s3
  have HSF2 := Aside0.mk s4
  have HL4 := Aside0.mk s5
  have HL5 := Aside0.mk s6
  have HC2 := Aside0.mk a1
  have HC3 := Aside0.mk a3
  have HC4 := Aside0.mk a5
  have HC5 := Aside0.mk a7
  have HRR := Aside0.mk hR
  obtain ⟨W1, hW1⟩ : ∃ V, W.alloc (.cells #[.int .u8 x.f0, .int .i64 x.f1, .slice A2 x.f2.f0.length c2, .slice A3 x.f2.f1.length c3, .slice A4 x.f2.f2.length c4, .slice A5 x.f3.length c5] 47) = V := ⟨_, rfl⟩
  obtain ⟨B, hBB⟩ : ∃ b, W.heap.size = b := ⟨_, rfl⟩
  have hbw : Below W.heap.size W W1 := by rw [← hW1]; exact below_alloc (Below.refl _ _) _
  have BK := Aside0.mk (show W1.heap[B]? = some (.cells #[.int .u8 x.f0, .int .i64 x.f1, .slice A2 x.f2.f0.length c2, .slice A3 x.f2.f1.length c3, .slice A4 x.f2.f2.length c4, .slice A5 x.f3.length c5] 47 (0, 0)) by rw [← hW1, ← hBB]; exact heap_alloc_new _ _)
  have HBW := Aside0.mk hbw
  have HR2 := Aside0.mk (Kd.C_below a2 hbw)
  have HR3 := Aside0.mk (Kd.C_below a4 hbw)
  have HR4 := Aside0.mk (Kd.C_below a6 hbw)
  have HR5 := Aside0.mk (Kd.C_below a8 hbw)
  have HB := Aside0.mk (Below.refl W1.heap.size W1)
  have HTT := Aside0.mk ((hT.below hW).below hbw)
  have RK := Aside0.mk (show W1.heap[B4]? = some (.cells sc_rowsC 54 (0, 0)) from (hbw.block B4 (Nat.lt_of_lt_of_le (tk_lt hRK) hW.size)).trans ((hW.block B4 (tk_lt hRK)).trans hRK))
  have RK0 := RK
  clear hW hbw hT hRK a1 a2 a3 a4 a5 a6 a7 a8 s0 s1 s2 s3 s4 s5 s6 hR
  have HJ := Aside0.mk hj
  have HKK := Aside0.mk hk
  have hjl := (sc_row_kinds j r hj).1
  have hjz : (0 : Int) ≤ (j : Int) := by omega
  have hjz2 : ((j : Int) < 0) = False := eq_false (by omega)
  have hjz3 : (j : Int) < 9 := by omega
  clear hj hk
  have hd0 : (0 < (x.f3.length : Int)) = False := eq_false (by omega)
  have hd1 : (0 < x.f3.length) = False := eq_false (by omega)
  have HD0 := Aside0.mk hd
  clear hd
  have hn0 : (x.f1 == 0) = true := by simp [hn]
  have hn1 : (x.f1 != 0) = false := by simp [hn]
  have HN1 := Aside0.mk hn
  clear hn
  have hkb : (x.f0 == 1) = true := by simp [hk1]
  have hkc : (x.f0 != 1) = false := by simp [hk1]
  have hkd : decide (x.f0 = 1) = true := by simp [hk1]
  have HK1 := Aside0.mk hk1
  clear hk1
  have ew1 : wrap64 ((x.f2.f0.length : Int) + (x.f2.f1.length : Int)) = (x.f2.f0.length : Int) + (x.f2.f1.length : Int) := IntWalk.wrap64_in _ (by have := HL2.out; have := HL3.out; omega)
  have ew2 : wrap64 ((x.f2.f0.length : Int) + (x.f2.f1.length : Int) + (x.f2.f2.length : Int)) = (x.f2.f0.length : Int) + (x.f2.f1.length : Int) + (x.f2.f2.length : Int) := IntWalk.wrap64_in _ (by have := HL2.out; have := HL3.out; have := HL4.out; omega)
  have hs : 0 < (x.f2.f0.length : Int) + (x.f2.f1.length : Int) + (x.f2.f2.length : Int) := by omega
  have HM := Aside0.mk hm
  clear hm
  obtain ⟨F, hF⟩ : ∃ H, sc_b (sc_toldL sc_f x.f2.f0) = H := ⟨_, rfl⟩
  obtain ⟨D, hD⟩ : ∃ H, sc_b (sc_tail (sc_bw x.f2.f1)) = H := ⟨_, rfl⟩
  obtain ⟨T, hT⟩ : ∃ H, sc_b (sc_toldL sc_t x.f2.f2) = H := ⟨_, rfl⟩
  have k1 : F.size ≤ 1000000 * 2000010 := by rw [← hF]; exact Nat.le_trans (sc_toldL_len sc_f x.f2.f0 HSF0.out (by decide)) (Nat.mul_le_mul_right _ HL2.out)
  have k2 : D.size ≤ 2000004 := by rw [← hD]; exact Nat.le_trans (sc_bw_len x.f2.f1) (by have := HL3.out; omega)
  have k3 : T.size ≤ 1000000 * 2000010 := by rw [← hT]; exact Nat.le_trans (sc_toldL_len sc_t x.f2.f2 HSF2.out (by decide)) (Nat.mul_le_mul_right _ HL4.out)
  have k0 := (sc_row_kinds j r HJ.out).2.1
  obtain ⟨u1, hu1⟩ : ∃ p, F ++ D = p := ⟨_, rfl⟩
  obtain ⟨u2, hu2⟩ : ∃ p, u1 ++ T = p := ⟨_, rfl⟩
  obtain ⟨u3, hu3⟩ : ∃ p, r.1 ++ u2 = p := ⟨_, rfl⟩
  have y1 : u1.size = F.size + D.size := by rw [← hu1, ByteArray.size_append]
  have y2 : u2.size = u1.size + T.size := by rw [← hu2, ByteArray.size_append]
  have z1 := sc_cat F D (by omega)
  have z2 := sc_cat u1 T (by omega)
  have z3 := sc_cat r.1 u2 (by omega)
  have HRR := Aside0.mk (show R = (u3, 0) by rw [HRR.out, ← hu3, ← hu2, ← hu1, ← hF, ← hD, ← hT])
  clear k0 k1 k2 k3 y1 y2
  go_enter Tryd.func18, Tryd.ntmps18
  go_upto_region 1 with (fail)
  (try rw [hW1])
  (try rw [hBB])
  clear hW1 hBB
  have d0 : W1.cell? ⟨B, 0, none⟩ = some (.int .u8 x.f0) := (blk_cell BK.out 0).trans rfl
  have d1 : W1.cell? ⟨B, 1, none⟩ = some (.int .i64 x.f1) := (blk_cell BK.out 1).trans rfl
  have d2 : W1.cell? ⟨B, 2, none⟩ = some (.slice A2 x.f2.f0.length c2) := (blk_cell BK.out 2).trans rfl
  have d3 : W1.cell? ⟨B, 3, none⟩ = some (.slice A3 x.f2.f1.length c3) := (blk_cell BK.out 3).trans rfl
  have d4 : W1.cell? ⟨B, 4, none⟩ = some (.slice A4 x.f2.f2.length c4) := (blk_cell BK.out 4).trans rfl
  have d5 : W1.cell? ⟨B, 5, none⟩ = some (.slice A5 x.f3.length c5) := (blk_cell BK.out 5).trans rfl
  go_upto_region 7 with (first | (go_at_call 19; refine (sc_IndexFunc.calls B4 B x.f0 _ _ RK.out BK.out rfl).mono ?_; rw [hi]; rintro e w1 ⟨rfl, hz⟩; have HB := Aside0.mk (show Below W1.heap.size W1 w1 from by first | exact below_step HB.out hz | exact below_step (below_drew1 HB.out) hz); have BK := Aside0.mk (show w1.heap[B]? = some (.cells #[.int .u8 x.f0, .int .i64 x.f1, .slice A2 x.f2.f0.length c2, .slice A3 x.f2.f1.length c3, .slice A4 x.f2.f2.length c4, .slice A5 x.f3.length c5] 47 (0, 0)) from by first | exact blk_below BK.out hz | exact (hz.block B (tk_lt BK.out)).trans BK.out); have RK := Aside0.mk (show w1.heap[B4]? = some (.cells sc_rowsC 54 (0, 0)) from by first | exact blk_below RK.out hz | exact (hz.block B4 (tk_lt RK.out)).trans RK.out); have d0 : w1.cell? ⟨B, 0, none⟩ = some (.int .u8 x.f0) := (blk_cell BK.out 0).trans rfl; have d1 : w1.cell? ⟨B, 1, none⟩ = some (.int .i64 x.f1) := (blk_cell BK.out 1).trans rfl; have d2 : w1.cell? ⟨B, 2, none⟩ = some (.slice A2 x.f2.f0.length c2) := (blk_cell BK.out 2).trans rfl; have d3 : w1.cell? ⟨B, 3, none⟩ = some (.slice A3 x.f2.f1.length c3) := (blk_cell BK.out 3).trans rfl; have d4 : w1.cell? ⟨B, 4, none⟩ = some (.slice A4 x.f2.f2.length c4) := (blk_cell BK.out 4).trans rfl; have d5 : w1.cell? ⟨B, 5, none⟩ = some (.slice A5 x.f3.length c5) := (blk_cell BK.out 5).trans rfl; have hrc := sc_rowcell _ B4 RK.out j r HJ.out; obtain ⟨q0, q1, q2, q3⟩ := hrc; clear hz))
  go_region_held3 (fun w' => w'.cell? ⟨B, 0, none⟩ = some (.int .u8 x.f0) ∧ w'.cell? ⟨B, 1, none⟩ = some (.int .i64 x.f1) ∧ w'.cell? ⟨B, 2, none⟩ = some (.slice A2 x.f2.f0.length c2) ∧ w'.cell? ⟨B, 3, none⟩ = some (.slice A3 x.f2.f1.length c3) ∧ w'.cell? ⟨B, 4, none⟩ = some (.slice A4 x.f2.f2.length c4) ∧ w'.cell? ⟨B, 5, none⟩ = some (.slice A5 x.f3.length c5)) (first | go_keep | (refine ⟨?_, ?_, ?_, ?_, ?_, ?_⟩ <;> assumption)) (first | ((go_at_call 21; (with_reducible refine (script_told_f.calls A2 c2 x.f2.f0 _ (Kd.C_below HR2.out (by first | exact HB.out | exact below_drew1 HB.out)) HC2.out HSF0.out HL2.out).mono ?_); rintro e w1 ⟨rfl, hz⟩; have HB := Aside0.mk (show Below W1.heap.size W1 w1 from by first | exact below_step HB.out hz | exact below_step (below_drew1 HB.out) hz); have BK := Aside0.mk (show w1.heap[B]? = some (.cells #[.int .u8 x.f0, .int .i64 x.f1, .slice A2 x.f2.f0.length c2, .slice A3 x.f2.f1.length c3, .slice A4 x.f2.f2.length c4, .slice A5 x.f3.length c5] 47 (0, 0)) from by first | exact blk_below BK.out hz | exact (hz.block B (tk_lt BK.out)).trans BK.out); have d0 : w1.cell? ⟨B, 0, none⟩ = some (.int .u8 x.f0) := (blk_cell BK.out 0).trans rfl; have d1 : w1.cell? ⟨B, 1, none⟩ = some (.int .i64 x.f1) := (blk_cell BK.out 1).trans rfl; have d2 : w1.cell? ⟨B, 2, none⟩ = some (.slice A2 x.f2.f0.length c2) := (blk_cell BK.out 2).trans rfl; have d3 : w1.cell? ⟨B, 3, none⟩ = some (.slice A3 x.f2.f1.length c3) := (blk_cell BK.out 3).trans rfl; have d4 : w1.cell? ⟨B, 4, none⟩ = some (.slice A4 x.f2.f2.length c4) := (blk_cell BK.out 4).trans rfl; have d5 : w1.cell? ⟨B, 5, none⟩ = some (.slice A5 x.f3.length c5) := (blk_cell BK.out 5).trans rfl; clear hz)) | ((go_at_call 21; (with_reducible refine (script_told_t.calls A4 c4 x.f2.f2 _ (Kd.C_below HR4.out (by first | exact HB.out | exact below_drew1 HB.out)) HC4.out HSF2.out HL4.out).mono ?_); rintro e w1 ⟨rfl, hz⟩; have HB := Aside0.mk (show Below W1.heap.size W1 w1 from by first | exact below_step HB.out hz | exact below_step (below_drew1 HB.out) hz); have BK := Aside0.mk (show w1.heap[B]? = some (.cells #[.int .u8 x.f0, .int .i64 x.f1, .slice A2 x.f2.f0.length c2, .slice A3 x.f2.f1.length c3, .slice A4 x.f2.f2.length c4, .slice A5 x.f3.length c5] 47 (0, 0)) from by first | exact blk_below BK.out hz | exact (hz.block B (tk_lt BK.out)).trans BK.out); have d0 : w1.cell? ⟨B, 0, none⟩ = some (.int .u8 x.f0) := (blk_cell BK.out 0).trans rfl; have d1 : w1.cell? ⟨B, 1, none⟩ = some (.int .i64 x.f1) := (blk_cell BK.out 1).trans rfl; have d2 : w1.cell? ⟨B, 2, none⟩ = some (.slice A2 x.f2.f0.length c2) := (blk_cell BK.out 2).trans rfl; have d3 : w1.cell? ⟨B, 3, none⟩ = some (.slice A3 x.f2.f1.length c3) := (blk_cell BK.out 3).trans rfl; have d4 : w1.cell? ⟨B, 4, none⟩ = some (.slice A4 x.f2.f2.length c4) := (blk_cell BK.out 4).trans rfl; have d5 : w1.cell? ⟨B, 5, none⟩ = some (.slice A5 x.f3.length c5) := (blk_cell BK.out 5).trans rfl; clear hz)) | (go_at_call 22; refine (script_body.calls _ _ _ _ (Kd.C_below HR3.out (by first | exact HB.out | exact below_drew1 HB.out)) HC3.out HL3.out).mono ?_; rintro e w1 ⟨rfl, hz⟩; have HB := Aside0.mk (show Below W1.heap.size W1 w1 from by first | exact below_step HB.out hz | exact below_step (below_drew1 HB.out) hz); have BK := Aside0.mk (show w1.heap[B]? = some (.cells #[.int .u8 x.f0, .int .i64 x.f1, .slice A2 x.f2.f0.length c2, .slice A3 x.f2.f1.length c3, .slice A4 x.f2.f2.length c4, .slice A5 x.f3.length c5] 47 (0, 0)) from by first | exact blk_below BK.out hz | exact (hz.block B (tk_lt BK.out)).trans BK.out); have d0 : w1.cell? ⟨B, 0, none⟩ = some (.int .u8 x.f0) := (blk_cell BK.out 0).trans rfl; have d1 : w1.cell? ⟨B, 1, none⟩ = some (.int .i64 x.f1) := (blk_cell BK.out 1).trans rfl; have d2 : w1.cell? ⟨B, 2, none⟩ = some (.slice A2 x.f2.f0.length c2) := (blk_cell BK.out 2).trans rfl; have d3 : w1.cell? ⟨B, 3, none⟩ = some (.slice A3 x.f2.f1.length c3) := (blk_cell BK.out 3).trans rfl; have d4 : w1.cell? ⟨B, 4, none⟩ = some (.slice A4 x.f2.f2.length c4) := (blk_cell BK.out 4).trans rfl; have d5 : w1.cell? ⟨B, 5, none⟩ = some (.slice A5 x.f3.length c5) := (blk_cell BK.out 5).trans rfl; clear hz))
  have RK := Aside0.mk (show w1.heap[B4]? = some (.cells sc_rowsC 54 (0, 0)) from blk_below RK0.out HB.out)
  obtain ⟨q0, q1, q2, q3⟩ := sc_rowcell _ B4 RK.out j r HJ.out
  go_wp2_with (fail)
  go_ret2
  rw [HRR.out]
  exact ⟨rfl, below_step HBW.out HB.out⟩
set_option maxHeartbeats 6400000 in
set_option maxRecDepth 100000 in
theorem line_good1z (B4 : Nat) (x : S47) (W w0 : World) (A2 : Option Addr) (c2 : Nat) (A3 : Option Addr) (c3 : Nat) (A4 : Option Addr) (c4 : Nat) (A5 : Option Addr) (c5 : Nat) (hT : ScTab w0) (hRK : w0.heap[B4]? = some (.cells sc_rowsC 54 (0, 0))) (hx : sc_smallE x) (hW : Below w0.heap.size w0 W) (ha : x.f2.f0.length ≤ c2 ∧ k49.C W A2 x.f2.f0.length x.f2.f0 ∧ x.f2.f1.length ≤ c3 ∧ (Kd.int .u8).C W A3 x.f2.f1.length x.f2.f1 ∧ x.f2.f2.length ≤ c4 ∧ k49.C W A4 x.f2.f2.length x.f2.f2 ∧ x.f3.length ≤ c5 ∧ (Kd.int .u8).C W A5 x.f3.length x.f3) (j : Nat) (r : ByteArray × Int × Bool × Bool) (hi : sc_idx x.f0 sc_rows 0 = (j : Int)) (hj : sc_rows[j]? = some r) (hk : x.f0 = r.2.1) (hm : x.f2.f0.length = 0 ∧ x.f2.f1.length = 0 ∧ x.f2.f2.length = 0) (hk1 : x.f0 = 1) (hn : x.f1 = 0) (hrn : r.2.2.1 = false) (hd : x.f3.length = 0) (hrd : r.2.2.2 = false) (R : ByteArray × Int) (hR : R = (r.1 ++ (sc_b (sc_toldL sc_f x.f2.f0) ++ sc_b (sc_tail (sc_bw x.f2.f1)) ++ sc_b (sc_toldL sc_t x.f2.f2)), 0)) :
    Calls Tryd.prog 18 #[.agg #[.int .u8 x.f0, .int .i64 x.f1, .slice A2 x.f2.f0.length c2, .slice A3 x.f2.f1.length c3, .slice A4 x.f2.f2.length c4, .slice A5 x.f3.length c5], .pointer (some ⟨B4, 0, none⟩)] W fun e w' => e = .returned (.tuple #[.string R.1, .int .i64 R.2]) ∧ Below W.heap.size W w' := by
  obtain ⟨a1, a2, a3, a4, a5, a6, a7, a8⟩ := ha
  obtain ⟨s0, s1, s2, s3, s4, s5, s6⟩ := hx
  have HOK := Aside0.mk s0
  have HSF0 := Aside0.mk s1
  have HL2 := Aside0.mk s2
  have HL3 := Aside0.mk s3
  have HSF2 := Aside0.mk s4
  have HL4 := Aside0.mk s5
  have HL5 := Aside0.mk s6
  have HC2 := Aside0.mk a1
  have HC3 := Aside0.mk a3
  have HC4 := Aside0.mk a5
  have HC5 := Aside0.mk a7
  have HRR := Aside0.mk hR
  obtain ⟨W1, hW1⟩ : ∃ V, W.alloc (.cells #[.int .u8 x.f0, .int .i64 x.f1, .slice A2 x.f2.f0.length c2, .slice A3 x.f2.f1.length c3, .slice A4 x.f2.f2.length c4, .slice A5 x.f3.length c5] 47) = V := ⟨_, rfl⟩
  obtain ⟨B, hBB⟩ : ∃ b, W.heap.size = b := ⟨_, rfl⟩
  have hbw : Below W.heap.size W W1 := by rw [← hW1]; exact below_alloc (Below.refl _ _) _
  have BK := Aside0.mk (show W1.heap[B]? = some (.cells #[.int .u8 x.f0, .int .i64 x.f1, .slice A2 x.f2.f0.length c2, .slice A3 x.f2.f1.length c3, .slice A4 x.f2.f2.length c4, .slice A5 x.f3.length c5] 47 (0, 0)) by rw [← hW1, ← hBB]; exact heap_alloc_new _ _)
  have HBW := Aside0.mk hbw
  have HR2 := Aside0.mk (Kd.C_below a2 hbw)
  have HR3 := Aside0.mk (Kd.C_below a4 hbw)
  have HR4 := Aside0.mk (Kd.C_below a6 hbw)
  have HR5 := Aside0.mk (Kd.C_below a8 hbw)
  have HB := Aside0.mk (Below.refl W1.heap.size W1)
  have HTT := Aside0.mk ((hT.below hW).below hbw)
  have RK := Aside0.mk (show W1.heap[B4]? = some (.cells sc_rowsC 54 (0, 0)) from (hbw.block B4 (Nat.lt_of_lt_of_le (tk_lt hRK) hW.size)).trans ((hW.block B4 (tk_lt hRK)).trans hRK))
  have RK0 := RK
  clear hW hbw hT hRK a1 a2 a3 a4 a5 a6 a7 a8 s0 s1 s2 s3 s4 s5 s6 hR
  have HJ := Aside0.mk hj
  have HKK := Aside0.mk hk
  have hjl := (sc_row_kinds j r hj).1
  have hjz : (0 : Int) ≤ (j : Int) := by omega
  have hjz2 : ((j : Int) < 0) = False := eq_false (by omega)
  have hjz3 : (j : Int) < 9 := by omega
  clear hj hk
  have hd0 : (0 < (x.f3.length : Int)) = False := eq_false (by omega)
  have hd1 : (0 < x.f3.length) = False := eq_false (by omega)
  have HD0 := Aside0.mk hd
  clear hd
  have hn0 : (x.f1 == 0) = true := by simp [hn]
  have hn1 : (x.f1 != 0) = false := by simp [hn]
  have HN1 := Aside0.mk hn
  clear hn
  have hkb : (x.f0 == 1) = true := by simp [hk1]
  have hkc : (x.f0 != 1) = false := by simp [hk1]
  have hkd : decide (x.f0 = 1) = true := by simp [hk1]
  have HK1 := Aside0.mk hk1
  clear hk1
  have ew1 : wrap64 ((x.f2.f0.length : Int) + (x.f2.f1.length : Int)) = (x.f2.f0.length : Int) + (x.f2.f1.length : Int) := IntWalk.wrap64_in _ (by have := HL2.out; have := HL3.out; omega)
  have ew2 : wrap64 ((x.f2.f0.length : Int) + (x.f2.f1.length : Int) + (x.f2.f2.length : Int)) = (x.f2.f0.length : Int) + (x.f2.f1.length : Int) + (x.f2.f2.length : Int) := IntWalk.wrap64_in _ (by have := HL2.out; have := HL3.out; have := HL4.out; omega)
  have hs : (0 < (x.f2.f0.length : Int) + (x.f2.f1.length : Int) + (x.f2.f2.length : Int)) = False := eq_false (by omega)
  have HM := Aside0.mk hm
  clear hm
  obtain ⟨F, hF⟩ : ∃ H, sc_b (sc_toldL sc_f x.f2.f0) = H := ⟨_, rfl⟩
  obtain ⟨D, hD⟩ : ∃ H, sc_b (sc_tail (sc_bw x.f2.f1)) = H := ⟨_, rfl⟩
  obtain ⟨T, hT⟩ : ∃ H, sc_b (sc_toldL sc_t x.f2.f2) = H := ⟨_, rfl⟩
  have k1 : F.size ≤ 1000000 * 2000010 := by rw [← hF]; exact Nat.le_trans (sc_toldL_len sc_f x.f2.f0 HSF0.out (by decide)) (Nat.mul_le_mul_right _ HL2.out)
  have k2 : D.size ≤ 2000004 := by rw [← hD]; exact Nat.le_trans (sc_bw_len x.f2.f1) (by have := HL3.out; omega)
  have k3 : T.size ≤ 1000000 * 2000010 := by rw [← hT]; exact Nat.le_trans (sc_toldL_len sc_t x.f2.f2 HSF2.out (by decide)) (Nat.mul_le_mul_right _ HL4.out)
  have k0 := (sc_row_kinds j r HJ.out).2.1
  obtain ⟨u1, hu1⟩ : ∃ p, F ++ D = p := ⟨_, rfl⟩
  obtain ⟨u2, hu2⟩ : ∃ p, u1 ++ T = p := ⟨_, rfl⟩
  obtain ⟨u3, hu3⟩ : ∃ p, r.1 ++ u2 = p := ⟨_, rfl⟩
  have y1 : u1.size = F.size + D.size := by rw [← hu1, ByteArray.size_append]
  have y2 : u2.size = u1.size + T.size := by rw [← hu2, ByteArray.size_append]
  have z1 := sc_cat F D (by omega)
  have z2 := sc_cat u1 T (by omega)
  have z3 := sc_cat r.1 u2 (by omega)
  have HRR := Aside0.mk (show R = (u3, 0) by rw [HRR.out, ← hu3, ← hu2, ← hu1, ← hF, ← hD, ← hT])
  clear k0 k1 k2 k3 y1 y2
  go_enter Tryd.func18, Tryd.ntmps18
  go_upto_region 1 with (fail)
  (try rw [hW1])
  (try rw [hBB])
  clear hW1 hBB
  have d0 : W1.cell? ⟨B, 0, none⟩ = some (.int .u8 x.f0) := (blk_cell BK.out 0).trans rfl
  have d1 : W1.cell? ⟨B, 1, none⟩ = some (.int .i64 x.f1) := (blk_cell BK.out 1).trans rfl
  have d2 : W1.cell? ⟨B, 2, none⟩ = some (.slice A2 x.f2.f0.length c2) := (blk_cell BK.out 2).trans rfl
  have d3 : W1.cell? ⟨B, 3, none⟩ = some (.slice A3 x.f2.f1.length c3) := (blk_cell BK.out 3).trans rfl
  have d4 : W1.cell? ⟨B, 4, none⟩ = some (.slice A4 x.f2.f2.length c4) := (blk_cell BK.out 4).trans rfl
  have d5 : W1.cell? ⟨B, 5, none⟩ = some (.slice A5 x.f3.length c5) := (blk_cell BK.out 5).trans rfl
  go_upto_region 7 with (first | (go_at_call 19; refine (sc_IndexFunc.calls B4 B x.f0 _ _ RK.out BK.out rfl).mono ?_; rw [hi]; rintro e w1 ⟨rfl, hz⟩; have HB := Aside0.mk (show Below W1.heap.size W1 w1 from by first | exact below_step HB.out hz | exact below_step (below_drew1 HB.out) hz); have BK := Aside0.mk (show w1.heap[B]? = some (.cells #[.int .u8 x.f0, .int .i64 x.f1, .slice A2 x.f2.f0.length c2, .slice A3 x.f2.f1.length c3, .slice A4 x.f2.f2.length c4, .slice A5 x.f3.length c5] 47 (0, 0)) from by first | exact blk_below BK.out hz | exact (hz.block B (tk_lt BK.out)).trans BK.out); have RK := Aside0.mk (show w1.heap[B4]? = some (.cells sc_rowsC 54 (0, 0)) from by first | exact blk_below RK.out hz | exact (hz.block B4 (tk_lt RK.out)).trans RK.out); have d0 : w1.cell? ⟨B, 0, none⟩ = some (.int .u8 x.f0) := (blk_cell BK.out 0).trans rfl; have d1 : w1.cell? ⟨B, 1, none⟩ = some (.int .i64 x.f1) := (blk_cell BK.out 1).trans rfl; have d2 : w1.cell? ⟨B, 2, none⟩ = some (.slice A2 x.f2.f0.length c2) := (blk_cell BK.out 2).trans rfl; have d3 : w1.cell? ⟨B, 3, none⟩ = some (.slice A3 x.f2.f1.length c3) := (blk_cell BK.out 3).trans rfl; have d4 : w1.cell? ⟨B, 4, none⟩ = some (.slice A4 x.f2.f2.length c4) := (blk_cell BK.out 4).trans rfl; have d5 : w1.cell? ⟨B, 5, none⟩ = some (.slice A5 x.f3.length c5) := (blk_cell BK.out 5).trans rfl; have hrc := sc_rowcell _ B4 RK.out j r HJ.out; obtain ⟨q0, q1, q2, q3⟩ := hrc; clear hz))
  go_region_held3 (fun w' => w'.cell? ⟨B, 0, none⟩ = some (.int .u8 x.f0) ∧ w'.cell? ⟨B, 1, none⟩ = some (.int .i64 x.f1) ∧ w'.cell? ⟨B, 2, none⟩ = some (.slice A2 x.f2.f0.length c2) ∧ w'.cell? ⟨B, 3, none⟩ = some (.slice A3 x.f2.f1.length c3) ∧ w'.cell? ⟨B, 4, none⟩ = some (.slice A4 x.f2.f2.length c4) ∧ w'.cell? ⟨B, 5, none⟩ = some (.slice A5 x.f3.length c5)) (first | go_keep | (refine ⟨?_, ?_, ?_, ?_, ?_, ?_⟩ <;> assumption)) (first | ((go_at_call 21; (with_reducible refine (script_told_f.calls A2 c2 x.f2.f0 _ (Kd.C_below HR2.out (by first | exact HB.out | exact below_drew1 HB.out)) HC2.out HSF0.out HL2.out).mono ?_); rintro e w1 ⟨rfl, hz⟩; have HB := Aside0.mk (show Below W1.heap.size W1 w1 from by first | exact below_step HB.out hz | exact below_step (below_drew1 HB.out) hz); have BK := Aside0.mk (show w1.heap[B]? = some (.cells #[.int .u8 x.f0, .int .i64 x.f1, .slice A2 x.f2.f0.length c2, .slice A3 x.f2.f1.length c3, .slice A4 x.f2.f2.length c4, .slice A5 x.f3.length c5] 47 (0, 0)) from by first | exact blk_below BK.out hz | exact (hz.block B (tk_lt BK.out)).trans BK.out); have d0 : w1.cell? ⟨B, 0, none⟩ = some (.int .u8 x.f0) := (blk_cell BK.out 0).trans rfl; have d1 : w1.cell? ⟨B, 1, none⟩ = some (.int .i64 x.f1) := (blk_cell BK.out 1).trans rfl; have d2 : w1.cell? ⟨B, 2, none⟩ = some (.slice A2 x.f2.f0.length c2) := (blk_cell BK.out 2).trans rfl; have d3 : w1.cell? ⟨B, 3, none⟩ = some (.slice A3 x.f2.f1.length c3) := (blk_cell BK.out 3).trans rfl; have d4 : w1.cell? ⟨B, 4, none⟩ = some (.slice A4 x.f2.f2.length c4) := (blk_cell BK.out 4).trans rfl; have d5 : w1.cell? ⟨B, 5, none⟩ = some (.slice A5 x.f3.length c5) := (blk_cell BK.out 5).trans rfl; clear hz)) | ((go_at_call 21; (with_reducible refine (script_told_t.calls A4 c4 x.f2.f2 _ (Kd.C_below HR4.out (by first | exact HB.out | exact below_drew1 HB.out)) HC4.out HSF2.out HL4.out).mono ?_); rintro e w1 ⟨rfl, hz⟩; have HB := Aside0.mk (show Below W1.heap.size W1 w1 from by first | exact below_step HB.out hz | exact below_step (below_drew1 HB.out) hz); have BK := Aside0.mk (show w1.heap[B]? = some (.cells #[.int .u8 x.f0, .int .i64 x.f1, .slice A2 x.f2.f0.length c2, .slice A3 x.f2.f1.length c3, .slice A4 x.f2.f2.length c4, .slice A5 x.f3.length c5] 47 (0, 0)) from by first | exact blk_below BK.out hz | exact (hz.block B (tk_lt BK.out)).trans BK.out); have d0 : w1.cell? ⟨B, 0, none⟩ = some (.int .u8 x.f0) := (blk_cell BK.out 0).trans rfl; have d1 : w1.cell? ⟨B, 1, none⟩ = some (.int .i64 x.f1) := (blk_cell BK.out 1).trans rfl; have d2 : w1.cell? ⟨B, 2, none⟩ = some (.slice A2 x.f2.f0.length c2) := (blk_cell BK.out 2).trans rfl; have d3 : w1.cell? ⟨B, 3, none⟩ = some (.slice A3 x.f2.f1.length c3) := (blk_cell BK.out 3).trans rfl; have d4 : w1.cell? ⟨B, 4, none⟩ = some (.slice A4 x.f2.f2.length c4) := (blk_cell BK.out 4).trans rfl; have d5 : w1.cell? ⟨B, 5, none⟩ = some (.slice A5 x.f3.length c5) := (blk_cell BK.out 5).trans rfl; clear hz)) | (go_at_call 22; refine (script_body.calls _ _ _ _ (Kd.C_below HR3.out (by first | exact HB.out | exact below_drew1 HB.out)) HC3.out HL3.out).mono ?_; rintro e w1 ⟨rfl, hz⟩; have HB := Aside0.mk (show Below W1.heap.size W1 w1 from by first | exact below_step HB.out hz | exact below_step (below_drew1 HB.out) hz); have BK := Aside0.mk (show w1.heap[B]? = some (.cells #[.int .u8 x.f0, .int .i64 x.f1, .slice A2 x.f2.f0.length c2, .slice A3 x.f2.f1.length c3, .slice A4 x.f2.f2.length c4, .slice A5 x.f3.length c5] 47 (0, 0)) from by first | exact blk_below BK.out hz | exact (hz.block B (tk_lt BK.out)).trans BK.out); have d0 : w1.cell? ⟨B, 0, none⟩ = some (.int .u8 x.f0) := (blk_cell BK.out 0).trans rfl; have d1 : w1.cell? ⟨B, 1, none⟩ = some (.int .i64 x.f1) := (blk_cell BK.out 1).trans rfl; have d2 : w1.cell? ⟨B, 2, none⟩ = some (.slice A2 x.f2.f0.length c2) := (blk_cell BK.out 2).trans rfl; have d3 : w1.cell? ⟨B, 3, none⟩ = some (.slice A3 x.f2.f1.length c3) := (blk_cell BK.out 3).trans rfl; have d4 : w1.cell? ⟨B, 4, none⟩ = some (.slice A4 x.f2.f2.length c4) := (blk_cell BK.out 4).trans rfl; have d5 : w1.cell? ⟨B, 5, none⟩ = some (.slice A5 x.f3.length c5) := (blk_cell BK.out 5).trans rfl; clear hz))
  have RK := Aside0.mk (show w1.heap[B4]? = some (.cells sc_rowsC 54 (0, 0)) from blk_below RK0.out HB.out)
  obtain ⟨q0, q1, q2, q3⟩ := sc_rowcell _ B4 RK.out j r HJ.out
  go_wp2_with (fail)
  go_ret2
  rw [HRR.out]
  exact ⟨rfl, below_step HBW.out HB.out⟩
set_option maxHeartbeats 6400000 in
set_option maxRecDepth 100000 in
theorem line_good3 (B4 : Nat) (x : S47) (W w0 : World) (A2 : Option Addr) (c2 : Nat) (A3 : Option Addr) (c3 : Nat) (A4 : Option Addr) (c4 : Nat) (A5 : Option Addr) (c5 : Nat) (hT : ScTab w0) (hRK : w0.heap[B4]? = some (.cells sc_rowsC 54 (0, 0))) (hx : sc_smallE x) (hW : Below w0.heap.size w0 W) (ha : x.f2.f0.length ≤ c2 ∧ k49.C W A2 x.f2.f0.length x.f2.f0 ∧ x.f2.f1.length ≤ c3 ∧ (Kd.int .u8).C W A3 x.f2.f1.length x.f2.f1 ∧ x.f2.f2.length ≤ c4 ∧ k49.C W A4 x.f2.f2.length x.f2.f2 ∧ x.f3.length ≤ c5 ∧ (Kd.int .u8).C W A5 x.f3.length x.f3) (j : Nat) (r : ByteArray × Int × Bool × Bool) (hi : sc_idx x.f0 sc_rows 0 = (j : Int)) (hj : sc_rows[j]? = some r) (hk : x.f0 = r.2.1) (hm : x.f2.f0.length = 0 ∧ x.f2.f1.length = 0 ∧ x.f2.f2.length = 0) (hk1 : x.f0 ≠ 1) (hn : x.f1 = 0) (hrn : r.2.2.1 = false) (hd : x.f3.length = 0) (hrd : r.2.2.2 = false) (R : ByteArray × Int) (hR : R = (r.1, 0)) :
    Calls Tryd.prog 18 #[.agg #[.int .u8 x.f0, .int .i64 x.f1, .slice A2 x.f2.f0.length c2, .slice A3 x.f2.f1.length c3, .slice A4 x.f2.f2.length c4, .slice A5 x.f3.length c5], .pointer (some ⟨B4, 0, none⟩)] W fun e w' => e = .returned (.tuple #[.string R.1, .int .i64 R.2]) ∧ Below W.heap.size W w' := by
  obtain ⟨a1, a2, a3, a4, a5, a6, a7, a8⟩ := ha
  obtain ⟨s0, s1, s2, s3, s4, s5, s6⟩ := hx
  have HOK := Aside0.mk s0
  have HSF0 := Aside0.mk s1
  have HL2 := Aside0.mk s2
  have HL3 := Aside0.mk s3
  have HSF2 := Aside0.mk s4
  have HL4 := Aside0.mk s5
  have HL5 := Aside0.mk s6
  have HC2 := Aside0.mk a1
  have HC3 := Aside0.mk a3
  have HC4 := Aside0.mk a5
  have HC5 := Aside0.mk a7
  have HRR := Aside0.mk hR
  obtain ⟨W1, hW1⟩ : ∃ V, W.alloc (.cells #[.int .u8 x.f0, .int .i64 x.f1, .slice A2 x.f2.f0.length c2, .slice A3 x.f2.f1.length c3, .slice A4 x.f2.f2.length c4, .slice A5 x.f3.length c5] 47) = V := ⟨_, rfl⟩
  obtain ⟨B, hBB⟩ : ∃ b, W.heap.size = b := ⟨_, rfl⟩
  have hbw : Below W.heap.size W W1 := by rw [← hW1]; exact below_alloc (Below.refl _ _) _
  have BK := Aside0.mk (show W1.heap[B]? = some (.cells #[.int .u8 x.f0, .int .i64 x.f1, .slice A2 x.f2.f0.length c2, .slice A3 x.f2.f1.length c3, .slice A4 x.f2.f2.length c4, .slice A5 x.f3.length c5] 47 (0, 0)) by rw [← hW1, ← hBB]; exact heap_alloc_new _ _)
  have HBW := Aside0.mk hbw
  have HR2 := Aside0.mk (Kd.C_below a2 hbw)
  have HR3 := Aside0.mk (Kd.C_below a4 hbw)
  have HR4 := Aside0.mk (Kd.C_below a6 hbw)
  have HR5 := Aside0.mk (Kd.C_below a8 hbw)
  have HB := Aside0.mk (Below.refl W1.heap.size W1)
  have HTT := Aside0.mk ((hT.below hW).below hbw)
  have RK := Aside0.mk (show W1.heap[B4]? = some (.cells sc_rowsC 54 (0, 0)) from (hbw.block B4 (Nat.lt_of_lt_of_le (tk_lt hRK) hW.size)).trans ((hW.block B4 (tk_lt hRK)).trans hRK))
  have RK0 := RK
  clear hW hbw hT hRK a1 a2 a3 a4 a5 a6 a7 a8 s0 s1 s2 s3 s4 s5 s6 hR
  have HJ := Aside0.mk hj
  have HKK := Aside0.mk hk
  have hjl := (sc_row_kinds j r hj).1
  have hjz : (0 : Int) ≤ (j : Int) := by omega
  have hjz2 : ((j : Int) < 0) = False := eq_false (by omega)
  have hjz3 : (j : Int) < 9 := by omega
  clear hj hk
  have hd0 : (0 < (x.f3.length : Int)) = False := eq_false (by omega)
  have hd1 : (0 < x.f3.length) = False := eq_false (by omega)
  have HD0 := Aside0.mk hd
  clear hd
  have hn0 : (x.f1 == 0) = true := by simp [hn]
  have hn1 : (x.f1 != 0) = false := by simp [hn]
  have HN1 := Aside0.mk hn
  clear hn
  have hkb : (x.f0 == 1) = false := by simp [hk1]
  have hkc : (x.f0 != 1) = true := by simp [hk1]
  have hkd : decide (x.f0 = 1) = false := by simp [hk1]
  have ew1 : wrap64 ((x.f2.f0.length : Int) + (x.f2.f1.length : Int)) = (x.f2.f0.length : Int) + (x.f2.f1.length : Int) := IntWalk.wrap64_in _ (by have := HL2.out; have := HL3.out; omega)
  have ew2 : wrap64 ((x.f2.f0.length : Int) + (x.f2.f1.length : Int) + (x.f2.f2.length : Int)) = (x.f2.f0.length : Int) + (x.f2.f1.length : Int) + (x.f2.f2.length : Int) := IntWalk.wrap64_in _ (by have := HL2.out; have := HL3.out; have := HL4.out; omega)
  have hs : (0 < (x.f2.f0.length : Int) + (x.f2.f1.length : Int) + (x.f2.f2.length : Int)) = False := eq_false (by omega)
  have HM := Aside0.mk hm
  clear hm
  go_enter Tryd.func18, Tryd.ntmps18
  go_upto_region 1 with (fail)
  (try rw [hW1])
  (try rw [hBB])
  clear hW1 hBB
  have d0 : W1.cell? ⟨B, 0, none⟩ = some (.int .u8 x.f0) := (blk_cell BK.out 0).trans rfl
  have d1 : W1.cell? ⟨B, 1, none⟩ = some (.int .i64 x.f1) := (blk_cell BK.out 1).trans rfl
  have d2 : W1.cell? ⟨B, 2, none⟩ = some (.slice A2 x.f2.f0.length c2) := (blk_cell BK.out 2).trans rfl
  have d3 : W1.cell? ⟨B, 3, none⟩ = some (.slice A3 x.f2.f1.length c3) := (blk_cell BK.out 3).trans rfl
  have d4 : W1.cell? ⟨B, 4, none⟩ = some (.slice A4 x.f2.f2.length c4) := (blk_cell BK.out 4).trans rfl
  have d5 : W1.cell? ⟨B, 5, none⟩ = some (.slice A5 x.f3.length c5) := (blk_cell BK.out 5).trans rfl
  go_wp2_with (first | (go_at_call 19; refine (sc_IndexFunc.calls B4 B x.f0 _ _ RK.out BK.out rfl).mono ?_; rw [hi]; rintro e w1 ⟨rfl, hz⟩; have HB := Aside0.mk (show Below W1.heap.size W1 w1 from by first | exact below_step HB.out hz | exact below_step (below_drew1 HB.out) hz); have BK := Aside0.mk (show w1.heap[B]? = some (.cells #[.int .u8 x.f0, .int .i64 x.f1, .slice A2 x.f2.f0.length c2, .slice A3 x.f2.f1.length c3, .slice A4 x.f2.f2.length c4, .slice A5 x.f3.length c5] 47 (0, 0)) from by first | exact blk_below BK.out hz | exact (hz.block B (tk_lt BK.out)).trans BK.out); have RK := Aside0.mk (show w1.heap[B4]? = some (.cells sc_rowsC 54 (0, 0)) from by first | exact blk_below RK.out hz | exact (hz.block B4 (tk_lt RK.out)).trans RK.out); have d0 : w1.cell? ⟨B, 0, none⟩ = some (.int .u8 x.f0) := (blk_cell BK.out 0).trans rfl; have d1 : w1.cell? ⟨B, 1, none⟩ = some (.int .i64 x.f1) := (blk_cell BK.out 1).trans rfl; have d2 : w1.cell? ⟨B, 2, none⟩ = some (.slice A2 x.f2.f0.length c2) := (blk_cell BK.out 2).trans rfl; have d3 : w1.cell? ⟨B, 3, none⟩ = some (.slice A3 x.f2.f1.length c3) := (blk_cell BK.out 3).trans rfl; have d4 : w1.cell? ⟨B, 4, none⟩ = some (.slice A4 x.f2.f2.length c4) := (blk_cell BK.out 4).trans rfl; have d5 : w1.cell? ⟨B, 5, none⟩ = some (.slice A5 x.f3.length c5) := (blk_cell BK.out 5).trans rfl; have hrc := sc_rowcell _ B4 RK.out j r HJ.out; obtain ⟨q0, q1, q2, q3⟩ := hrc; clear hz))
  go_ret2
  rw [HRR.out]
  exact ⟨rfl, below_step HBW.out HB.out⟩
set_option maxHeartbeats 6400000 in
set_option maxRecDepth 100000 in
theorem line_good20 (B4 : Nat) (x : S47) (W w0 : World) (A2 : Option Addr) (c2 : Nat) (A3 : Option Addr) (c3 : Nat) (A4 : Option Addr) (c4 : Nat) (A5 : Option Addr) (c5 : Nat) (hT : ScTab w0) (hRK : w0.heap[B4]? = some (.cells sc_rowsC 54 (0, 0))) (hx : sc_smallE x) (hW : Below w0.heap.size w0 W) (ha : x.f2.f0.length ≤ c2 ∧ k49.C W A2 x.f2.f0.length x.f2.f0 ∧ x.f2.f1.length ≤ c3 ∧ (Kd.int .u8).C W A3 x.f2.f1.length x.f2.f1 ∧ x.f2.f2.length ≤ c4 ∧ k49.C W A4 x.f2.f2.length x.f2.f2 ∧ x.f3.length ≤ c5 ∧ (Kd.int .u8).C W A5 x.f3.length x.f3) (j : Nat) (r : ByteArray × Int × Bool × Bool) (hi : sc_idx x.f0 sc_rows 0 = (j : Int)) (hj : sc_rows[j]? = some r) (hk : x.f0 = r.2.1) (hm : x.f2.f0.length = 0 ∧ x.f2.f1.length = 0 ∧ x.f2.f2.length = 0) (hk1 : x.f0 ≠ 1) (hn : x.f1 = 0) (hrn : r.2.2.1 = true) (hd : x.f3.length = 0) (hrd : r.2.2.2 = false) (R : ByteArray × Int) (hR : R = (r.1 ++ ((⟨#[32]⟩ : ByteArray) ++ sc_b (Lib.itoa x.f1)), 0)) :
    Calls Tryd.prog 18 #[.agg #[.int .u8 x.f0, .int .i64 x.f1, .slice A2 x.f2.f0.length c2, .slice A3 x.f2.f1.length c3, .slice A4 x.f2.f2.length c4, .slice A5 x.f3.length c5], .pointer (some ⟨B4, 0, none⟩)] W fun e w' => e = .returned (.tuple #[.string R.1, .int .i64 R.2]) ∧ Below W.heap.size W w' := by
  obtain ⟨a1, a2, a3, a4, a5, a6, a7, a8⟩ := ha
  obtain ⟨s0, s1, s2, s3, s4, s5, s6⟩ := hx
  have HOK := Aside0.mk s0
  have HSF0 := Aside0.mk s1
  have HL2 := Aside0.mk s2
  have HL3 := Aside0.mk s3
  have HSF2 := Aside0.mk s4
  have HL4 := Aside0.mk s5
  have HL5 := Aside0.mk s6
  have HC2 := Aside0.mk a1
  have HC3 := Aside0.mk a3
  have HC4 := Aside0.mk a5
  have HC5 := Aside0.mk a7
  have HRR := Aside0.mk hR
  obtain ⟨W1, hW1⟩ : ∃ V, W.alloc (.cells #[.int .u8 x.f0, .int .i64 x.f1, .slice A2 x.f2.f0.length c2, .slice A3 x.f2.f1.length c3, .slice A4 x.f2.f2.length c4, .slice A5 x.f3.length c5] 47) = V := ⟨_, rfl⟩
  obtain ⟨B, hBB⟩ : ∃ b, W.heap.size = b := ⟨_, rfl⟩
  have hbw : Below W.heap.size W W1 := by rw [← hW1]; exact below_alloc (Below.refl _ _) _
  have BK := Aside0.mk (show W1.heap[B]? = some (.cells #[.int .u8 x.f0, .int .i64 x.f1, .slice A2 x.f2.f0.length c2, .slice A3 x.f2.f1.length c3, .slice A4 x.f2.f2.length c4, .slice A5 x.f3.length c5] 47 (0, 0)) by rw [← hW1, ← hBB]; exact heap_alloc_new _ _)
  have HBW := Aside0.mk hbw
  have HR2 := Aside0.mk (Kd.C_below a2 hbw)
  have HR3 := Aside0.mk (Kd.C_below a4 hbw)
  have HR4 := Aside0.mk (Kd.C_below a6 hbw)
  have HR5 := Aside0.mk (Kd.C_below a8 hbw)
  have HB := Aside0.mk (Below.refl W1.heap.size W1)
  have HTT := Aside0.mk ((hT.below hW).below hbw)
  have RK := Aside0.mk (show W1.heap[B4]? = some (.cells sc_rowsC 54 (0, 0)) from (hbw.block B4 (Nat.lt_of_lt_of_le (tk_lt hRK) hW.size)).trans ((hW.block B4 (tk_lt hRK)).trans hRK))
  have RK0 := RK
  clear hW hbw hT hRK a1 a2 a3 a4 a5 a6 a7 a8 s0 s1 s2 s3 s4 s5 s6 hR
  have HJ := Aside0.mk hj
  have HKK := Aside0.mk hk
  have hjl := (sc_row_kinds j r hj).1
  have hjz : (0 : Int) ≤ (j : Int) := by omega
  have hjz2 : ((j : Int) < 0) = False := eq_false (by omega)
  have hjz3 : (j : Int) < 9 := by omega
  clear hj hk
  have hd0 : (0 < (x.f3.length : Int)) = False := eq_false (by omega)
  have hd1 : (0 < x.f3.length) = False := eq_false (by omega)
  have HD0 := Aside0.mk hd
  clear hd
  have hn0 : (x.f1 == 0) = true := by simp [hn]
  have hn1 : (x.f1 != 0) = false := by simp [hn]
  have HN1 := Aside0.mk hn
  clear hn
  have hkb : (x.f0 == 1) = false := by simp [hk1]
  have hkc : (x.f0 != 1) = true := by simp [hk1]
  have hkd : decide (x.f0 = 1) = false := by simp [hk1]
  have ew1 : wrap64 ((x.f2.f0.length : Int) + (x.f2.f1.length : Int)) = (x.f2.f0.length : Int) + (x.f2.f1.length : Int) := IntWalk.wrap64_in _ (by have := HL2.out; have := HL3.out; omega)
  have ew2 : wrap64 ((x.f2.f0.length : Int) + (x.f2.f1.length : Int) + (x.f2.f2.length : Int)) = (x.f2.f0.length : Int) + (x.f2.f1.length : Int) + (x.f2.f2.length : Int) := IntWalk.wrap64_in _ (by have := HL2.out; have := HL3.out; have := HL4.out; omega)
  have hs : (0 < (x.f2.f0.length : Int) + (x.f2.f1.length : Int) + (x.f2.f2.length : Int)) = False := eq_false (by omega)
  have HM := Aside0.mk hm
  clear hm
  obtain ⟨N, hN⟩ : ∃ H, sc_b (Lib.itoa x.f1) = H := ⟨_, rfl⟩
  have k2 : N.size ≤ 21 := by rw [← hN]; exact sc_itoa_len _ HOK.out
  have k0 := (sc_row_kinds j r HJ.out).2.1
  obtain ⟨u1, hu1⟩ : ∃ p, (⟨#[32]⟩ : ByteArray) ++ N = p := ⟨_, rfl⟩
  obtain ⟨u2, hu2⟩ : ∃ p, r.1 ++ u1 = p := ⟨_, rfl⟩
  have r1 : (⟨#[32]⟩ : ByteArray).size = 1 := rfl
  have y1 : u1.size = 1 + N.size := by rw [← hu1, ByteArray.size_append]; rfl
  have y2 : u2.size = r.1.size + u1.size := by rw [← hu2, ByteArray.size_append]
  have z1 := sc_cat ⟨#[32]⟩ N (by omega)
  have z1b := sc_ncat N 1 (by omega)
  have z2 := sc_cat r.1 u1 (by omega)
  have hcv0 := fun (w : World) h => Kd.C_string (P := Tryd.prog) (src := 43) (dst := 9) (e := 5) (c := c5) Tryd.underlying43 Tryd.underlying5 Tryd.underlying9 (h := h) (w := w) (A := A5) (n := x.f3.length) (xs := x.f3)
  obtain ⟨Y, hY⟩ : ∃ Y, sc_bytes x.f3 = Y := ⟨_, rfl⟩
  have hys : Y.size = x.f3.length := by rw [← hY]; simp [sc_bytes, sc_b_size]
  have HX5 := Aside0.mk (show Y.size ≤ 1000000 by have := HL5.out; omega)
  have HCV := Aside0.mk (fun (w1 : World) (hb : Below W1.heap.size W1 w1) => by have h := hcv0 w1 (Kd.C_below HR5.out hb); rw [sc_strOf, hY] at h; exact h)
  obtain ⟨X, hX⟩ : ∃ X, sc_hexB Y = X := ⟨_, rfl⟩
  have k5 : X.size ≤ 2000001 := by rw [← hX]; exact Nat.le_trans (sc_hexB_size Y) (by have := HX5.out; omega)
  obtain ⟨u3, hu3⟩ : ∃ p, (⟨#[32]⟩ : ByteArray) ++ X = p := ⟨_, rfl⟩
  obtain ⟨u4, hu4⟩ : ∃ p, u2 ++ u3 = p := ⟨_, rfl⟩
  have y3 : u3.size = 1 + X.size := by rw [← hu3, ByteArray.size_append]; rfl
  have z3 := sc_cat ⟨#[32]⟩ X (by omega)
  have z3b := sc_ncat X 1 (by omega)
  have z4 := sc_cat u2 u3 (by omega)
  have HRR := Aside0.mk (show R = (u2, 0) by rw [HRR.out, ← hu2, ← hu1, ← hN])
  clear hu4 hu3 hX z3 z3b z4  k0 k2 k5 y1 y2 y3 r1 hys hcv0 hY
  go_enter Tryd.func18, Tryd.ntmps18
  go_upto_region 1 with (fail)
  (try rw [hW1])
  (try rw [hBB])
  clear hW1 hBB
  have d0 : W1.cell? ⟨B, 0, none⟩ = some (.int .u8 x.f0) := (blk_cell BK.out 0).trans rfl
  have d1 : W1.cell? ⟨B, 1, none⟩ = some (.int .i64 x.f1) := (blk_cell BK.out 1).trans rfl
  have d2 : W1.cell? ⟨B, 2, none⟩ = some (.slice A2 x.f2.f0.length c2) := (blk_cell BK.out 2).trans rfl
  have d3 : W1.cell? ⟨B, 3, none⟩ = some (.slice A3 x.f2.f1.length c3) := (blk_cell BK.out 3).trans rfl
  have d4 : W1.cell? ⟨B, 4, none⟩ = some (.slice A4 x.f2.f2.length c4) := (blk_cell BK.out 4).trans rfl
  have d5 : W1.cell? ⟨B, 5, none⟩ = some (.slice A5 x.f3.length c5) := (blk_cell BK.out 5).trans rfl
  go_wp2_with (first | (go_at_call 19; refine (sc_IndexFunc.calls B4 B x.f0 _ _ RK.out BK.out rfl).mono ?_; rw [hi]; rintro e w1 ⟨rfl, hz⟩; have HB := Aside0.mk (show Below W1.heap.size W1 w1 from by first | exact below_step HB.out hz | exact below_step (below_drew1 HB.out) hz); have BK := Aside0.mk (show w1.heap[B]? = some (.cells #[.int .u8 x.f0, .int .i64 x.f1, .slice A2 x.f2.f0.length c2, .slice A3 x.f2.f1.length c3, .slice A4 x.f2.f2.length c4, .slice A5 x.f3.length c5] 47 (0, 0)) from by first | exact blk_below BK.out hz | exact (hz.block B (tk_lt BK.out)).trans BK.out); have RK := Aside0.mk (show w1.heap[B4]? = some (.cells sc_rowsC 54 (0, 0)) from by first | exact blk_below RK.out hz | exact (hz.block B4 (tk_lt RK.out)).trans RK.out); have d0 : w1.cell? ⟨B, 0, none⟩ = some (.int .u8 x.f0) := (blk_cell BK.out 0).trans rfl; have d1 : w1.cell? ⟨B, 1, none⟩ = some (.int .i64 x.f1) := (blk_cell BK.out 1).trans rfl; have d2 : w1.cell? ⟨B, 2, none⟩ = some (.slice A2 x.f2.f0.length c2) := (blk_cell BK.out 2).trans rfl; have d3 : w1.cell? ⟨B, 3, none⟩ = some (.slice A3 x.f2.f1.length c3) := (blk_cell BK.out 3).trans rfl; have d4 : w1.cell? ⟨B, 4, none⟩ = some (.slice A4 x.f2.f2.length c4) := (blk_cell BK.out 4).trans rfl; have d5 : w1.cell? ⟨B, 5, none⟩ = some (.slice A5 x.f3.length c5) := (blk_cell BK.out 5).trans rfl; have hrc := sc_rowcell _ B4 RK.out j r HJ.out; obtain ⟨q0, q1, q2, q3⟩ := hrc; clear hz) | (go_at_call 23; refine (sc_Itoa _ _ HOK.out (HTT.out.below HB.out)).mono ?_; rintro e w1 ⟨rfl, hz⟩; have HB := Aside0.mk (show Below W1.heap.size W1 w1 from by first | exact below_step HB.out hz | exact below_step (below_drew1 HB.out) hz); have BK := Aside0.mk (show w1.heap[B]? = some (.cells #[.int .u8 x.f0, .int .i64 x.f1, .slice A2 x.f2.f0.length c2, .slice A3 x.f2.f1.length c3, .slice A4 x.f2.f2.length c4, .slice A5 x.f3.length c5] 47 (0, 0)) from by first | exact blk_below BK.out hz | exact (hz.block B (tk_lt BK.out)).trans BK.out); have RK := Aside0.mk (show w1.heap[B4]? = some (.cells sc_rowsC 54 (0, 0)) from by first | exact blk_below RK.out hz | exact (hz.block B4 (tk_lt RK.out)).trans RK.out); have d0 : w1.cell? ⟨B, 0, none⟩ = some (.int .u8 x.f0) := (blk_cell BK.out 0).trans rfl; have d1 : w1.cell? ⟨B, 1, none⟩ = some (.int .i64 x.f1) := (blk_cell BK.out 1).trans rfl; have d2 : w1.cell? ⟨B, 2, none⟩ = some (.slice A2 x.f2.f0.length c2) := (blk_cell BK.out 2).trans rfl; have d3 : w1.cell? ⟨B, 3, none⟩ = some (.slice A3 x.f2.f1.length c3) := (blk_cell BK.out 3).trans rfl; have d4 : w1.cell? ⟨B, 4, none⟩ = some (.slice A4 x.f2.f2.length c4) := (blk_cell BK.out 4).trans rfl; have d5 : w1.cell? ⟨B, 5, none⟩ = some (.slice A5 x.f3.length c5) := (blk_cell BK.out 5).trans rfl; have hrc := sc_rowcell _ B4 RK.out j r HJ.out; obtain ⟨q0, q1, q2, q3⟩ := hrc; have hcv := HCV.out w1 HB.out; clear hz) | (go_at_call 24; refine (script_hex.calls _ _ (by have := HX5.out; omega)).mono ?_; rintro e w1 ⟨rfl, hz⟩; have HB := Aside0.mk (show Below W1.heap.size W1 w1 from by first | exact below_step HB.out hz | exact below_step (below_drew1 HB.out) hz); have BK := Aside0.mk (show w1.heap[B]? = some (.cells #[.int .u8 x.f0, .int .i64 x.f1, .slice A2 x.f2.f0.length c2, .slice A3 x.f2.f1.length c3, .slice A4 x.f2.f2.length c4, .slice A5 x.f3.length c5] 47 (0, 0)) from by first | exact blk_below BK.out hz | exact (hz.block B (tk_lt BK.out)).trans BK.out); have RK := Aside0.mk (show w1.heap[B4]? = some (.cells sc_rowsC 54 (0, 0)) from by first | exact blk_below RK.out hz | exact (hz.block B4 (tk_lt RK.out)).trans RK.out); have d0 : w1.cell? ⟨B, 0, none⟩ = some (.int .u8 x.f0) := (blk_cell BK.out 0).trans rfl; have d1 : w1.cell? ⟨B, 1, none⟩ = some (.int .i64 x.f1) := (blk_cell BK.out 1).trans rfl; have d2 : w1.cell? ⟨B, 2, none⟩ = some (.slice A2 x.f2.f0.length c2) := (blk_cell BK.out 2).trans rfl; have d3 : w1.cell? ⟨B, 3, none⟩ = some (.slice A3 x.f2.f1.length c3) := (blk_cell BK.out 3).trans rfl; have d4 : w1.cell? ⟨B, 4, none⟩ = some (.slice A4 x.f2.f2.length c4) := (blk_cell BK.out 4).trans rfl; have d5 : w1.cell? ⟨B, 5, none⟩ = some (.slice A5 x.f3.length c5) := (blk_cell BK.out 5).trans rfl; have hrc := sc_rowcell _ B4 RK.out j r HJ.out; obtain ⟨q0, q1, q2, q3⟩ := hrc; clear hz))
  go_ret2
  rw [HRR.out]
  exact ⟨rfl, below_step HBW.out HB.out⟩
set_option maxHeartbeats 6400000 in
set_option maxRecDepth 100000 in
theorem line_good2N (B4 : Nat) (x : S47) (W w0 : World) (A2 : Option Addr) (c2 : Nat) (A3 : Option Addr) (c3 : Nat) (A4 : Option Addr) (c4 : Nat) (A5 : Option Addr) (c5 : Nat) (hT : ScTab w0) (hRK : w0.heap[B4]? = some (.cells sc_rowsC 54 (0, 0))) (hx : sc_smallE x) (hW : Below w0.heap.size w0 W) (ha : x.f2.f0.length ≤ c2 ∧ k49.C W A2 x.f2.f0.length x.f2.f0 ∧ x.f2.f1.length ≤ c3 ∧ (Kd.int .u8).C W A3 x.f2.f1.length x.f2.f1 ∧ x.f2.f2.length ≤ c4 ∧ k49.C W A4 x.f2.f2.length x.f2.f2 ∧ x.f3.length ≤ c5 ∧ (Kd.int .u8).C W A5 x.f3.length x.f3) (j : Nat) (r : ByteArray × Int × Bool × Bool) (hi : sc_idx x.f0 sc_rows 0 = (j : Int)) (hj : sc_rows[j]? = some r) (hk : x.f0 = r.2.1) (hm : x.f2.f0.length = 0 ∧ x.f2.f1.length = 0 ∧ x.f2.f2.length = 0) (hk1 : x.f0 ≠ 1) (hn : x.f1 ≠ 0) (hrn : r.2.2.1 = true) (hd : x.f3.length = 0) (hrd : r.2.2.2 = false) (R : ByteArray × Int) (hR : R = (r.1 ++ ((⟨#[32]⟩ : ByteArray) ++ sc_b (Lib.itoa x.f1)), 0)) :
    Calls Tryd.prog 18 #[.agg #[.int .u8 x.f0, .int .i64 x.f1, .slice A2 x.f2.f0.length c2, .slice A3 x.f2.f1.length c3, .slice A4 x.f2.f2.length c4, .slice A5 x.f3.length c5], .pointer (some ⟨B4, 0, none⟩)] W fun e w' => e = .returned (.tuple #[.string R.1, .int .i64 R.2]) ∧ Below W.heap.size W w' := by
  obtain ⟨a1, a2, a3, a4, a5, a6, a7, a8⟩ := ha
  obtain ⟨s0, s1, s2, s3, s4, s5, s6⟩ := hx
  have HOK := Aside0.mk s0
  have HSF0 := Aside0.mk s1
  have HL2 := Aside0.mk s2
  have HL3 := Aside0.mk s3
  have HSF2 := Aside0.mk s4
  have HL4 := Aside0.mk s5
  have HL5 := Aside0.mk s6
  have HC2 := Aside0.mk a1
  have HC3 := Aside0.mk a3
  have HC4 := Aside0.mk a5
  have HC5 := Aside0.mk a7
  have HRR := Aside0.mk hR
  obtain ⟨W1, hW1⟩ : ∃ V, W.alloc (.cells #[.int .u8 x.f0, .int .i64 x.f1, .slice A2 x.f2.f0.length c2, .slice A3 x.f2.f1.length c3, .slice A4 x.f2.f2.length c4, .slice A5 x.f3.length c5] 47) = V := ⟨_, rfl⟩
  obtain ⟨B, hBB⟩ : ∃ b, W.heap.size = b := ⟨_, rfl⟩
  have hbw : Below W.heap.size W W1 := by rw [← hW1]; exact below_alloc (Below.refl _ _) _
  have BK := Aside0.mk (show W1.heap[B]? = some (.cells #[.int .u8 x.f0, .int .i64 x.f1, .slice A2 x.f2.f0.length c2, .slice A3 x.f2.f1.length c3, .slice A4 x.f2.f2.length c4, .slice A5 x.f3.length c5] 47 (0, 0)) by rw [← hW1, ← hBB]; exact heap_alloc_new _ _)
  have HBW := Aside0.mk hbw
  have HR2 := Aside0.mk (Kd.C_below a2 hbw)
  have HR3 := Aside0.mk (Kd.C_below a4 hbw)
  have HR4 := Aside0.mk (Kd.C_below a6 hbw)
  have HR5 := Aside0.mk (Kd.C_below a8 hbw)
  have HB := Aside0.mk (Below.refl W1.heap.size W1)
  have HTT := Aside0.mk ((hT.below hW).below hbw)
  have RK := Aside0.mk (show W1.heap[B4]? = some (.cells sc_rowsC 54 (0, 0)) from (hbw.block B4 (Nat.lt_of_lt_of_le (tk_lt hRK) hW.size)).trans ((hW.block B4 (tk_lt hRK)).trans hRK))
  have RK0 := RK
  clear hW hbw hT hRK a1 a2 a3 a4 a5 a6 a7 a8 s0 s1 s2 s3 s4 s5 s6 hR
  have HJ := Aside0.mk hj
  have HKK := Aside0.mk hk
  have hjl := (sc_row_kinds j r hj).1
  have hjz : (0 : Int) ≤ (j : Int) := by omega
  have hjz2 : ((j : Int) < 0) = False := eq_false (by omega)
  have hjz3 : (j : Int) < 9 := by omega
  clear hj hk
  have hd0 : (0 < (x.f3.length : Int)) = False := eq_false (by omega)
  have hd1 : (0 < x.f3.length) = False := eq_false (by omega)
  have HD0 := Aside0.mk hd
  clear hd
  have hn0 : (x.f1 == 0) = false := by simp [hn]
  have hn1 : (x.f1 != 0) = true := by simp [hn]
  have hkb : (x.f0 == 1) = false := by simp [hk1]
  have hkc : (x.f0 != 1) = true := by simp [hk1]
  have hkd : decide (x.f0 = 1) = false := by simp [hk1]
  have ew1 : wrap64 ((x.f2.f0.length : Int) + (x.f2.f1.length : Int)) = (x.f2.f0.length : Int) + (x.f2.f1.length : Int) := IntWalk.wrap64_in _ (by have := HL2.out; have := HL3.out; omega)
  have ew2 : wrap64 ((x.f2.f0.length : Int) + (x.f2.f1.length : Int) + (x.f2.f2.length : Int)) = (x.f2.f0.length : Int) + (x.f2.f1.length : Int) + (x.f2.f2.length : Int) := IntWalk.wrap64_in _ (by have := HL2.out; have := HL3.out; have := HL4.out; omega)
  have hs : (0 < (x.f2.f0.length : Int) + (x.f2.f1.length : Int) + (x.f2.f2.length : Int)) = False := eq_false (by omega)
  have HM := Aside0.mk hm
  clear hm
  obtain ⟨N, hN⟩ : ∃ H, sc_b (Lib.itoa x.f1) = H := ⟨_, rfl⟩
  have k2 : N.size ≤ 21 := by rw [← hN]; exact sc_itoa_len _ HOK.out
  have k0 := (sc_row_kinds j r HJ.out).2.1
  obtain ⟨u1, hu1⟩ : ∃ p, (⟨#[32]⟩ : ByteArray) ++ N = p := ⟨_, rfl⟩
  obtain ⟨u2, hu2⟩ : ∃ p, r.1 ++ u1 = p := ⟨_, rfl⟩
  have r1 : (⟨#[32]⟩ : ByteArray).size = 1 := rfl
  have y1 : u1.size = 1 + N.size := by rw [← hu1, ByteArray.size_append]; rfl
  have y2 : u2.size = r.1.size + u1.size := by rw [← hu2, ByteArray.size_append]
  have z1 := sc_cat ⟨#[32]⟩ N (by omega)
  have z1b := sc_ncat N 1 (by omega)
  have z2 := sc_cat r.1 u1 (by omega)
  have hcv0 := fun (w : World) h => Kd.C_string (P := Tryd.prog) (src := 43) (dst := 9) (e := 5) (c := c5) Tryd.underlying43 Tryd.underlying5 Tryd.underlying9 (h := h) (w := w) (A := A5) (n := x.f3.length) (xs := x.f3)
  obtain ⟨Y, hY⟩ : ∃ Y, sc_bytes x.f3 = Y := ⟨_, rfl⟩
  have hys : Y.size = x.f3.length := by rw [← hY]; simp [sc_bytes, sc_b_size]
  have HX5 := Aside0.mk (show Y.size ≤ 1000000 by have := HL5.out; omega)
  have HCV := Aside0.mk (fun (w1 : World) (hb : Below W1.heap.size W1 w1) => by have h := hcv0 w1 (Kd.C_below HR5.out hb); rw [sc_strOf, hY] at h; exact h)
  obtain ⟨X, hX⟩ : ∃ X, sc_hexB Y = X := ⟨_, rfl⟩
  have k5 : X.size ≤ 2000001 := by rw [← hX]; exact Nat.le_trans (sc_hexB_size Y) (by have := HX5.out; omega)
  obtain ⟨u3, hu3⟩ : ∃ p, (⟨#[32]⟩ : ByteArray) ++ X = p := ⟨_, rfl⟩
  obtain ⟨u4, hu4⟩ : ∃ p, u2 ++ u3 = p := ⟨_, rfl⟩
  have y3 : u3.size = 1 + X.size := by rw [← hu3, ByteArray.size_append]; rfl
  have z3 := sc_cat ⟨#[32]⟩ X (by omega)
  have z3b := sc_ncat X 1 (by omega)
  have z4 := sc_cat u2 u3 (by omega)
  have HRR := Aside0.mk (show R = (u2, 0) by rw [HRR.out, ← hu2, ← hu1, ← hN])
  clear hu4 hu3 hX z3 z3b z4  k0 k2 k5 y1 y2 y3 r1 hys hcv0 hY
  go_enter Tryd.func18, Tryd.ntmps18
  go_upto_region 1 with (fail)
  (try rw [hW1])
  (try rw [hBB])
  clear hW1 hBB
  have d0 : W1.cell? ⟨B, 0, none⟩ = some (.int .u8 x.f0) := (blk_cell BK.out 0).trans rfl
  have d1 : W1.cell? ⟨B, 1, none⟩ = some (.int .i64 x.f1) := (blk_cell BK.out 1).trans rfl
  have d2 : W1.cell? ⟨B, 2, none⟩ = some (.slice A2 x.f2.f0.length c2) := (blk_cell BK.out 2).trans rfl
  have d3 : W1.cell? ⟨B, 3, none⟩ = some (.slice A3 x.f2.f1.length c3) := (blk_cell BK.out 3).trans rfl
  have d4 : W1.cell? ⟨B, 4, none⟩ = some (.slice A4 x.f2.f2.length c4) := (blk_cell BK.out 4).trans rfl
  have d5 : W1.cell? ⟨B, 5, none⟩ = some (.slice A5 x.f3.length c5) := (blk_cell BK.out 5).trans rfl
  go_wp2_with (first | (go_at_call 19; refine (sc_IndexFunc.calls B4 B x.f0 _ _ RK.out BK.out rfl).mono ?_; rw [hi]; rintro e w1 ⟨rfl, hz⟩; have HB := Aside0.mk (show Below W1.heap.size W1 w1 from by first | exact below_step HB.out hz | exact below_step (below_drew1 HB.out) hz); have BK := Aside0.mk (show w1.heap[B]? = some (.cells #[.int .u8 x.f0, .int .i64 x.f1, .slice A2 x.f2.f0.length c2, .slice A3 x.f2.f1.length c3, .slice A4 x.f2.f2.length c4, .slice A5 x.f3.length c5] 47 (0, 0)) from by first | exact blk_below BK.out hz | exact (hz.block B (tk_lt BK.out)).trans BK.out); have RK := Aside0.mk (show w1.heap[B4]? = some (.cells sc_rowsC 54 (0, 0)) from by first | exact blk_below RK.out hz | exact (hz.block B4 (tk_lt RK.out)).trans RK.out); have d0 : w1.cell? ⟨B, 0, none⟩ = some (.int .u8 x.f0) := (blk_cell BK.out 0).trans rfl; have d1 : w1.cell? ⟨B, 1, none⟩ = some (.int .i64 x.f1) := (blk_cell BK.out 1).trans rfl; have d2 : w1.cell? ⟨B, 2, none⟩ = some (.slice A2 x.f2.f0.length c2) := (blk_cell BK.out 2).trans rfl; have d3 : w1.cell? ⟨B, 3, none⟩ = some (.slice A3 x.f2.f1.length c3) := (blk_cell BK.out 3).trans rfl; have d4 : w1.cell? ⟨B, 4, none⟩ = some (.slice A4 x.f2.f2.length c4) := (blk_cell BK.out 4).trans rfl; have d5 : w1.cell? ⟨B, 5, none⟩ = some (.slice A5 x.f3.length c5) := (blk_cell BK.out 5).trans rfl; have hrc := sc_rowcell _ B4 RK.out j r HJ.out; obtain ⟨q0, q1, q2, q3⟩ := hrc; clear hz) | (go_at_call 23; refine (sc_Itoa _ _ HOK.out (HTT.out.below HB.out)).mono ?_; rintro e w1 ⟨rfl, hz⟩; have HB := Aside0.mk (show Below W1.heap.size W1 w1 from by first | exact below_step HB.out hz | exact below_step (below_drew1 HB.out) hz); have BK := Aside0.mk (show w1.heap[B]? = some (.cells #[.int .u8 x.f0, .int .i64 x.f1, .slice A2 x.f2.f0.length c2, .slice A3 x.f2.f1.length c3, .slice A4 x.f2.f2.length c4, .slice A5 x.f3.length c5] 47 (0, 0)) from by first | exact blk_below BK.out hz | exact (hz.block B (tk_lt BK.out)).trans BK.out); have RK := Aside0.mk (show w1.heap[B4]? = some (.cells sc_rowsC 54 (0, 0)) from by first | exact blk_below RK.out hz | exact (hz.block B4 (tk_lt RK.out)).trans RK.out); have d0 : w1.cell? ⟨B, 0, none⟩ = some (.int .u8 x.f0) := (blk_cell BK.out 0).trans rfl; have d1 : w1.cell? ⟨B, 1, none⟩ = some (.int .i64 x.f1) := (blk_cell BK.out 1).trans rfl; have d2 : w1.cell? ⟨B, 2, none⟩ = some (.slice A2 x.f2.f0.length c2) := (blk_cell BK.out 2).trans rfl; have d3 : w1.cell? ⟨B, 3, none⟩ = some (.slice A3 x.f2.f1.length c3) := (blk_cell BK.out 3).trans rfl; have d4 : w1.cell? ⟨B, 4, none⟩ = some (.slice A4 x.f2.f2.length c4) := (blk_cell BK.out 4).trans rfl; have d5 : w1.cell? ⟨B, 5, none⟩ = some (.slice A5 x.f3.length c5) := (blk_cell BK.out 5).trans rfl; have hrc := sc_rowcell _ B4 RK.out j r HJ.out; obtain ⟨q0, q1, q2, q3⟩ := hrc; have hcv := HCV.out w1 HB.out; clear hz) | (go_at_call 24; refine (script_hex.calls _ _ (by have := HX5.out; omega)).mono ?_; rintro e w1 ⟨rfl, hz⟩; have HB := Aside0.mk (show Below W1.heap.size W1 w1 from by first | exact below_step HB.out hz | exact below_step (below_drew1 HB.out) hz); have BK := Aside0.mk (show w1.heap[B]? = some (.cells #[.int .u8 x.f0, .int .i64 x.f1, .slice A2 x.f2.f0.length c2, .slice A3 x.f2.f1.length c3, .slice A4 x.f2.f2.length c4, .slice A5 x.f3.length c5] 47 (0, 0)) from by first | exact blk_below BK.out hz | exact (hz.block B (tk_lt BK.out)).trans BK.out); have RK := Aside0.mk (show w1.heap[B4]? = some (.cells sc_rowsC 54 (0, 0)) from by first | exact blk_below RK.out hz | exact (hz.block B4 (tk_lt RK.out)).trans RK.out); have d0 : w1.cell? ⟨B, 0, none⟩ = some (.int .u8 x.f0) := (blk_cell BK.out 0).trans rfl; have d1 : w1.cell? ⟨B, 1, none⟩ = some (.int .i64 x.f1) := (blk_cell BK.out 1).trans rfl; have d2 : w1.cell? ⟨B, 2, none⟩ = some (.slice A2 x.f2.f0.length c2) := (blk_cell BK.out 2).trans rfl; have d3 : w1.cell? ⟨B, 3, none⟩ = some (.slice A3 x.f2.f1.length c3) := (blk_cell BK.out 3).trans rfl; have d4 : w1.cell? ⟨B, 4, none⟩ = some (.slice A4 x.f2.f2.length c4) := (blk_cell BK.out 4).trans rfl; have d5 : w1.cell? ⟨B, 5, none⟩ = some (.slice A5 x.f3.length c5) := (blk_cell BK.out 5).trans rfl; have hrc := sc_rowcell _ B4 RK.out j r HJ.out; obtain ⟨q0, q1, q2, q3⟩ := hrc; clear hz))
  go_ret2
  rw [HRR.out]
  exact ⟨rfl, below_step HBW.out HB.out⟩
set_option maxHeartbeats 6400000 in
set_option maxRecDepth 100000 in
theorem line_good400 (B4 : Nat) (x : S47) (W w0 : World) (A2 : Option Addr) (c2 : Nat) (A3 : Option Addr) (c3 : Nat) (A4 : Option Addr) (c4 : Nat) (A5 : Option Addr) (c5 : Nat) (hT : ScTab w0) (hRK : w0.heap[B4]? = some (.cells sc_rowsC 54 (0, 0))) (hx : sc_smallE x) (hW : Below w0.heap.size w0 W) (ha : x.f2.f0.length ≤ c2 ∧ k49.C W A2 x.f2.f0.length x.f2.f0 ∧ x.f2.f1.length ≤ c3 ∧ (Kd.int .u8).C W A3 x.f2.f1.length x.f2.f1 ∧ x.f2.f2.length ≤ c4 ∧ k49.C W A4 x.f2.f2.length x.f2.f2 ∧ x.f3.length ≤ c5 ∧ (Kd.int .u8).C W A5 x.f3.length x.f3) (j : Nat) (r : ByteArray × Int × Bool × Bool) (hi : sc_idx x.f0 sc_rows 0 = (j : Int)) (hj : sc_rows[j]? = some r) (hk : x.f0 = r.2.1) (hm : x.f2.f0.length = 0 ∧ x.f2.f1.length = 0 ∧ x.f2.f2.length = 0) (hk1 : x.f0 ≠ 1) (hn : x.f1 = 0) (hrn : r.2.2.1 = true) (hd : x.f3.length = 0) (hrd : r.2.2.2 = true) (R : ByteArray × Int) (hR : R = (r.1 ++ ((⟨#[32]⟩ : ByteArray) ++ sc_b (Lib.itoa x.f1)) ++ ((⟨#[32]⟩ : ByteArray) ++ sc_hexB (sc_bytes x.f3)), 0)) :
    Calls Tryd.prog 18 #[.agg #[.int .u8 x.f0, .int .i64 x.f1, .slice A2 x.f2.f0.length c2, .slice A3 x.f2.f1.length c3, .slice A4 x.f2.f2.length c4, .slice A5 x.f3.length c5], .pointer (some ⟨B4, 0, none⟩)] W fun e w' => e = .returned (.tuple #[.string R.1, .int .i64 R.2]) ∧ Below W.heap.size W w' := by
  obtain ⟨a1, a2, a3, a4, a5, a6, a7, a8⟩ := ha
  obtain ⟨s0, s1, s2, s3, s4, s5, s6⟩ := hx
  have HOK := Aside0.mk s0
  have HSF0 := Aside0.mk s1
  have HL2 := Aside0.mk s2
  have HL3 := Aside0.mk s3
  have HSF2 := Aside0.mk s4
  have HL4 := Aside0.mk s5
  have HL5 := Aside0.mk s6
  have HC2 := Aside0.mk a1
  have HC3 := Aside0.mk a3
  have HC4 := Aside0.mk a5
  have HC5 := Aside0.mk a7
  have HRR := Aside0.mk hR
  obtain ⟨W1, hW1⟩ : ∃ V, W.alloc (.cells #[.int .u8 x.f0, .int .i64 x.f1, .slice A2 x.f2.f0.length c2, .slice A3 x.f2.f1.length c3, .slice A4 x.f2.f2.length c4, .slice A5 x.f3.length c5] 47) = V := ⟨_, rfl⟩
  obtain ⟨B, hBB⟩ : ∃ b, W.heap.size = b := ⟨_, rfl⟩
  have hbw : Below W.heap.size W W1 := by rw [← hW1]; exact below_alloc (Below.refl _ _) _
  have BK := Aside0.mk (show W1.heap[B]? = some (.cells #[.int .u8 x.f0, .int .i64 x.f1, .slice A2 x.f2.f0.length c2, .slice A3 x.f2.f1.length c3, .slice A4 x.f2.f2.length c4, .slice A5 x.f3.length c5] 47 (0, 0)) by rw [← hW1, ← hBB]; exact heap_alloc_new _ _)
  have HBW := Aside0.mk hbw
  have HR2 := Aside0.mk (Kd.C_below a2 hbw)
  have HR3 := Aside0.mk (Kd.C_below a4 hbw)
  have HR4 := Aside0.mk (Kd.C_below a6 hbw)
  have HR5 := Aside0.mk (Kd.C_below a8 hbw)
  have HB := Aside0.mk (Below.refl W1.heap.size W1)
  have HTT := Aside0.mk ((hT.below hW).below hbw)
  have RK := Aside0.mk (show W1.heap[B4]? = some (.cells sc_rowsC 54 (0, 0)) from (hbw.block B4 (Nat.lt_of_lt_of_le (tk_lt hRK) hW.size)).trans ((hW.block B4 (tk_lt hRK)).trans hRK))
  have RK0 := RK
  clear hW hbw hT hRK a1 a2 a3 a4 a5 a6 a7 a8 s0 s1 s2 s3 s4 s5 s6 hR
  have HJ := Aside0.mk hj
  have HKK := Aside0.mk hk
  have hjl := (sc_row_kinds j r hj).1
  have hjz : (0 : Int) ≤ (j : Int) := by omega
  have hjz2 : ((j : Int) < 0) = False := eq_false (by omega)
  have hjz3 : (j : Int) < 9 := by omega
  clear hj hk
  have hd0 : (0 < (x.f3.length : Int)) = False := eq_false (by omega)
  have hd1 : (0 < x.f3.length) = False := eq_false (by omega)
  have HD0 := Aside0.mk hd
  clear hd
  have hn0 : (x.f1 == 0) = true := by simp [hn]
  have hn1 : (x.f1 != 0) = false := by simp [hn]
  have HN1 := Aside0.mk hn
  clear hn
  have hkb : (x.f0 == 1) = false := by simp [hk1]
  have hkc : (x.f0 != 1) = true := by simp [hk1]
  have hkd : decide (x.f0 = 1) = false := by simp [hk1]
  have ew1 : wrap64 ((x.f2.f0.length : Int) + (x.f2.f1.length : Int)) = (x.f2.f0.length : Int) + (x.f2.f1.length : Int) := IntWalk.wrap64_in _ (by have := HL2.out; have := HL3.out; omega)
  have ew2 : wrap64 ((x.f2.f0.length : Int) + (x.f2.f1.length : Int) + (x.f2.f2.length : Int)) = (x.f2.f0.length : Int) + (x.f2.f1.length : Int) + (x.f2.f2.length : Int) := IntWalk.wrap64_in _ (by have := HL2.out; have := HL3.out; have := HL4.out; omega)
  have hs : (0 < (x.f2.f0.length : Int) + (x.f2.f1.length : Int) + (x.f2.f2.length : Int)) = False := eq_false (by omega)
  have HM := Aside0.mk hm
  clear hm
  obtain ⟨N, hN⟩ : ∃ H, sc_b (Lib.itoa x.f1) = H := ⟨_, rfl⟩
  have k2 : N.size ≤ 21 := by rw [← hN]; exact sc_itoa_len _ HOK.out
  have k0 := (sc_row_kinds j r HJ.out).2.1
  obtain ⟨u1, hu1⟩ : ∃ p, (⟨#[32]⟩ : ByteArray) ++ N = p := ⟨_, rfl⟩
  obtain ⟨u2, hu2⟩ : ∃ p, r.1 ++ u1 = p := ⟨_, rfl⟩
  have r1 : (⟨#[32]⟩ : ByteArray).size = 1 := rfl
  have y1 : u1.size = 1 + N.size := by rw [← hu1, ByteArray.size_append]; rfl
  have y2 : u2.size = r.1.size + u1.size := by rw [← hu2, ByteArray.size_append]
  have z1 := sc_cat ⟨#[32]⟩ N (by omega)
  have z1b := sc_ncat N 1 (by omega)
  have z2 := sc_cat r.1 u1 (by omega)
  have hcv0 := fun (w : World) h => Kd.C_string (P := Tryd.prog) (src := 43) (dst := 9) (e := 5) (c := c5) Tryd.underlying43 Tryd.underlying5 Tryd.underlying9 (h := h) (w := w) (A := A5) (n := x.f3.length) (xs := x.f3)
  obtain ⟨Y, hY⟩ : ∃ Y, sc_bytes x.f3 = Y := ⟨_, rfl⟩
  have hys : Y.size = x.f3.length := by rw [← hY]; simp [sc_bytes, sc_b_size]
  have HX5 := Aside0.mk (show Y.size ≤ 1000000 by have := HL5.out; omega)
  have HCV := Aside0.mk (fun (w1 : World) (hb : Below W1.heap.size W1 w1) => by have h := hcv0 w1 (Kd.C_below HR5.out hb); rw [sc_strOf, hY] at h; exact h)
  obtain ⟨X, hX⟩ : ∃ X, sc_hexB Y = X := ⟨_, rfl⟩
  have k5 : X.size ≤ 2000001 := by rw [← hX]; exact Nat.le_trans (sc_hexB_size Y) (by have := HX5.out; omega)
  obtain ⟨u3, hu3⟩ : ∃ p, (⟨#[32]⟩ : ByteArray) ++ X = p := ⟨_, rfl⟩
  obtain ⟨u4, hu4⟩ : ∃ p, u2 ++ u3 = p := ⟨_, rfl⟩
  have y3 : u3.size = 1 + X.size := by rw [← hu3, ByteArray.size_append]; rfl
  have z3 := sc_cat ⟨#[32]⟩ X (by omega)
  have z3b := sc_ncat X 1 (by omega)
  have z4 := sc_cat u2 u3 (by omega)
  have HRR := Aside0.mk (show R = (u4, 0) by rw [HRR.out, ← hu4, ← hu3, ← hu2, ← hu1, ← hN, ← hX, ← hY])
  clear k0 k2 k5 y1 y2 y3 r1 hys hcv0 hY
  go_enter Tryd.func18, Tryd.ntmps18
  go_upto_region 1 with (fail)
  (try rw [hW1])
  (try rw [hBB])
  clear hW1 hBB
  have d0 : W1.cell? ⟨B, 0, none⟩ = some (.int .u8 x.f0) := (blk_cell BK.out 0).trans rfl
  have d1 : W1.cell? ⟨B, 1, none⟩ = some (.int .i64 x.f1) := (blk_cell BK.out 1).trans rfl
  have d2 : W1.cell? ⟨B, 2, none⟩ = some (.slice A2 x.f2.f0.length c2) := (blk_cell BK.out 2).trans rfl
  have d3 : W1.cell? ⟨B, 3, none⟩ = some (.slice A3 x.f2.f1.length c3) := (blk_cell BK.out 3).trans rfl
  have d4 : W1.cell? ⟨B, 4, none⟩ = some (.slice A4 x.f2.f2.length c4) := (blk_cell BK.out 4).trans rfl
  have d5 : W1.cell? ⟨B, 5, none⟩ = some (.slice A5 x.f3.length c5) := (blk_cell BK.out 5).trans rfl
  go_wp2_with (first | (go_at_call 19; refine (sc_IndexFunc.calls B4 B x.f0 _ _ RK.out BK.out rfl).mono ?_; rw [hi]; rintro e w1 ⟨rfl, hz⟩; have HB := Aside0.mk (show Below W1.heap.size W1 w1 from by first | exact below_step HB.out hz | exact below_step (below_drew1 HB.out) hz); have BK := Aside0.mk (show w1.heap[B]? = some (.cells #[.int .u8 x.f0, .int .i64 x.f1, .slice A2 x.f2.f0.length c2, .slice A3 x.f2.f1.length c3, .slice A4 x.f2.f2.length c4, .slice A5 x.f3.length c5] 47 (0, 0)) from by first | exact blk_below BK.out hz | exact (hz.block B (tk_lt BK.out)).trans BK.out); have RK := Aside0.mk (show w1.heap[B4]? = some (.cells sc_rowsC 54 (0, 0)) from by first | exact blk_below RK.out hz | exact (hz.block B4 (tk_lt RK.out)).trans RK.out); have d0 : w1.cell? ⟨B, 0, none⟩ = some (.int .u8 x.f0) := (blk_cell BK.out 0).trans rfl; have d1 : w1.cell? ⟨B, 1, none⟩ = some (.int .i64 x.f1) := (blk_cell BK.out 1).trans rfl; have d2 : w1.cell? ⟨B, 2, none⟩ = some (.slice A2 x.f2.f0.length c2) := (blk_cell BK.out 2).trans rfl; have d3 : w1.cell? ⟨B, 3, none⟩ = some (.slice A3 x.f2.f1.length c3) := (blk_cell BK.out 3).trans rfl; have d4 : w1.cell? ⟨B, 4, none⟩ = some (.slice A4 x.f2.f2.length c4) := (blk_cell BK.out 4).trans rfl; have d5 : w1.cell? ⟨B, 5, none⟩ = some (.slice A5 x.f3.length c5) := (blk_cell BK.out 5).trans rfl; have hrc := sc_rowcell _ B4 RK.out j r HJ.out; obtain ⟨q0, q1, q2, q3⟩ := hrc; clear hz) | (go_at_call 23; refine (sc_Itoa _ _ HOK.out (HTT.out.below HB.out)).mono ?_; rintro e w1 ⟨rfl, hz⟩; have HB := Aside0.mk (show Below W1.heap.size W1 w1 from by first | exact below_step HB.out hz | exact below_step (below_drew1 HB.out) hz); have BK := Aside0.mk (show w1.heap[B]? = some (.cells #[.int .u8 x.f0, .int .i64 x.f1, .slice A2 x.f2.f0.length c2, .slice A3 x.f2.f1.length c3, .slice A4 x.f2.f2.length c4, .slice A5 x.f3.length c5] 47 (0, 0)) from by first | exact blk_below BK.out hz | exact (hz.block B (tk_lt BK.out)).trans BK.out); have RK := Aside0.mk (show w1.heap[B4]? = some (.cells sc_rowsC 54 (0, 0)) from by first | exact blk_below RK.out hz | exact (hz.block B4 (tk_lt RK.out)).trans RK.out); have d0 : w1.cell? ⟨B, 0, none⟩ = some (.int .u8 x.f0) := (blk_cell BK.out 0).trans rfl; have d1 : w1.cell? ⟨B, 1, none⟩ = some (.int .i64 x.f1) := (blk_cell BK.out 1).trans rfl; have d2 : w1.cell? ⟨B, 2, none⟩ = some (.slice A2 x.f2.f0.length c2) := (blk_cell BK.out 2).trans rfl; have d3 : w1.cell? ⟨B, 3, none⟩ = some (.slice A3 x.f2.f1.length c3) := (blk_cell BK.out 3).trans rfl; have d4 : w1.cell? ⟨B, 4, none⟩ = some (.slice A4 x.f2.f2.length c4) := (blk_cell BK.out 4).trans rfl; have d5 : w1.cell? ⟨B, 5, none⟩ = some (.slice A5 x.f3.length c5) := (blk_cell BK.out 5).trans rfl; have hrc := sc_rowcell _ B4 RK.out j r HJ.out; obtain ⟨q0, q1, q2, q3⟩ := hrc; have hcv := HCV.out w1 HB.out; clear hz) | (go_at_call 24; refine (script_hex.calls _ _ (by have := HX5.out; omega)).mono ?_; rintro e w1 ⟨rfl, hz⟩; have HB := Aside0.mk (show Below W1.heap.size W1 w1 from by first | exact below_step HB.out hz | exact below_step (below_drew1 HB.out) hz); have BK := Aside0.mk (show w1.heap[B]? = some (.cells #[.int .u8 x.f0, .int .i64 x.f1, .slice A2 x.f2.f0.length c2, .slice A3 x.f2.f1.length c3, .slice A4 x.f2.f2.length c4, .slice A5 x.f3.length c5] 47 (0, 0)) from by first | exact blk_below BK.out hz | exact (hz.block B (tk_lt BK.out)).trans BK.out); have RK := Aside0.mk (show w1.heap[B4]? = some (.cells sc_rowsC 54 (0, 0)) from by first | exact blk_below RK.out hz | exact (hz.block B4 (tk_lt RK.out)).trans RK.out); have d0 : w1.cell? ⟨B, 0, none⟩ = some (.int .u8 x.f0) := (blk_cell BK.out 0).trans rfl; have d1 : w1.cell? ⟨B, 1, none⟩ = some (.int .i64 x.f1) := (blk_cell BK.out 1).trans rfl; have d2 : w1.cell? ⟨B, 2, none⟩ = some (.slice A2 x.f2.f0.length c2) := (blk_cell BK.out 2).trans rfl; have d3 : w1.cell? ⟨B, 3, none⟩ = some (.slice A3 x.f2.f1.length c3) := (blk_cell BK.out 3).trans rfl; have d4 : w1.cell? ⟨B, 4, none⟩ = some (.slice A4 x.f2.f2.length c4) := (blk_cell BK.out 4).trans rfl; have d5 : w1.cell? ⟨B, 5, none⟩ = some (.slice A5 x.f3.length c5) := (blk_cell BK.out 5).trans rfl; have hrc := sc_rowcell _ B4 RK.out j r HJ.out; obtain ⟨q0, q1, q2, q3⟩ := hrc; clear hz))
  go_ret2
  rw [HRR.out]
  exact ⟨rfl, below_step HBW.out HB.out⟩
set_option maxHeartbeats 6400000 in
set_option maxRecDepth 100000 in
theorem line_good40D (B4 : Nat) (x : S47) (W w0 : World) (A2 : Option Addr) (c2 : Nat) (A3 : Option Addr) (c3 : Nat) (A4 : Option Addr) (c4 : Nat) (A5 : Option Addr) (c5 : Nat) (hT : ScTab w0) (hRK : w0.heap[B4]? = some (.cells sc_rowsC 54 (0, 0))) (hx : sc_smallE x) (hW : Below w0.heap.size w0 W) (ha : x.f2.f0.length ≤ c2 ∧ k49.C W A2 x.f2.f0.length x.f2.f0 ∧ x.f2.f1.length ≤ c3 ∧ (Kd.int .u8).C W A3 x.f2.f1.length x.f2.f1 ∧ x.f2.f2.length ≤ c4 ∧ k49.C W A4 x.f2.f2.length x.f2.f2 ∧ x.f3.length ≤ c5 ∧ (Kd.int .u8).C W A5 x.f3.length x.f3) (j : Nat) (r : ByteArray × Int × Bool × Bool) (hi : sc_idx x.f0 sc_rows 0 = (j : Int)) (hj : sc_rows[j]? = some r) (hk : x.f0 = r.2.1) (hm : x.f2.f0.length = 0 ∧ x.f2.f1.length = 0 ∧ x.f2.f2.length = 0) (hk1 : x.f0 ≠ 1) (hn : x.f1 = 0) (hrn : r.2.2.1 = true) (hd : 0 < x.f3.length) (hrd : r.2.2.2 = true) (R : ByteArray × Int) (hR : R = (r.1 ++ ((⟨#[32]⟩ : ByteArray) ++ sc_b (Lib.itoa x.f1)) ++ ((⟨#[32]⟩ : ByteArray) ++ sc_hexB (sc_bytes x.f3)), 0)) :
    Calls Tryd.prog 18 #[.agg #[.int .u8 x.f0, .int .i64 x.f1, .slice A2 x.f2.f0.length c2, .slice A3 x.f2.f1.length c3, .slice A4 x.f2.f2.length c4, .slice A5 x.f3.length c5], .pointer (some ⟨B4, 0, none⟩)] W fun e w' => e = .returned (.tuple #[.string R.1, .int .i64 R.2]) ∧ Below W.heap.size W w' := by
  obtain ⟨a1, a2, a3, a4, a5, a6, a7, a8⟩ := ha
  obtain ⟨s0, s1, s2, s3, s4, s5, s6⟩ := hx
  have HOK := Aside0.mk s0
  have HSF0 := Aside0.mk s1
  have HL2 := Aside0.mk s2
  have HL3 := Aside0.mk s3
  have HSF2 := Aside0.mk s4
  have HL4 := Aside0.mk s5
  have HL5 := Aside0.mk s6
  have HC2 := Aside0.mk a1
  have HC3 := Aside0.mk a3
  have HC4 := Aside0.mk a5
  have HC5 := Aside0.mk a7
  have HRR := Aside0.mk hR
  obtain ⟨W1, hW1⟩ : ∃ V, W.alloc (.cells #[.int .u8 x.f0, .int .i64 x.f1, .slice A2 x.f2.f0.length c2, .slice A3 x.f2.f1.length c3, .slice A4 x.f2.f2.length c4, .slice A5 x.f3.length c5] 47) = V := ⟨_, rfl⟩
  obtain ⟨B, hBB⟩ : ∃ b, W.heap.size = b := ⟨_, rfl⟩
  have hbw : Below W.heap.size W W1 := by rw [← hW1]; exact below_alloc (Below.refl _ _) _
  have BK := Aside0.mk (show W1.heap[B]? = some (.cells #[.int .u8 x.f0, .int .i64 x.f1, .slice A2 x.f2.f0.length c2, .slice A3 x.f2.f1.length c3, .slice A4 x.f2.f2.length c4, .slice A5 x.f3.length c5] 47 (0, 0)) by rw [← hW1, ← hBB]; exact heap_alloc_new _ _)
  have HBW := Aside0.mk hbw
  have HR2 := Aside0.mk (Kd.C_below a2 hbw)
  have HR3 := Aside0.mk (Kd.C_below a4 hbw)
  have HR4 := Aside0.mk (Kd.C_below a6 hbw)
  have HR5 := Aside0.mk (Kd.C_below a8 hbw)
  have HB := Aside0.mk (Below.refl W1.heap.size W1)
  have HTT := Aside0.mk ((hT.below hW).below hbw)
  have RK := Aside0.mk (show W1.heap[B4]? = some (.cells sc_rowsC 54 (0, 0)) from (hbw.block B4 (Nat.lt_of_lt_of_le (tk_lt hRK) hW.size)).trans ((hW.block B4 (tk_lt hRK)).trans hRK))
  have RK0 := RK
  clear hW hbw hT hRK a1 a2 a3 a4 a5 a6 a7 a8 s0 s1 s2 s3 s4 s5 s6 hR
  have HJ := Aside0.mk hj
  have HKK := Aside0.mk hk
  have hjl := (sc_row_kinds j r hj).1
  have hjz : (0 : Int) ≤ (j : Int) := by omega
  have hjz2 : ((j : Int) < 0) = False := eq_false (by omega)
  have hjz3 : (j : Int) < 9 := by omega
  clear hj hk
  have hd0 : 0 < (x.f3.length : Int) := by omega
  have hn0 : (x.f1 == 0) = true := by simp [hn]
  have hn1 : (x.f1 != 0) = false := by simp [hn]
  have HN1 := Aside0.mk hn
  clear hn
  have hkb : (x.f0 == 1) = false := by simp [hk1]
  have hkc : (x.f0 != 1) = true := by simp [hk1]
  have hkd : decide (x.f0 = 1) = false := by simp [hk1]
  have ew1 : wrap64 ((x.f2.f0.length : Int) + (x.f2.f1.length : Int)) = (x.f2.f0.length : Int) + (x.f2.f1.length : Int) := IntWalk.wrap64_in _ (by have := HL2.out; have := HL3.out; omega)
  have ew2 : wrap64 ((x.f2.f0.length : Int) + (x.f2.f1.length : Int) + (x.f2.f2.length : Int)) = (x.f2.f0.length : Int) + (x.f2.f1.length : Int) + (x.f2.f2.length : Int) := IntWalk.wrap64_in _ (by have := HL2.out; have := HL3.out; have := HL4.out; omega)
  have hs : (0 < (x.f2.f0.length : Int) + (x.f2.f1.length : Int) + (x.f2.f2.length : Int)) = False := eq_false (by omega)
  have HM := Aside0.mk hm
  clear hm
  obtain ⟨N, hN⟩ : ∃ H, sc_b (Lib.itoa x.f1) = H := ⟨_, rfl⟩
  have k2 : N.size ≤ 21 := by rw [← hN]; exact sc_itoa_len _ HOK.out
  have k0 := (sc_row_kinds j r HJ.out).2.1
  obtain ⟨u1, hu1⟩ : ∃ p, (⟨#[32]⟩ : ByteArray) ++ N = p := ⟨_, rfl⟩
  obtain ⟨u2, hu2⟩ : ∃ p, r.1 ++ u1 = p := ⟨_, rfl⟩
  have r1 : (⟨#[32]⟩ : ByteArray).size = 1 := rfl
  have y1 : u1.size = 1 + N.size := by rw [← hu1, ByteArray.size_append]; rfl
  have y2 : u2.size = r.1.size + u1.size := by rw [← hu2, ByteArray.size_append]
  have z1 := sc_cat ⟨#[32]⟩ N (by omega)
  have z1b := sc_ncat N 1 (by omega)
  have z2 := sc_cat r.1 u1 (by omega)
  have hcv0 := fun (w : World) h => Kd.C_string (P := Tryd.prog) (src := 43) (dst := 9) (e := 5) (c := c5) Tryd.underlying43 Tryd.underlying5 Tryd.underlying9 (h := h) (w := w) (A := A5) (n := x.f3.length) (xs := x.f3)
  obtain ⟨Y, hY⟩ : ∃ Y, sc_bytes x.f3 = Y := ⟨_, rfl⟩
  have hys : Y.size = x.f3.length := by rw [← hY]; simp [sc_bytes, sc_b_size]
  have HX5 := Aside0.mk (show Y.size ≤ 1000000 by have := HL5.out; omega)
  have HCV := Aside0.mk (fun (w1 : World) (hb : Below W1.heap.size W1 w1) => by have h := hcv0 w1 (Kd.C_below HR5.out hb); rw [sc_strOf, hY] at h; exact h)
  obtain ⟨X, hX⟩ : ∃ X, sc_hexB Y = X := ⟨_, rfl⟩
  have k5 : X.size ≤ 2000001 := by rw [← hX]; exact Nat.le_trans (sc_hexB_size Y) (by have := HX5.out; omega)
  obtain ⟨u3, hu3⟩ : ∃ p, (⟨#[32]⟩ : ByteArray) ++ X = p := ⟨_, rfl⟩
  obtain ⟨u4, hu4⟩ : ∃ p, u2 ++ u3 = p := ⟨_, rfl⟩
  have y3 : u3.size = 1 + X.size := by rw [← hu3, ByteArray.size_append]; rfl
  have z3 := sc_cat ⟨#[32]⟩ X (by omega)
  have z3b := sc_ncat X 1 (by omega)
  have z4 := sc_cat u2 u3 (by omega)
  have HRR := Aside0.mk (show R = (u4, 0) by rw [HRR.out, ← hu4, ← hu3, ← hu2, ← hu1, ← hN, ← hX, ← hY])
  clear k0 k2 k5 y1 y2 y3 r1 hys hcv0 hY
  go_enter Tryd.func18, Tryd.ntmps18
  go_upto_region 1 with (fail)
  (try rw [hW1])
  (try rw [hBB])
  clear hW1 hBB
  have d0 : W1.cell? ⟨B, 0, none⟩ = some (.int .u8 x.f0) := (blk_cell BK.out 0).trans rfl
  have d1 : W1.cell? ⟨B, 1, none⟩ = some (.int .i64 x.f1) := (blk_cell BK.out 1).trans rfl
  have d2 : W1.cell? ⟨B, 2, none⟩ = some (.slice A2 x.f2.f0.length c2) := (blk_cell BK.out 2).trans rfl
  have d3 : W1.cell? ⟨B, 3, none⟩ = some (.slice A3 x.f2.f1.length c3) := (blk_cell BK.out 3).trans rfl
  have d4 : W1.cell? ⟨B, 4, none⟩ = some (.slice A4 x.f2.f2.length c4) := (blk_cell BK.out 4).trans rfl
  have d5 : W1.cell? ⟨B, 5, none⟩ = some (.slice A5 x.f3.length c5) := (blk_cell BK.out 5).trans rfl
  go_wp2_with (first | (go_at_call 19; refine (sc_IndexFunc.calls B4 B x.f0 _ _ RK.out BK.out rfl).mono ?_; rw [hi]; rintro e w1 ⟨rfl, hz⟩; have HB := Aside0.mk (show Below W1.heap.size W1 w1 from by first | exact below_step HB.out hz | exact below_step (below_drew1 HB.out) hz); have BK := Aside0.mk (show w1.heap[B]? = some (.cells #[.int .u8 x.f0, .int .i64 x.f1, .slice A2 x.f2.f0.length c2, .slice A3 x.f2.f1.length c3, .slice A4 x.f2.f2.length c4, .slice A5 x.f3.length c5] 47 (0, 0)) from by first | exact blk_below BK.out hz | exact (hz.block B (tk_lt BK.out)).trans BK.out); have RK := Aside0.mk (show w1.heap[B4]? = some (.cells sc_rowsC 54 (0, 0)) from by first | exact blk_below RK.out hz | exact (hz.block B4 (tk_lt RK.out)).trans RK.out); have d0 : w1.cell? ⟨B, 0, none⟩ = some (.int .u8 x.f0) := (blk_cell BK.out 0).trans rfl; have d1 : w1.cell? ⟨B, 1, none⟩ = some (.int .i64 x.f1) := (blk_cell BK.out 1).trans rfl; have d2 : w1.cell? ⟨B, 2, none⟩ = some (.slice A2 x.f2.f0.length c2) := (blk_cell BK.out 2).trans rfl; have d3 : w1.cell? ⟨B, 3, none⟩ = some (.slice A3 x.f2.f1.length c3) := (blk_cell BK.out 3).trans rfl; have d4 : w1.cell? ⟨B, 4, none⟩ = some (.slice A4 x.f2.f2.length c4) := (blk_cell BK.out 4).trans rfl; have d5 : w1.cell? ⟨B, 5, none⟩ = some (.slice A5 x.f3.length c5) := (blk_cell BK.out 5).trans rfl; have hrc := sc_rowcell _ B4 RK.out j r HJ.out; obtain ⟨q0, q1, q2, q3⟩ := hrc; clear hz) | (go_at_call 23; refine (sc_Itoa _ _ HOK.out (HTT.out.below HB.out)).mono ?_; rintro e w1 ⟨rfl, hz⟩; have HB := Aside0.mk (show Below W1.heap.size W1 w1 from by first | exact below_step HB.out hz | exact below_step (below_drew1 HB.out) hz); have BK := Aside0.mk (show w1.heap[B]? = some (.cells #[.int .u8 x.f0, .int .i64 x.f1, .slice A2 x.f2.f0.length c2, .slice A3 x.f2.f1.length c3, .slice A4 x.f2.f2.length c4, .slice A5 x.f3.length c5] 47 (0, 0)) from by first | exact blk_below BK.out hz | exact (hz.block B (tk_lt BK.out)).trans BK.out); have RK := Aside0.mk (show w1.heap[B4]? = some (.cells sc_rowsC 54 (0, 0)) from by first | exact blk_below RK.out hz | exact (hz.block B4 (tk_lt RK.out)).trans RK.out); have d0 : w1.cell? ⟨B, 0, none⟩ = some (.int .u8 x.f0) := (blk_cell BK.out 0).trans rfl; have d1 : w1.cell? ⟨B, 1, none⟩ = some (.int .i64 x.f1) := (blk_cell BK.out 1).trans rfl; have d2 : w1.cell? ⟨B, 2, none⟩ = some (.slice A2 x.f2.f0.length c2) := (blk_cell BK.out 2).trans rfl; have d3 : w1.cell? ⟨B, 3, none⟩ = some (.slice A3 x.f2.f1.length c3) := (blk_cell BK.out 3).trans rfl; have d4 : w1.cell? ⟨B, 4, none⟩ = some (.slice A4 x.f2.f2.length c4) := (blk_cell BK.out 4).trans rfl; have d5 : w1.cell? ⟨B, 5, none⟩ = some (.slice A5 x.f3.length c5) := (blk_cell BK.out 5).trans rfl; have hrc := sc_rowcell _ B4 RK.out j r HJ.out; obtain ⟨q0, q1, q2, q3⟩ := hrc; have hcv := HCV.out w1 HB.out; clear hz) | (go_at_call 24; refine (script_hex.calls _ _ (by have := HX5.out; omega)).mono ?_; rintro e w1 ⟨rfl, hz⟩; have HB := Aside0.mk (show Below W1.heap.size W1 w1 from by first | exact below_step HB.out hz | exact below_step (below_drew1 HB.out) hz); have BK := Aside0.mk (show w1.heap[B]? = some (.cells #[.int .u8 x.f0, .int .i64 x.f1, .slice A2 x.f2.f0.length c2, .slice A3 x.f2.f1.length c3, .slice A4 x.f2.f2.length c4, .slice A5 x.f3.length c5] 47 (0, 0)) from by first | exact blk_below BK.out hz | exact (hz.block B (tk_lt BK.out)).trans BK.out); have RK := Aside0.mk (show w1.heap[B4]? = some (.cells sc_rowsC 54 (0, 0)) from by first | exact blk_below RK.out hz | exact (hz.block B4 (tk_lt RK.out)).trans RK.out); have d0 : w1.cell? ⟨B, 0, none⟩ = some (.int .u8 x.f0) := (blk_cell BK.out 0).trans rfl; have d1 : w1.cell? ⟨B, 1, none⟩ = some (.int .i64 x.f1) := (blk_cell BK.out 1).trans rfl; have d2 : w1.cell? ⟨B, 2, none⟩ = some (.slice A2 x.f2.f0.length c2) := (blk_cell BK.out 2).trans rfl; have d3 : w1.cell? ⟨B, 3, none⟩ = some (.slice A3 x.f2.f1.length c3) := (blk_cell BK.out 3).trans rfl; have d4 : w1.cell? ⟨B, 4, none⟩ = some (.slice A4 x.f2.f2.length c4) := (blk_cell BK.out 4).trans rfl; have d5 : w1.cell? ⟨B, 5, none⟩ = some (.slice A5 x.f3.length c5) := (blk_cell BK.out 5).trans rfl; have hrc := sc_rowcell _ B4 RK.out j r HJ.out; obtain ⟨q0, q1, q2, q3⟩ := hrc; clear hz))
  go_ret2
  rw [HRR.out]
  exact ⟨rfl, below_step HBW.out HB.out⟩
set_option maxHeartbeats 6400000 in
set_option maxRecDepth 100000 in
theorem line_good4N0 (B4 : Nat) (x : S47) (W w0 : World) (A2 : Option Addr) (c2 : Nat) (A3 : Option Addr) (c3 : Nat) (A4 : Option Addr) (c4 : Nat) (A5 : Option Addr) (c5 : Nat) (hT : ScTab w0) (hRK : w0.heap[B4]? = some (.cells sc_rowsC 54 (0, 0))) (hx : sc_smallE x) (hW : Below w0.heap.size w0 W) (ha : x.f2.f0.length ≤ c2 ∧ k49.C W A2 x.f2.f0.length x.f2.f0 ∧ x.f2.f1.length ≤ c3 ∧ (Kd.int .u8).C W A3 x.f2.f1.length x.f2.f1 ∧ x.f2.f2.length ≤ c4 ∧ k49.C W A4 x.f2.f2.length x.f2.f2 ∧ x.f3.length ≤ c5 ∧ (Kd.int .u8).C W A5 x.f3.length x.f3) (j : Nat) (r : ByteArray × Int × Bool × Bool) (hi : sc_idx x.f0 sc_rows 0 = (j : Int)) (hj : sc_rows[j]? = some r) (hk : x.f0 = r.2.1) (hm : x.f2.f0.length = 0 ∧ x.f2.f1.length = 0 ∧ x.f2.f2.length = 0) (hk1 : x.f0 ≠ 1) (hn : x.f1 ≠ 0) (hrn : r.2.2.1 = true) (hd : x.f3.length = 0) (hrd : r.2.2.2 = true) (R : ByteArray × Int) (hR : R = (r.1 ++ ((⟨#[32]⟩ : ByteArray) ++ sc_b (Lib.itoa x.f1)) ++ ((⟨#[32]⟩ : ByteArray) ++ sc_hexB (sc_bytes x.f3)), 0)) :
    Calls Tryd.prog 18 #[.agg #[.int .u8 x.f0, .int .i64 x.f1, .slice A2 x.f2.f0.length c2, .slice A3 x.f2.f1.length c3, .slice A4 x.f2.f2.length c4, .slice A5 x.f3.length c5], .pointer (some ⟨B4, 0, none⟩)] W fun e w' => e = .returned (.tuple #[.string R.1, .int .i64 R.2]) ∧ Below W.heap.size W w' := by
  obtain ⟨a1, a2, a3, a4, a5, a6, a7, a8⟩ := ha
  obtain ⟨s0, s1, s2, s3, s4, s5, s6⟩ := hx
  have HOK := Aside0.mk s0
  have HSF0 := Aside0.mk s1
  have HL2 := Aside0.mk s2
  have HL3 := Aside0.mk s3
  have HSF2 := Aside0.mk s4
  have HL4 := Aside0.mk s5
  have HL5 := Aside0.mk s6
  have HC2 := Aside0.mk a1
  have HC3 := Aside0.mk a3
  have HC4 := Aside0.mk a5
  have HC5 := Aside0.mk a7
  have HRR := Aside0.mk hR
  obtain ⟨W1, hW1⟩ : ∃ V, W.alloc (.cells #[.int .u8 x.f0, .int .i64 x.f1, .slice A2 x.f2.f0.length c2, .slice A3 x.f2.f1.length c3, .slice A4 x.f2.f2.length c4, .slice A5 x.f3.length c5] 47) = V := ⟨_, rfl⟩
  obtain ⟨B, hBB⟩ : ∃ b, W.heap.size = b := ⟨_, rfl⟩
  have hbw : Below W.heap.size W W1 := by rw [← hW1]; exact below_alloc (Below.refl _ _) _
  have BK := Aside0.mk (show W1.heap[B]? = some (.cells #[.int .u8 x.f0, .int .i64 x.f1, .slice A2 x.f2.f0.length c2, .slice A3 x.f2.f1.length c3, .slice A4 x.f2.f2.length c4, .slice A5 x.f3.length c5] 47 (0, 0)) by rw [← hW1, ← hBB]; exact heap_alloc_new _ _)
  have HBW := Aside0.mk hbw
  have HR2 := Aside0.mk (Kd.C_below a2 hbw)
  have HR3 := Aside0.mk (Kd.C_below a4 hbw)
  have HR4 := Aside0.mk (Kd.C_below a6 hbw)
  have HR5 := Aside0.mk (Kd.C_below a8 hbw)
  have HB := Aside0.mk (Below.refl W1.heap.size W1)
  have HTT := Aside0.mk ((hT.below hW).below hbw)
  have RK := Aside0.mk (show W1.heap[B4]? = some (.cells sc_rowsC 54 (0, 0)) from (hbw.block B4 (Nat.lt_of_lt_of_le (tk_lt hRK) hW.size)).trans ((hW.block B4 (tk_lt hRK)).trans hRK))
  have RK0 := RK
  clear hW hbw hT hRK a1 a2 a3 a4 a5 a6 a7 a8 s0 s1 s2 s3 s4 s5 s6 hR
  have HJ := Aside0.mk hj
  have HKK := Aside0.mk hk
  have hjl := (sc_row_kinds j r hj).1
  have hjz : (0 : Int) ≤ (j : Int) := by omega
  have hjz2 : ((j : Int) < 0) = False := eq_false (by omega)
  have hjz3 : (j : Int) < 9 := by omega
  clear hj hk
  have hd0 : (0 < (x.f3.length : Int)) = False := eq_false (by omega)
  have hd1 : (0 < x.f3.length) = False := eq_false (by omega)
  have HD0 := Aside0.mk hd
  clear hd
  have hn0 : (x.f1 == 0) = false := by simp [hn]
  have hn1 : (x.f1 != 0) = true := by simp [hn]
  have hkb : (x.f0 == 1) = false := by simp [hk1]
  have hkc : (x.f0 != 1) = true := by simp [hk1]
  have hkd : decide (x.f0 = 1) = false := by simp [hk1]
  have ew1 : wrap64 ((x.f2.f0.length : Int) + (x.f2.f1.length : Int)) = (x.f2.f0.length : Int) + (x.f2.f1.length : Int) := IntWalk.wrap64_in _ (by have := HL2.out; have := HL3.out; omega)
  have ew2 : wrap64 ((x.f2.f0.length : Int) + (x.f2.f1.length : Int) + (x.f2.f2.length : Int)) = (x.f2.f0.length : Int) + (x.f2.f1.length : Int) + (x.f2.f2.length : Int) := IntWalk.wrap64_in _ (by have := HL2.out; have := HL3.out; have := HL4.out; omega)
  have hs : (0 < (x.f2.f0.length : Int) + (x.f2.f1.length : Int) + (x.f2.f2.length : Int)) = False := eq_false (by omega)
  have HM := Aside0.mk hm
  clear hm
  obtain ⟨N, hN⟩ : ∃ H, sc_b (Lib.itoa x.f1) = H := ⟨_, rfl⟩
  have k2 : N.size ≤ 21 := by rw [← hN]; exact sc_itoa_len _ HOK.out
  have k0 := (sc_row_kinds j r HJ.out).2.1
  obtain ⟨u1, hu1⟩ : ∃ p, (⟨#[32]⟩ : ByteArray) ++ N = p := ⟨_, rfl⟩
  obtain ⟨u2, hu2⟩ : ∃ p, r.1 ++ u1 = p := ⟨_, rfl⟩
  have r1 : (⟨#[32]⟩ : ByteArray).size = 1 := rfl
  have y1 : u1.size = 1 + N.size := by rw [← hu1, ByteArray.size_append]; rfl
  have y2 : u2.size = r.1.size + u1.size := by rw [← hu2, ByteArray.size_append]
  have z1 := sc_cat ⟨#[32]⟩ N (by omega)
  have z1b := sc_ncat N 1 (by omega)
  have z2 := sc_cat r.1 u1 (by omega)
  have hcv0 := fun (w : World) h => Kd.C_string (P := Tryd.prog) (src := 43) (dst := 9) (e := 5) (c := c5) Tryd.underlying43 Tryd.underlying5 Tryd.underlying9 (h := h) (w := w) (A := A5) (n := x.f3.length) (xs := x.f3)
  obtain ⟨Y, hY⟩ : ∃ Y, sc_bytes x.f3 = Y := ⟨_, rfl⟩
  have hys : Y.size = x.f3.length := by rw [← hY]; simp [sc_bytes, sc_b_size]
  have HX5 := Aside0.mk (show Y.size ≤ 1000000 by have := HL5.out; omega)
  have HCV := Aside0.mk (fun (w1 : World) (hb : Below W1.heap.size W1 w1) => by have h := hcv0 w1 (Kd.C_below HR5.out hb); rw [sc_strOf, hY] at h; exact h)
  obtain ⟨X, hX⟩ : ∃ X, sc_hexB Y = X := ⟨_, rfl⟩
  have k5 : X.size ≤ 2000001 := by rw [← hX]; exact Nat.le_trans (sc_hexB_size Y) (by have := HX5.out; omega)
  obtain ⟨u3, hu3⟩ : ∃ p, (⟨#[32]⟩ : ByteArray) ++ X = p := ⟨_, rfl⟩
  obtain ⟨u4, hu4⟩ : ∃ p, u2 ++ u3 = p := ⟨_, rfl⟩
  have y3 : u3.size = 1 + X.size := by rw [← hu3, ByteArray.size_append]; rfl
  have z3 := sc_cat ⟨#[32]⟩ X (by omega)
  have z3b := sc_ncat X 1 (by omega)
  have z4 := sc_cat u2 u3 (by omega)
  have HRR := Aside0.mk (show R = (u4, 0) by rw [HRR.out, ← hu4, ← hu3, ← hu2, ← hu1, ← hN, ← hX, ← hY])
  clear k0 k2 k5 y1 y2 y3 r1 hys hcv0 hY
  go_enter Tryd.func18, Tryd.ntmps18
  go_upto_region 1 with (fail)
  (try rw [hW1])
  (try rw [hBB])
  clear hW1 hBB
  have d0 : W1.cell? ⟨B, 0, none⟩ = some (.int .u8 x.f0) := (blk_cell BK.out 0).trans rfl
  have d1 : W1.cell? ⟨B, 1, none⟩ = some (.int .i64 x.f1) := (blk_cell BK.out 1).trans rfl
  have d2 : W1.cell? ⟨B, 2, none⟩ = some (.slice A2 x.f2.f0.length c2) := (blk_cell BK.out 2).trans rfl
  have d3 : W1.cell? ⟨B, 3, none⟩ = some (.slice A3 x.f2.f1.length c3) := (blk_cell BK.out 3).trans rfl
  have d4 : W1.cell? ⟨B, 4, none⟩ = some (.slice A4 x.f2.f2.length c4) := (blk_cell BK.out 4).trans rfl
  have d5 : W1.cell? ⟨B, 5, none⟩ = some (.slice A5 x.f3.length c5) := (blk_cell BK.out 5).trans rfl
  go_wp2_with (first | (go_at_call 19; refine (sc_IndexFunc.calls B4 B x.f0 _ _ RK.out BK.out rfl).mono ?_; rw [hi]; rintro e w1 ⟨rfl, hz⟩; have HB := Aside0.mk (show Below W1.heap.size W1 w1 from by first | exact below_step HB.out hz | exact below_step (below_drew1 HB.out) hz); have BK := Aside0.mk (show w1.heap[B]? = some (.cells #[.int .u8 x.f0, .int .i64 x.f1, .slice A2 x.f2.f0.length c2, .slice A3 x.f2.f1.length c3, .slice A4 x.f2.f2.length c4, .slice A5 x.f3.length c5] 47 (0, 0)) from by first | exact blk_below BK.out hz | exact (hz.block B (tk_lt BK.out)).trans BK.out); have RK := Aside0.mk (show w1.heap[B4]? = some (.cells sc_rowsC 54 (0, 0)) from by first | exact blk_below RK.out hz | exact (hz.block B4 (tk_lt RK.out)).trans RK.out); have d0 : w1.cell? ⟨B, 0, none⟩ = some (.int .u8 x.f0) := (blk_cell BK.out 0).trans rfl; have d1 : w1.cell? ⟨B, 1, none⟩ = some (.int .i64 x.f1) := (blk_cell BK.out 1).trans rfl; have d2 : w1.cell? ⟨B, 2, none⟩ = some (.slice A2 x.f2.f0.length c2) := (blk_cell BK.out 2).trans rfl; have d3 : w1.cell? ⟨B, 3, none⟩ = some (.slice A3 x.f2.f1.length c3) := (blk_cell BK.out 3).trans rfl; have d4 : w1.cell? ⟨B, 4, none⟩ = some (.slice A4 x.f2.f2.length c4) := (blk_cell BK.out 4).trans rfl; have d5 : w1.cell? ⟨B, 5, none⟩ = some (.slice A5 x.f3.length c5) := (blk_cell BK.out 5).trans rfl; have hrc := sc_rowcell _ B4 RK.out j r HJ.out; obtain ⟨q0, q1, q2, q3⟩ := hrc; clear hz) | (go_at_call 23; refine (sc_Itoa _ _ HOK.out (HTT.out.below HB.out)).mono ?_; rintro e w1 ⟨rfl, hz⟩; have HB := Aside0.mk (show Below W1.heap.size W1 w1 from by first | exact below_step HB.out hz | exact below_step (below_drew1 HB.out) hz); have BK := Aside0.mk (show w1.heap[B]? = some (.cells #[.int .u8 x.f0, .int .i64 x.f1, .slice A2 x.f2.f0.length c2, .slice A3 x.f2.f1.length c3, .slice A4 x.f2.f2.length c4, .slice A5 x.f3.length c5] 47 (0, 0)) from by first | exact blk_below BK.out hz | exact (hz.block B (tk_lt BK.out)).trans BK.out); have RK := Aside0.mk (show w1.heap[B4]? = some (.cells sc_rowsC 54 (0, 0)) from by first | exact blk_below RK.out hz | exact (hz.block B4 (tk_lt RK.out)).trans RK.out); have d0 : w1.cell? ⟨B, 0, none⟩ = some (.int .u8 x.f0) := (blk_cell BK.out 0).trans rfl; have d1 : w1.cell? ⟨B, 1, none⟩ = some (.int .i64 x.f1) := (blk_cell BK.out 1).trans rfl; have d2 : w1.cell? ⟨B, 2, none⟩ = some (.slice A2 x.f2.f0.length c2) := (blk_cell BK.out 2).trans rfl; have d3 : w1.cell? ⟨B, 3, none⟩ = some (.slice A3 x.f2.f1.length c3) := (blk_cell BK.out 3).trans rfl; have d4 : w1.cell? ⟨B, 4, none⟩ = some (.slice A4 x.f2.f2.length c4) := (blk_cell BK.out 4).trans rfl; have d5 : w1.cell? ⟨B, 5, none⟩ = some (.slice A5 x.f3.length c5) := (blk_cell BK.out 5).trans rfl; have hrc := sc_rowcell _ B4 RK.out j r HJ.out; obtain ⟨q0, q1, q2, q3⟩ := hrc; have hcv := HCV.out w1 HB.out; clear hz) | (go_at_call 24; refine (script_hex.calls _ _ (by have := HX5.out; omega)).mono ?_; rintro e w1 ⟨rfl, hz⟩; have HB := Aside0.mk (show Below W1.heap.size W1 w1 from by first | exact below_step HB.out hz | exact below_step (below_drew1 HB.out) hz); have BK := Aside0.mk (show w1.heap[B]? = some (.cells #[.int .u8 x.f0, .int .i64 x.f1, .slice A2 x.f2.f0.length c2, .slice A3 x.f2.f1.length c3, .slice A4 x.f2.f2.length c4, .slice A5 x.f3.length c5] 47 (0, 0)) from by first | exact blk_below BK.out hz | exact (hz.block B (tk_lt BK.out)).trans BK.out); have RK := Aside0.mk (show w1.heap[B4]? = some (.cells sc_rowsC 54 (0, 0)) from by first | exact blk_below RK.out hz | exact (hz.block B4 (tk_lt RK.out)).trans RK.out); have d0 : w1.cell? ⟨B, 0, none⟩ = some (.int .u8 x.f0) := (blk_cell BK.out 0).trans rfl; have d1 : w1.cell? ⟨B, 1, none⟩ = some (.int .i64 x.f1) := (blk_cell BK.out 1).trans rfl; have d2 : w1.cell? ⟨B, 2, none⟩ = some (.slice A2 x.f2.f0.length c2) := (blk_cell BK.out 2).trans rfl; have d3 : w1.cell? ⟨B, 3, none⟩ = some (.slice A3 x.f2.f1.length c3) := (blk_cell BK.out 3).trans rfl; have d4 : w1.cell? ⟨B, 4, none⟩ = some (.slice A4 x.f2.f2.length c4) := (blk_cell BK.out 4).trans rfl; have d5 : w1.cell? ⟨B, 5, none⟩ = some (.slice A5 x.f3.length c5) := (blk_cell BK.out 5).trans rfl; have hrc := sc_rowcell _ B4 RK.out j r HJ.out; obtain ⟨q0, q1, q2, q3⟩ := hrc; clear hz))
  go_ret2
  rw [HRR.out]
  exact ⟨rfl, below_step HBW.out HB.out⟩
set_option maxHeartbeats 6400000 in
set_option maxRecDepth 100000 in
theorem line_good4ND (B4 : Nat) (x : S47) (W w0 : World) (A2 : Option Addr) (c2 : Nat) (A3 : Option Addr) (c3 : Nat) (A4 : Option Addr) (c4 : Nat) (A5 : Option Addr) (c5 : Nat) (hT : ScTab w0) (hRK : w0.heap[B4]? = some (.cells sc_rowsC 54 (0, 0))) (hx : sc_smallE x) (hW : Below w0.heap.size w0 W) (ha : x.f2.f0.length ≤ c2 ∧ k49.C W A2 x.f2.f0.length x.f2.f0 ∧ x.f2.f1.length ≤ c3 ∧ (Kd.int .u8).C W A3 x.f2.f1.length x.f2.f1 ∧ x.f2.f2.length ≤ c4 ∧ k49.C W A4 x.f2.f2.length x.f2.f2 ∧ x.f3.length ≤ c5 ∧ (Kd.int .u8).C W A5 x.f3.length x.f3) (j : Nat) (r : ByteArray × Int × Bool × Bool) (hi : sc_idx x.f0 sc_rows 0 = (j : Int)) (hj : sc_rows[j]? = some r) (hk : x.f0 = r.2.1) (hm : x.f2.f0.length = 0 ∧ x.f2.f1.length = 0 ∧ x.f2.f2.length = 0) (hk1 : x.f0 ≠ 1) (hn : x.f1 ≠ 0) (hrn : r.2.2.1 = true) (hd : 0 < x.f3.length) (hrd : r.2.2.2 = true) (R : ByteArray × Int) (hR : R = (r.1 ++ ((⟨#[32]⟩ : ByteArray) ++ sc_b (Lib.itoa x.f1)) ++ ((⟨#[32]⟩ : ByteArray) ++ sc_hexB (sc_bytes x.f3)), 0)) :
    Calls Tryd.prog 18 #[.agg #[.int .u8 x.f0, .int .i64 x.f1, .slice A2 x.f2.f0.length c2, .slice A3 x.f2.f1.length c3, .slice A4 x.f2.f2.length c4, .slice A5 x.f3.length c5], .pointer (some ⟨B4, 0, none⟩)] W fun e w' => e = .returned (.tuple #[.string R.1, .int .i64 R.2]) ∧ Below W.heap.size W w' := by
  obtain ⟨a1, a2, a3, a4, a5, a6, a7, a8⟩ := ha
  obtain ⟨s0, s1, s2, s3, s4, s5, s6⟩ := hx
  have HOK := Aside0.mk s0
  have HSF0 := Aside0.mk s1
  have HL2 := Aside0.mk s2
  have HL3 := Aside0.mk s3
  have HSF2 := Aside0.mk s4
  have HL4 := Aside0.mk s5
  have HL5 := Aside0.mk s6
  have HC2 := Aside0.mk a1
  have HC3 := Aside0.mk a3
  have HC4 := Aside0.mk a5
  have HC5 := Aside0.mk a7
  have HRR := Aside0.mk hR
  obtain ⟨W1, hW1⟩ : ∃ V, W.alloc (.cells #[.int .u8 x.f0, .int .i64 x.f1, .slice A2 x.f2.f0.length c2, .slice A3 x.f2.f1.length c3, .slice A4 x.f2.f2.length c4, .slice A5 x.f3.length c5] 47) = V := ⟨_, rfl⟩
  obtain ⟨B, hBB⟩ : ∃ b, W.heap.size = b := ⟨_, rfl⟩
  have hbw : Below W.heap.size W W1 := by rw [← hW1]; exact below_alloc (Below.refl _ _) _
  have BK := Aside0.mk (show W1.heap[B]? = some (.cells #[.int .u8 x.f0, .int .i64 x.f1, .slice A2 x.f2.f0.length c2, .slice A3 x.f2.f1.length c3, .slice A4 x.f2.f2.length c4, .slice A5 x.f3.length c5] 47 (0, 0)) by rw [← hW1, ← hBB]; exact heap_alloc_new _ _)
  have HBW := Aside0.mk hbw
  have HR2 := Aside0.mk (Kd.C_below a2 hbw)
  have HR3 := Aside0.mk (Kd.C_below a4 hbw)
  have HR4 := Aside0.mk (Kd.C_below a6 hbw)
  have HR5 := Aside0.mk (Kd.C_below a8 hbw)
  have HB := Aside0.mk (Below.refl W1.heap.size W1)
  have HTT := Aside0.mk ((hT.below hW).below hbw)
  have RK := Aside0.mk (show W1.heap[B4]? = some (.cells sc_rowsC 54 (0, 0)) from (hbw.block B4 (Nat.lt_of_lt_of_le (tk_lt hRK) hW.size)).trans ((hW.block B4 (tk_lt hRK)).trans hRK))
  have RK0 := RK
  clear hW hbw hT hRK a1 a2 a3 a4 a5 a6 a7 a8 s0 s1 s2 s3 s4 s5 s6 hR
  have HJ := Aside0.mk hj
  have HKK := Aside0.mk hk
  have hjl := (sc_row_kinds j r hj).1
  have hjz : (0 : Int) ≤ (j : Int) := by omega
  have hjz2 : ((j : Int) < 0) = False := eq_false (by omega)
  have hjz3 : (j : Int) < 9 := by omega
  clear hj hk
  have hd0 : 0 < (x.f3.length : Int) := by omega
  have hn0 : (x.f1 == 0) = false := by simp [hn]
  have hn1 : (x.f1 != 0) = true := by simp [hn]
  have hkb : (x.f0 == 1) = false := by simp [hk1]
  have hkc : (x.f0 != 1) = true := by simp [hk1]
  have hkd : decide (x.f0 = 1) = false := by simp [hk1]
  have ew1 : wrap64 ((x.f2.f0.length : Int) + (x.f2.f1.length : Int)) = (x.f2.f0.length : Int) + (x.f2.f1.length : Int) := IntWalk.wrap64_in _ (by have := HL2.out; have := HL3.out; omega)
  have ew2 : wrap64 ((x.f2.f0.length : Int) + (x.f2.f1.length : Int) + (x.f2.f2.length : Int)) = (x.f2.f0.length : Int) + (x.f2.f1.length : Int) + (x.f2.f2.length : Int) := IntWalk.wrap64_in _ (by have := HL2.out; have := HL3.out; have := HL4.out; omega)
  have hs : (0 < (x.f2.f0.length : Int) + (x.f2.f1.length : Int) + (x.f2.f2.length : Int)) = False := eq_false (by omega)
  have HM := Aside0.mk hm
  clear hm
  obtain ⟨N, hN⟩ : ∃ H, sc_b (Lib.itoa x.f1) = H := ⟨_, rfl⟩
  have k2 : N.size ≤ 21 := by rw [← hN]; exact sc_itoa_len _ HOK.out
  have k0 := (sc_row_kinds j r HJ.out).2.1
  obtain ⟨u1, hu1⟩ : ∃ p, (⟨#[32]⟩ : ByteArray) ++ N = p := ⟨_, rfl⟩
  obtain ⟨u2, hu2⟩ : ∃ p, r.1 ++ u1 = p := ⟨_, rfl⟩
  have r1 : (⟨#[32]⟩ : ByteArray).size = 1 := rfl
  have y1 : u1.size = 1 + N.size := by rw [← hu1, ByteArray.size_append]; rfl
  have y2 : u2.size = r.1.size + u1.size := by rw [← hu2, ByteArray.size_append]
  have z1 := sc_cat ⟨#[32]⟩ N (by omega)
  have z1b := sc_ncat N 1 (by omega)
  have z2 := sc_cat r.1 u1 (by omega)
  have hcv0 := fun (w : World) h => Kd.C_string (P := Tryd.prog) (src := 43) (dst := 9) (e := 5) (c := c5) Tryd.underlying43 Tryd.underlying5 Tryd.underlying9 (h := h) (w := w) (A := A5) (n := x.f3.length) (xs := x.f3)
  obtain ⟨Y, hY⟩ : ∃ Y, sc_bytes x.f3 = Y := ⟨_, rfl⟩
  have hys : Y.size = x.f3.length := by rw [← hY]; simp [sc_bytes, sc_b_size]
  have HX5 := Aside0.mk (show Y.size ≤ 1000000 by have := HL5.out; omega)
  have HCV := Aside0.mk (fun (w1 : World) (hb : Below W1.heap.size W1 w1) => by have h := hcv0 w1 (Kd.C_below HR5.out hb); rw [sc_strOf, hY] at h; exact h)
  obtain ⟨X, hX⟩ : ∃ X, sc_hexB Y = X := ⟨_, rfl⟩
  have k5 : X.size ≤ 2000001 := by rw [← hX]; exact Nat.le_trans (sc_hexB_size Y) (by have := HX5.out; omega)
  obtain ⟨u3, hu3⟩ : ∃ p, (⟨#[32]⟩ : ByteArray) ++ X = p := ⟨_, rfl⟩
  obtain ⟨u4, hu4⟩ : ∃ p, u2 ++ u3 = p := ⟨_, rfl⟩
  have y3 : u3.size = 1 + X.size := by rw [← hu3, ByteArray.size_append]; rfl
  have z3 := sc_cat ⟨#[32]⟩ X (by omega)
  have z3b := sc_ncat X 1 (by omega)
  have z4 := sc_cat u2 u3 (by omega)
  have HRR := Aside0.mk (show R = (u4, 0) by rw [HRR.out, ← hu4, ← hu3, ← hu2, ← hu1, ← hN, ← hX, ← hY])
  clear k0 k2 k5 y1 y2 y3 r1 hys hcv0 hY
  go_enter Tryd.func18, Tryd.ntmps18
  go_upto_region 1 with (fail)
  (try rw [hW1])
  (try rw [hBB])
  clear hW1 hBB
  have d0 : W1.cell? ⟨B, 0, none⟩ = some (.int .u8 x.f0) := (blk_cell BK.out 0).trans rfl
  have d1 : W1.cell? ⟨B, 1, none⟩ = some (.int .i64 x.f1) := (blk_cell BK.out 1).trans rfl
  have d2 : W1.cell? ⟨B, 2, none⟩ = some (.slice A2 x.f2.f0.length c2) := (blk_cell BK.out 2).trans rfl
  have d3 : W1.cell? ⟨B, 3, none⟩ = some (.slice A3 x.f2.f1.length c3) := (blk_cell BK.out 3).trans rfl
  have d4 : W1.cell? ⟨B, 4, none⟩ = some (.slice A4 x.f2.f2.length c4) := (blk_cell BK.out 4).trans rfl
  have d5 : W1.cell? ⟨B, 5, none⟩ = some (.slice A5 x.f3.length c5) := (blk_cell BK.out 5).trans rfl
  go_wp2_with (first | (go_at_call 19; refine (sc_IndexFunc.calls B4 B x.f0 _ _ RK.out BK.out rfl).mono ?_; rw [hi]; rintro e w1 ⟨rfl, hz⟩; have HB := Aside0.mk (show Below W1.heap.size W1 w1 from by first | exact below_step HB.out hz | exact below_step (below_drew1 HB.out) hz); have BK := Aside0.mk (show w1.heap[B]? = some (.cells #[.int .u8 x.f0, .int .i64 x.f1, .slice A2 x.f2.f0.length c2, .slice A3 x.f2.f1.length c3, .slice A4 x.f2.f2.length c4, .slice A5 x.f3.length c5] 47 (0, 0)) from by first | exact blk_below BK.out hz | exact (hz.block B (tk_lt BK.out)).trans BK.out); have RK := Aside0.mk (show w1.heap[B4]? = some (.cells sc_rowsC 54 (0, 0)) from by first | exact blk_below RK.out hz | exact (hz.block B4 (tk_lt RK.out)).trans RK.out); have d0 : w1.cell? ⟨B, 0, none⟩ = some (.int .u8 x.f0) := (blk_cell BK.out 0).trans rfl; have d1 : w1.cell? ⟨B, 1, none⟩ = some (.int .i64 x.f1) := (blk_cell BK.out 1).trans rfl; have d2 : w1.cell? ⟨B, 2, none⟩ = some (.slice A2 x.f2.f0.length c2) := (blk_cell BK.out 2).trans rfl; have d3 : w1.cell? ⟨B, 3, none⟩ = some (.slice A3 x.f2.f1.length c3) := (blk_cell BK.out 3).trans rfl; have d4 : w1.cell? ⟨B, 4, none⟩ = some (.slice A4 x.f2.f2.length c4) := (blk_cell BK.out 4).trans rfl; have d5 : w1.cell? ⟨B, 5, none⟩ = some (.slice A5 x.f3.length c5) := (blk_cell BK.out 5).trans rfl; have hrc := sc_rowcell _ B4 RK.out j r HJ.out; obtain ⟨q0, q1, q2, q3⟩ := hrc; clear hz) | (go_at_call 23; refine (sc_Itoa _ _ HOK.out (HTT.out.below HB.out)).mono ?_; rintro e w1 ⟨rfl, hz⟩; have HB := Aside0.mk (show Below W1.heap.size W1 w1 from by first | exact below_step HB.out hz | exact below_step (below_drew1 HB.out) hz); have BK := Aside0.mk (show w1.heap[B]? = some (.cells #[.int .u8 x.f0, .int .i64 x.f1, .slice A2 x.f2.f0.length c2, .slice A3 x.f2.f1.length c3, .slice A4 x.f2.f2.length c4, .slice A5 x.f3.length c5] 47 (0, 0)) from by first | exact blk_below BK.out hz | exact (hz.block B (tk_lt BK.out)).trans BK.out); have RK := Aside0.mk (show w1.heap[B4]? = some (.cells sc_rowsC 54 (0, 0)) from by first | exact blk_below RK.out hz | exact (hz.block B4 (tk_lt RK.out)).trans RK.out); have d0 : w1.cell? ⟨B, 0, none⟩ = some (.int .u8 x.f0) := (blk_cell BK.out 0).trans rfl; have d1 : w1.cell? ⟨B, 1, none⟩ = some (.int .i64 x.f1) := (blk_cell BK.out 1).trans rfl; have d2 : w1.cell? ⟨B, 2, none⟩ = some (.slice A2 x.f2.f0.length c2) := (blk_cell BK.out 2).trans rfl; have d3 : w1.cell? ⟨B, 3, none⟩ = some (.slice A3 x.f2.f1.length c3) := (blk_cell BK.out 3).trans rfl; have d4 : w1.cell? ⟨B, 4, none⟩ = some (.slice A4 x.f2.f2.length c4) := (blk_cell BK.out 4).trans rfl; have d5 : w1.cell? ⟨B, 5, none⟩ = some (.slice A5 x.f3.length c5) := (blk_cell BK.out 5).trans rfl; have hrc := sc_rowcell _ B4 RK.out j r HJ.out; obtain ⟨q0, q1, q2, q3⟩ := hrc; have hcv := HCV.out w1 HB.out; clear hz) | (go_at_call 24; refine (script_hex.calls _ _ (by have := HX5.out; omega)).mono ?_; rintro e w1 ⟨rfl, hz⟩; have HB := Aside0.mk (show Below W1.heap.size W1 w1 from by first | exact below_step HB.out hz | exact below_step (below_drew1 HB.out) hz); have BK := Aside0.mk (show w1.heap[B]? = some (.cells #[.int .u8 x.f0, .int .i64 x.f1, .slice A2 x.f2.f0.length c2, .slice A3 x.f2.f1.length c3, .slice A4 x.f2.f2.length c4, .slice A5 x.f3.length c5] 47 (0, 0)) from by first | exact blk_below BK.out hz | exact (hz.block B (tk_lt BK.out)).trans BK.out); have RK := Aside0.mk (show w1.heap[B4]? = some (.cells sc_rowsC 54 (0, 0)) from by first | exact blk_below RK.out hz | exact (hz.block B4 (tk_lt RK.out)).trans RK.out); have d0 : w1.cell? ⟨B, 0, none⟩ = some (.int .u8 x.f0) := (blk_cell BK.out 0).trans rfl; have d1 : w1.cell? ⟨B, 1, none⟩ = some (.int .i64 x.f1) := (blk_cell BK.out 1).trans rfl; have d2 : w1.cell? ⟨B, 2, none⟩ = some (.slice A2 x.f2.f0.length c2) := (blk_cell BK.out 2).trans rfl; have d3 : w1.cell? ⟨B, 3, none⟩ = some (.slice A3 x.f2.f1.length c3) := (blk_cell BK.out 3).trans rfl; have d4 : w1.cell? ⟨B, 4, none⟩ = some (.slice A4 x.f2.f2.length c4) := (blk_cell BK.out 4).trans rfl; have d5 : w1.cell? ⟨B, 5, none⟩ = some (.slice A5 x.f3.length c5) := (blk_cell BK.out 5).trans rfl; have hrc := sc_rowcell _ B4 RK.out j r HJ.out; obtain ⟨q0, q1, q2, q3⟩ := hrc; clear hz))
  go_ret2
  rw [HRR.out]
  exact ⟨rfl, below_step HBW.out HB.out⟩
end Go.Proofs.YtegmbihjjhhpmaaDoor.T
