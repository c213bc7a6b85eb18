/- A part of the walk of the laws of layer 26 (script): contracts of functions of the program, each walked once; and the plain law. -/
import Derived.Test.YtegmbihjjhhpmaaDoorSO
import Derived.Test.YtegmbihjjhhpmaaDoorSh
import Derived.RangeFuncNested
import Derived.RangeFuncBound
import Derived.RangeFuncCalls
import Derived.RangeFuncLeaves
import Derived.RangeFuncBox
import Derived.OwnWalkIn
import Derived.TacticsInMore
import Derived.LoopNIn
import Derived.LoopIn
import Derived.Deep.DeepMust
import Derived.LoopN
import Derived.Laws.BitsAllLaws
import Derived.Maps.OwnIn
import Derived.Shelf.Abstract
import Derived.Sort.CutIn
import Derived.Shelf.RegionOpen
import Derived.StillTailTactics
import Derived.Great.BuildSlice
import Derived.Laws.Tables
import Derived.Lib.OthersKept
import Derived.Outline
import Derived.Deep.RegionHeld3
import Derived.Laws.StructEq
import Derived.Deep.RegionLaw
import Derived.Deep.RegionWith
import Derived.ArgAppend
import Derived.Lib.ItoaLen
namespace Go.Proofs.YtegmbihjjhhpmaaDoor.T
open Go.RowKit Go.Proofs.YtegmbihjjhhpmaaDoorW.PrintWords Go.Proofs.YtegmbihjjhhpmaaDoorW.PrintLast Go.Proofs.YtegmbihjjhhpmaaDoorW.PrintMore
open Go.Proofs.YtegmbihjjhhpmaaDoor.PSC
set_option linter.unusedVariables false
set_option linter.unusedSimpArgs false
/-! ### the place of a kind among the rows -/
def sc_idx (k : Int) : List (ByteArray × Int × Bool × Bool) → Nat → Int
  | [], _ => -1
  | r :: l, i => if r.2.1 = k then (i : Int) else sc_idx k l (i + 1)
theorem sc_idx_spec (k : Int) : ∀ (l : List (ByteArray × Int × Bool × Bool)) (i : Nat), (sc_idx k l i = -1 ∧ l.find? (fun r => decide (r.2.1 = k)) = none) ∨ (∃ j r, sc_idx k l i = ((i + j : Nat) : Int) ∧ l[j]? = some r ∧ l.find? (fun r => decide (r.2.1 = k)) = some r)
  | [], i => .inl ⟨rfl, rfl⟩
  | r :: l, i => by
    by_cases h : r.2.1 = k
    · exact .inr ⟨0, r, by rw [sc_idx, if_pos h]; rfl, rfl, by simp [h]⟩
    · rw [sc_idx, if_neg h, List.find?_cons_of_neg (by simp [h])]
      rcases sc_idx_spec k l (i + 1) with ⟨h1, h2⟩ | ⟨j, r2, h1, h2, h3⟩
      · exact .inl ⟨h1, h2⟩
      · exact .inr ⟨j + 1, r2, by rw [h1]; omega, h2, h3⟩
theorem sc_rowcell (w : World) (B : Nat) (h : w.heap[B]? = some (.cells sc_rowsC 54 (0, 0))) (j : Nat) (r : ByteArray × Int × Bool × Bool) (hj : sc_rows[j]? = some r) :
    w.cell? ⟨B, j * 4, none⟩ = some (.string r.1) ∧ w.cell? ⟨B, j * 4 + 1, none⟩ = some (.int .u8 r.2.1) ∧ w.cell? ⟨B, j * 4 + 2, none⟩ = some (.bool r.2.2.1) ∧ w.cell? ⟨B, j * 4 + 3, none⟩ = some (.bool r.2.2.2) := by
  have hlt : j < 9 := (List.getElem?_eq_some_iff.1 hj).1
  have : j = 0 ∨ j = 1 ∨ j = 2 ∨ j = 3 ∨ j = 4 ∨ j = 5 ∨ j = 6 ∨ j = 7 ∨ j = 8 := by omega
  rcases this with rfl | rfl | rfl | rfl | rfl | rfl | rfl | rfl | rfl <;> (obtain rfl := (Option.some.inj hj); exact ⟨(blk_cell h _).trans rfl, (blk_cell h _).trans rfl, (blk_cell h _).trans rfl, (blk_cell h _).trans rfl⟩)
theorem script_same.calls (BE : Nat) (k p : Int) (s : ByteArray) (a b : Bool) (cs : Array Value) (w : World) (hE : w.heap[BE]? = some (.cells cs 47 (0, 0))) (hk : cs[0]? = some (.int .u8 k)) :
    Calls Tryd.prog 20 #[.agg #[.string s, .int .u8 p, .bool a, .bool b], .pointer (some ⟨BE, 0, none⟩)] w fun e w' => e = .returned (.bool (p == k)) ∧ Below w.heap.size w w' := by
  obtain ⟨W, hW⟩ : ∃ W, w.alloc (.cells #[.string s, .int .u8 p, .bool a, .bool b] 53) = W := ⟨_, rfl⟩
  have HB := Aside0.mk (show Below w.heap.size w W by rw [← hW]; exact below_alloc (Below.refl _ _) _)
  have x0 : W.cell? ⟨BE, 0, none⟩ = some (.int .u8 k) := (blk_cell ((HB.out.block _ (Array.getElem?_eq_some_iff.1 hE).1).trans hE) 0).trans hk
  have x1 : W.cell? ⟨w.heap.size, 1, none⟩ = some (.int .u8 p) := by rw [← hW]; exact (blk_cell (heap_alloc_new _ _) 1).trans rfl
  go_enter Tryd.func20, Tryd.ntmps20
  go_wp2_with (fail)
  go_ret
  exact ⟨rfl, HB.out⟩
set_option maxHeartbeats 3200000 in
set_option maxRecDepth 100000 in
theorem sc_IndexFunc.calls (B BE : Nat) (k : Int) (cs : Array Value) (w : World) (h : w.heap[B]? = some (.cells sc_rowsC 54 (0, 0))) (hE : w.heap[BE]? = some (.cells cs 47 (0, 0))) (hk : cs[0]? = some (.int .u8 k)) :
    Calls Tryd.prog 19 #[.slice (some ⟨B, 0, none⟩) 9 9, .func (.func 20) #[] #[.pointer (some ⟨BE, 0, none⟩)]] w fun e w' => e = .returned (.int .i64 (sc_idx k sc_rows 0)) ∧ Below w.heap.size w w' := by
  have H := Aside0.mk h
  have HE := Aside0.mk hE
  have HK := Aside0.mk hk
  have hBl : B < w.heap.size := (Array.getElem?_eq_some_iff.1 h).1
  have hEl : BE < w.heap.size := (Array.getElem?_eq_some_iff.1 hE).1
  obtain ⟨R, hR⟩ : ∃ R, sc_idx k sc_rows 0 = R := ⟨_, rfl⟩
  rw [hR]
  have HR := Aside0.mk hR
  clear h hE hk hR
  go_enter Tryd.func19, Tryd.ntmps19
  go_wp2_with (fail)
  go_loopw [8] (fun v8 wr => ∃ j : Nat, j ≤ 9 ∧ v8 = .int .i64 (j : Int) ∧ Aside0 (sc_idx k (sc_rows.drop j) j = R) ∧ Aside0 (Below w.heap.size w wr)) (fun v8 _ => 9 - (intOf v8).toNat)
  case atStart => exact ⟨0, by omega, rfl, HR, ⟨Below.refl _ _⟩⟩
  case round =>
    obtain ⟨j, hj, rfl, HP, HB⟩ := hrel
    by_cases hj2 : j < 9
    · obtain ⟨r, hr⟩ : ∃ r, sc_rows[j]? = some r := ⟨_, List.getElem?_eq_getElem hj2⟩
      have hd : sc_rows.drop j = r :: sc_rows.drop (j + 1) := by
        rw [List.drop_eq_getElem_cons (by exact hj2)]
        congr 1
        exact Option.some.inj ((List.getElem?_eq_getElem hj2).symm.trans hr)
      obtain ⟨c0, c1, c2, c3⟩ := sc_rowcell wr B ((HB.out.block _ hBl).trans H.out) j r hr
      have hP := HP.out
      rw [hd, sc_idx] at hP
      have HPP := Aside0.mk hP
      have HEr := Aside0.mk ((HB.out.block _ hEl).trans HE.out)
      have hjz : (j : Int) < 9 := by omega
      clear hP hd hr HP
      by_cases hq : r.2.1 = k
      · have hX := HPP.out
        rw [if_pos hq] at hX
        have HX := Aside0.mk hX
        clear hX
        have hq2 : (r.2.1 == k) = true := by simp [hq]
        go_wp2_with (go_at_call 20; refine (script_same.calls BE k _ _ _ _ cs _ HEr.out HK.out).mono ?_; rintro e w6 ⟨rfl, hz⟩; have HB6 := Aside0.mk (below_step HB.out hz); clear hz)
        go_ret
        exact ⟨by rw [← HX.out]; rfl, HB6.out⟩
      · have HX := Aside0.mk (show sc_idx k (sc_rows.drop (j + 1)) (j + 1) = R by rw [← HPP.out, if_neg hq])
        have hq2 : (r.2.1 == k) = false := by simp [hq]
        go_wp2_with (go_at_call 20; refine (script_same.calls BE k _ _ _ _ cs _ HEr.out HK.out).mono ?_; rintro e w6 ⟨rfl, hz⟩; have HB6 := Aside0.mk (below_step HB.out hz); clear hz)
        go_roundw
        case rel => exact ⟨j + 1, by omega, by go_num, HX, HB6⟩
        case measure => simp [intOf]; omega
    · have hX : sc_idx k (sc_rows.drop j) j = -1 := by
        have : j = 9 := by omega
        subst this; rfl
      have HR2 := Aside0.mk (show R = -1 by rw [← HP.out, hX])
      clear hX
      have hjz : ((j : Int) < 9) = False := eq_false (by omega)
      go_wp2_with (fail)
      go_ret
      exact ⟨by rw [HR2.out]; rfl, HB.out⟩
end Go.Proofs.YtegmbihjjhhpmaaDoor.T
namespace Go.Proofs.YtegmbihjjhhpmaaDoor.T
open Go.RowKit Go.Proofs.YtegmbihjjhhpmaaDoorW.PrintWords Go.Proofs.YtegmbihjjhhpmaaDoorW.PrintLast Go.Proofs.YtegmbihjjhhpmaaDoorW.PrintMore
open Go.Proofs.YtegmbihjjhhpmaaDoor.PSC
set_option linter.unusedVariables false
set_option linter.unusedSimpArgs false
/-! ### RulesText's function (made by wip/gen_line.py) -/
def sc_smallR (x : S51) : Prop := x.f0.size ≤ 1000000 ∧ x.f1.size ≤ 1000000 ∧ sc_ok64 x.f2 ∧ sc_smallF x.f3 ∧ x.f3.length ≤ 1000000 ∧ x.f4.length ≤ 1000000
theorem sc_bw_len (l : List Int) : (sc_tail (sc_bw l)).length ≤ 2 * l.length + 4 := by
  have h := sc_hexB_size (sc_bytes l)
  have e1 : (sc_hexB (sc_bytes l)).data.toList.length = (sc_hexB (sc_bytes l)).size := rfl
  have e2 : (sc_bytes l).size = l.length := by simp [sc_bytes, sc_b_size]
  unfold sc_bw
  split
  · simp [sc_tail]
  · have e3 : sc_tail [sc_b [98], sc_hexB (sc_bytes l)] = [32, 98, 32] ++ (sc_hexB (sc_bytes l)).data.toList := by simp [sc_tail, sc_b]
    rw [e3, List.length_append, e1]
    simp only [List.length_cons, List.length_nil]
    omega
theorem sc_itoa_len (n : Int) (h : sc_ok64 n) : (Lib.itoa n).length ≤ 21 := Lib.itoa_length_le n h.1 h.2
theorem sc_cat (a b : ByteArray) (h : a.size + b.size ≤ 9223372036854775807) : (9223372036854775807 < a.size + b.size) = False := eq_false (by omega)
theorem sc_catn (a : ByteArray) (n : Nat) (h : a.size + n ≤ 9223372036854775807) : (9223372036854775807 < a.size + n) = False := eq_false (by omega)
theorem sc_ncat (a : ByteArray) (n : Nat) (h : n + a.size ≤ 9223372036854775807) : (9223372036854775807 < n + a.size) = False := eq_false (by omega)
set_option maxHeartbeats 6400000 in
set_option maxRecDepth 100000 in
theorem script_ruled.calls (x : S51) (w0 : World) (hT : ScTab w0) (hx : sc_smallR x) : LineAtR #[] sc_ruled x w0 := by
  intro W A3 c3 A4 c4 hW ⟨a1, a2, a3, a4⟩
  have HB0 := Aside0.mk hW
  have HT := Aside0.mk hT
  obtain ⟨s0, s1, s2, s3, s4, s5⟩ := hx
  have HSF := Aside0.mk s3
  have HOK := Aside0.mk s2
  have HS0 := Aside0.mk s0
  have HS1 := Aside0.mk s1
  have HL3 := Aside0.mk s4
  have HL4 := Aside0.mk s5
  have HC3 := Aside0.mk a1
  have HC4 := Aside0.mk a3
  obtain ⟨W1, hW1⟩ : ∃ V, W.alloc (.cells #[.string x.f0, .string x.f1, .int .i64 x.f2, .slice A3 x.f3.length c3, .slice A4 x.f4.length c4, .bool x.f5] 51) = V := ⟨_, rfl⟩
  obtain ⟨B, hBB⟩ : ∃ b, W.heap.size = b := ⟨_, rfl⟩
  have hbw : Below W.heap.size W W1 := by rw [← hW1]; exact below_alloc (Below.refl _ _) _
  have BK := Aside0.mk (show W1.heap[B]? = some (.cells #[.string x.f0, .string x.f1, .int .i64 x.f2, .slice A3 x.f3.length c3, .slice A4 x.f4.length c4, .bool x.f5] 51 (0, 0)) by rw [← hW1, ← hBB]; exact heap_alloc_new _ _)
  have HBW := Aside0.mk hbw
  have HR3 := Aside0.mk (Kd.C_below a2 hbw)
  have HR4 := Aside0.mk (Kd.C_below a4 hbw)
  have HB := Aside0.mk (Below.refl W1.heap.size W1)
  have HT := Aside0.mk ((hT.below hW).below hbw)
  obtain ⟨H0, hH0⟩ : ∃ H, sc_hexB x.f0 = H := ⟨_, rfl⟩
  obtain ⟨H1, hH1⟩ : ∃ H, sc_hexB x.f1 = H := ⟨_, rfl⟩
  obtain ⟨N, hN⟩ : ∃ H, sc_b (Lib.itoa x.f2) = H := ⟨_, rfl⟩
  obtain ⟨F, hF⟩ : ∃ H, sc_b (sc_toldL sc_f x.f3) = H := ⟨_, rfl⟩
  obtain ⟨D, hD⟩ : ∃ H, sc_b (sc_tail (sc_bw x.f4)) = H := ⟨_, rfl⟩
  have k0 := sc_hexB_size x.f0
  have k1 := sc_hexB_size x.f1
  have k2 : N.size ≤ 21 := by rw [← hN]; exact sc_itoa_len _ s2
  have k3 : F.size ≤ 1000000 * 2000010 := by rw [← hF]; exact Nat.le_trans (sc_toldL_len sc_f x.f3 s3 (by decide)) (Nat.mul_le_mul_right _ s4)
  have k4 : D.size ≤ 2000004 := by rw [← hD]; exact Nat.le_trans (sc_bw_len x.f4) (by omega)
  rw [hH0] at k0
  rw [hH1] at k1
  obtain ⟨p0, hp0⟩ : ∃ p, (⟨#[114, 117, 108, 101, 32]⟩ : ByteArray) ++ H0 = p := ⟨_, rfl⟩
  obtain ⟨p1, hp1⟩ : ∃ p, p0 ++ (⟨#[32]⟩ : ByteArray) = p := ⟨_, rfl⟩
  obtain ⟨p2, hp2⟩ : ∃ p, p1 ++ H1 = p := ⟨_, rfl⟩
  obtain ⟨p3, hp3⟩ : ∃ p, p2 ++ (⟨#[32]⟩ : ByteArray) = p := ⟨_, rfl⟩
  obtain ⟨p4, hp4⟩ : ∃ p, p3 ++ N = p := ⟨_, rfl⟩
  obtain ⟨p5, hp5⟩ : ∃ p, p4 ++ F = p := ⟨_, rfl⟩
  obtain ⟨p6, hp6⟩ : ∃ p, p5 ++ D = p := ⟨_, rfl⟩
  obtain ⟨p7, hp7⟩ : ∃ p, p6 ++ (⟨#[32, 101, 99, 104, 111]⟩ : ByteArray) = p := ⟨_, rfl⟩
  have y0 : p0.size = 5 + H0.size := by rw [← hp0, ByteArray.size_append]; rfl
  have y1 : p1.size = p0.size + 1 := by rw [← hp1, ByteArray.size_append]; rfl
  have y2 : p2.size = p1.size + H1.size := by rw [← hp2, ByteArray.size_append]
  have y3 : p3.size = p2.size + 1 := by rw [← hp3, ByteArray.size_append]; rfl
  have y4 : p4.size = p3.size + N.size := by rw [← hp4, ByteArray.size_append]
  have y5 : p5.size = p4.size + F.size := by rw [← hp5, ByteArray.size_append]
  have y6 : p6.size = p5.size + D.size := by rw [← hp6, ByteArray.size_append]
  have r5 : (⟨#[114, 117, 108, 101, 32]⟩ : ByteArray).size = 5 := rfl
  have r1 : (⟨#[32]⟩ : ByteArray).size = 1 := rfl
  have r6 : (⟨#[32, 101, 99, 104, 111]⟩ : ByteArray).size = 5 := rfl
  have z0 := sc_cat ⟨#[114, 117, 108, 101, 32]⟩ H0 (by omega)
  have z0b := sc_ncat H0 5 (by omega)
  have z1 := sc_cat p0 ⟨#[32]⟩ (by omega)
  have z1b := sc_catn p0 1 (by omega)
  have z2 := sc_cat p1 H1 (by omega)
  have z3 := sc_cat p2 ⟨#[32]⟩ (by omega)
  have z3b := sc_catn p2 1 (by omega)
  have z4 := sc_cat p3 N (by omega)
  have z5 := sc_cat p4 F (by omega)
  have z6 := sc_cat p5 D (by omega)
  have z7 := sc_cat p6 ⟨#[32, 101, 99, 104, 111]⟩ (by omega)
  have z7b := sc_catn p6 5 (by omega)
  have HE6 := Aside0.mk (show p6.data.toList = sc_rule.data.toList ++ (32 :: H0.data.toList ++ 32 :: H1.data.toList ++ 32 :: N.data.toList ++ F.data.toList ++ D.data.toList) by rw [← hp6, ← hp5, ← hp4, ← hp3, ← hp2, ← hp1, ← hp0]; simp [sc_rule])
  have HEQ := Aside0.mk (show ∀ t : List UInt8, (if x.f5 = true then sc_tail [sc_echo] else []) = t → sc_ruled x = some (sc_b (p6.data.toList ++ t)) by
    intro t ht
    rw [HE6.out, ← hH0, ← hH1, ← hN, ← hF, ← hD, ← ht]
    unfold sc_ruled sc_rw sc_toldL
    cases x.f5 <;> simp [sc_tail, sc_b])
  have HP7 := Aside0.mk (show p7 = sc_b (p6.data.toList ++ sc_tail [sc_echo]) by rw [← hp7]; exact sc_data_inj (by simp [sc_tail, sc_echo, sc_b]))
  clear y0 y1 y2 y3 y4 y5 y6 r5 r1 r6 k0 k1 k2 k3 k4 a1 a2 a3 a4 s0 s1 s2 s3 s4 s5 hW hbw hT

  cases hv : x.f5 with
  | false =>
    have HX := Aside0.mk (show sc_ruled x = some p6 by rw [HEQ.out [] (by rw [hv]; rfl)]; congr 1; exact sc_data_inj (by simp [sc_b]))
    rw [hv] at BK hW1
    have d0 : W1.cell? ⟨B, 0, none⟩ = some (.string x.f0) := (blk_cell BK.out 0).trans rfl
    have d1 : W1.cell? ⟨B, 1, none⟩ = some (.string x.f1) := (blk_cell BK.out 1).trans rfl
    have d2 : W1.cell? ⟨B, 2, none⟩ = some (.int .i64 x.f2) := (blk_cell BK.out 2).trans rfl
    have d3 : W1.cell? ⟨B, 3, none⟩ = some (.slice A3 x.f3.length c3) := (blk_cell BK.out 3).trans rfl
    have d4 : W1.cell? ⟨B, 4, none⟩ = some (.slice A4 x.f4.length c4) := (blk_cell BK.out 4).trans rfl
    go_enter Tryd.func31, Tryd.ntmps31
    go_upto_region 1 with (fail)
    (try rw [hW1])
    (try rw [hBB])
    go_region_held3 (fun w' => w'.cell? ⟨B, 0, none⟩ = some (.string x.f0) ∧ w'.cell? ⟨B, 1, none⟩ = some (.string x.f1) ∧ w'.cell? ⟨B, 2, none⟩ = some (.int .i64 x.f2) ∧ w'.cell? ⟨B, 3, none⟩ = some (.slice A3 x.f3.length c3) ∧ w'.cell? ⟨B, 4, none⟩ = some (.slice A4 x.f4.length c4)) (first | go_keep | (refine ⟨?_, ?_, ?_, ?_, ?_⟩ <;> assumption) | (go_split_ands; refine ⟨?_, ?_, ?_, ?_, ?_⟩ <;> (refine Eq.trans (hz.cell ?_) ?_; rotate_left; assumption; exact World.block_lt_of_cell? _ _ (by assumption)))) (first | (go_at_call 24; refine (script_hex.calls _ _ (by have := HS0.out; have := HS1.out; omega)).mono ?_; rintro e w1 ⟨rfl, hz⟩; have HB := Aside0.mk (show Below W1.heap.size W1 w1 from by first | exact below_step HB.out hz | exact below_step (below_drew1 HB.out) hz); have BK := Aside0.mk (show w1.heap[B]? = some (.cells #[.string x.f0, .string x.f1, .int .i64 x.f2, .slice A3 x.f3.length c3, .slice A4 x.f4.length c4, .bool false] 51 (0, 0)) from by first | exact blk_below BK.out hz | exact (hz.block B (tk_lt BK.out)).trans BK.out); have d0 : w1.cell? ⟨B, 0, none⟩ = some (.string x.f0) := (blk_cell BK.out 0).trans rfl; have d1 : w1.cell? ⟨B, 1, none⟩ = some (.string x.f1) := (blk_cell BK.out 1).trans rfl; have d2 : w1.cell? ⟨B, 2, none⟩ = some (.int .i64 x.f2) := (blk_cell BK.out 2).trans rfl; have d3 : w1.cell? ⟨B, 3, none⟩ = some (.slice A3 x.f3.length c3) := (blk_cell BK.out 3).trans rfl; have d4 : w1.cell? ⟨B, 4, none⟩ = some (.slice A4 x.f4.length c4) := (blk_cell BK.out 4).trans rfl; have d5 : w1.cell? ⟨B, 5, none⟩ = some (.bool false) := (blk_cell BK.out 5).trans rfl; clear hz) | (go_at_call 23; refine (sc_Itoa _ _ HOK.out (by first | exact HT.out.below HB.out | exact HT.out.below (below_drew1 HB.out))).mono ?_; rintro e w1 ⟨rfl, hz⟩; have HB := Aside0.mk (show Below W1.heap.size W1 w1 from by first | exact below_step HB.out hz | exact below_step (below_drew1 HB.out) hz); have BK := Aside0.mk (show w1.heap[B]? = some (.cells #[.string x.f0, .string x.f1, .int .i64 x.f2, .slice A3 x.f3.length c3, .slice A4 x.f4.length c4, .bool false] 51 (0, 0)) from by first | exact blk_below BK.out hz | exact (hz.block B (tk_lt BK.out)).trans BK.out); have d0 : w1.cell? ⟨B, 0, none⟩ = some (.string x.f0) := (blk_cell BK.out 0).trans rfl; have d1 : w1.cell? ⟨B, 1, none⟩ = some (.string x.f1) := (blk_cell BK.out 1).trans rfl; have d2 : w1.cell? ⟨B, 2, none⟩ = some (.int .i64 x.f2) := (blk_cell BK.out 2).trans rfl; have d3 : w1.cell? ⟨B, 3, none⟩ = some (.slice A3 x.f3.length c3) := (blk_cell BK.out 3).trans rfl; have d4 : w1.cell? ⟨B, 4, none⟩ = some (.slice A4 x.f4.length c4) := (blk_cell BK.out 4).trans rfl; have d5 : w1.cell? ⟨B, 5, none⟩ = some (.bool false) := (blk_cell BK.out 5).trans rfl; clear hz) | (go_at_call 21; refine (script_told.calls sc_f _ _ _ _ (Kd.C_below HR3.out (by first | exact HB.out | exact below_drew1 HB.out)) HC3.out HSF.out (by decide) HL3.out).mono ?_; rintro e w1 ⟨rfl, hz⟩; have HB := Aside0.mk (show Below W1.heap.size W1 w1 from by first | exact below_step HB.out hz | exact below_step (below_drew1 HB.out) hz); have BK := Aside0.mk (show w1.heap[B]? = some (.cells #[.string x.f0, .string x.f1, .int .i64 x.f2, .slice A3 x.f3.length c3, .slice A4 x.f4.length c4, .bool false] 51 (0, 0)) from by first | exact blk_below BK.out hz | exact (hz.block B (tk_lt BK.out)).trans BK.out); have d0 : w1.cell? ⟨B, 0, none⟩ = some (.string x.f0) := (blk_cell BK.out 0).trans rfl; have d1 : w1.cell? ⟨B, 1, none⟩ = some (.string x.f1) := (blk_cell BK.out 1).trans rfl; have d2 : w1.cell? ⟨B, 2, none⟩ = some (.int .i64 x.f2) := (blk_cell BK.out 2).trans rfl; have d3 : w1.cell? ⟨B, 3, none⟩ = some (.slice A3 x.f3.length c3) := (blk_cell BK.out 3).trans rfl; have d4 : w1.cell? ⟨B, 4, none⟩ = some (.slice A4 x.f4.length c4) := (blk_cell BK.out 4).trans rfl; have d5 : w1.cell? ⟨B, 5, none⟩ = some (.bool false) := (blk_cell BK.out 5).trans rfl; clear hz) | (go_at_call 22; refine (script_body.calls _ _ _ _ (Kd.C_below HR4.out (by first | exact HB.out | exact below_drew1 HB.out)) HC4.out HL4.out).mono ?_; rintro e w1 ⟨rfl, hz⟩; have HB := Aside0.mk (show Below W1.heap.size W1 w1 from by first | exact below_step HB.out hz | exact below_step (below_drew1 HB.out) hz); have BK := Aside0.mk (show w1.heap[B]? = some (.cells #[.string x.f0, .string x.f1, .int .i64 x.f2, .slice A3 x.f3.length c3, .slice A4 x.f4.length c4, .bool false] 51 (0, 0)) from by first | exact blk_below BK.out hz | exact (hz.block B (tk_lt BK.out)).trans BK.out); have d0 : w1.cell? ⟨B, 0, none⟩ = some (.string x.f0) := (blk_cell BK.out 0).trans rfl; have d1 : w1.cell? ⟨B, 1, none⟩ = some (.string x.f1) := (blk_cell BK.out 1).trans rfl; have d2 : w1.cell? ⟨B, 2, none⟩ = some (.int .i64 x.f2) := (blk_cell BK.out 2).trans rfl; have d3 : w1.cell? ⟨B, 3, none⟩ = some (.slice A3 x.f3.length c3) := (blk_cell BK.out 3).trans rfl; have d4 : w1.cell? ⟨B, 4, none⟩ = some (.slice A4 x.f4.length c4) := (blk_cell BK.out 4).trans rfl; have d5 : w1.cell? ⟨B, 5, none⟩ = some (.bool false) := (blk_cell BK.out 5).trans rfl; clear hz))
    go_wp2_with (fail)
    go_ret2
    rw [HX.out]
    exact ⟨rfl, below_step HBW.out HB.out⟩
  | true =>
    have HX := Aside0.mk (show sc_ruled x = some p7 by rw [HEQ.out (sc_tail [sc_echo]) (by rw [hv]; rfl), HP7.out])
    rw [hv] at BK hW1
    have d0 : W1.cell? ⟨B, 0, none⟩ = some (.string x.f0) := (blk_cell BK.out 0).trans rfl
    have d1 : W1.cell? ⟨B, 1, none⟩ = some (.string x.f1) := (blk_cell BK.out 1).trans rfl
    have d2 : W1.cell? ⟨B, 2, none⟩ = some (.int .i64 x.f2) := (blk_cell BK.out 2).trans rfl
    have d3 : W1.cell? ⟨B, 3, none⟩ = some (.slice A3 x.f3.length c3) := (blk_cell BK.out 3).trans rfl
    have d4 : W1.cell? ⟨B, 4, none⟩ = some (.slice A4 x.f4.length c4) := (blk_cell BK.out 4).trans rfl
    go_enter Tryd.func31, Tryd.ntmps31
    go_upto_region 1 with (fail)
    (try rw [hW1])
    (try rw [hBB])
    go_region_held3 (fun w' => w'.cell? ⟨B, 0, none⟩ = some (.string x.f0) ∧ w'.cell? ⟨B, 1, none⟩ = some (.string x.f1) ∧ w'.cell? ⟨B, 2, none⟩ = some (.int .i64 x.f2) ∧ w'.cell? ⟨B, 3, none⟩ = some (.slice A3 x.f3.length c3) ∧ w'.cell? ⟨B, 4, none⟩ = some (.slice A4 x.f4.length c4)) (first | go_keep | (refine ⟨?_, ?_, ?_, ?_, ?_⟩ <;> assumption) | (go_split_ands; refine ⟨?_, ?_, ?_, ?_, ?_⟩ <;> (refine Eq.trans (hz.cell ?_) ?_; rotate_left; assumption; exact World.block_lt_of_cell? _ _ (by assumption)))) (first | (go_at_call 24; refine (script_hex.calls _ _ (by have := HS0.out; have := HS1.out; omega)).mono ?_; rintro e w1 ⟨rfl, hz⟩; have HB := Aside0.mk (show Below W1.heap.size W1 w1 from by first | exact below_step HB.out hz | exact below_step (below_drew1 HB.out) hz); have BK := Aside0.mk (show w1.heap[B]? = some (.cells #[.string x.f0, .string x.f1, .int .i64 x.f2, .slice A3 x.f3.length c3, .slice A4 x.f4.length c4, .bool true] 51 (0, 0)) from by first | exact blk_below BK.out hz | exact (hz.block B (tk_lt BK.out)).trans BK.out); have d0 : w1.cell? ⟨B, 0, none⟩ = some (.string x.f0) := (blk_cell BK.out 0).trans rfl; have d1 : w1.cell? ⟨B, 1, none⟩ = some (.string x.f1) := (blk_cell BK.out 1).trans rfl; have d2 : w1.cell? ⟨B, 2, none⟩ = some (.int .i64 x.f2) := (blk_cell BK.out 2).trans rfl; have d3 : w1.cell? ⟨B, 3, none⟩ = some (.slice A3 x.f3.length c3) := (blk_cell BK.out 3).trans rfl; have d4 : w1.cell? ⟨B, 4, none⟩ = some (.slice A4 x.f4.length c4) := (blk_cell BK.out 4).trans rfl; have d5 : w1.cell? ⟨B, 5, none⟩ = some (.bool true) := (blk_cell BK.out 5).trans rfl; clear hz) | (go_at_call 23; refine (sc_Itoa _ _ HOK.out (by first | exact HT.out.below HB.out | exact HT.out.below (below_drew1 HB.out))).mono ?_; rintro e w1 ⟨rfl, hz⟩; have HB := Aside0.mk (show Below W1.heap.size W1 w1 from by first | exact below_step HB.out hz | exact below_step (below_drew1 HB.out) hz); have BK := Aside0.mk (show w1.heap[B]? = some (.cells #[.string x.f0, .string x.f1, .int .i64 x.f2, .slice A3 x.f3.length c3, .slice A4 x.f4.length c4, .bool true] 51 (0, 0)) from by first | exact blk_below BK.out hz | exact (hz.block B (tk_lt BK.out)).trans BK.out); have d0 : w1.cell? ⟨B, 0, none⟩ = some (.string x.f0) := (blk_cell BK.out 0).trans rfl; have d1 : w1.cell? ⟨B, 1, none⟩ = some (.string x.f1) := (blk_cell BK.out 1).trans rfl; have d2 : w1.cell? ⟨B, 2, none⟩ = some (.int .i64 x.f2) := (blk_cell BK.out 2).trans rfl; have d3 : w1.cell? ⟨B, 3, none⟩ = some (.slice A3 x.f3.length c3) := (blk_cell BK.out 3).trans rfl; have d4 : w1.cell? ⟨B, 4, none⟩ = some (.slice A4 x.f4.length c4) := (blk_cell BK.out 4).trans rfl; have d5 : w1.cell? ⟨B, 5, none⟩ = some (.bool true) := (blk_cell BK.out 5).trans rfl; clear hz) | (go_at_call 21; refine (script_told.calls sc_f _ _ _ _ (Kd.C_below HR3.out (by first | exact HB.out | exact below_drew1 HB.out)) HC3.out HSF.out (by decide) HL3.out).mono ?_; rintro e w1 ⟨rfl, hz⟩; have HB := Aside0.mk (show Below W1.heap.size W1 w1 from by first | exact below_step HB.out hz | exact below_step (below_drew1 HB.out) hz); have BK := Aside0.mk (show w1.heap[B]? = some (.cells #[.string x.f0, .string x.f1, .int .i64 x.f2, .slice A3 x.f3.length c3, .slice A4 x.f4.length c4, .bool true] 51 (0, 0)) from by first | exact blk_below BK.out hz | exact (hz.block B (tk_lt BK.out)).trans BK.out); have d0 : w1.cell? ⟨B, 0, none⟩ = some (.string x.f0) := (blk_cell BK.out 0).trans rfl; have d1 : w1.cell? ⟨B, 1, none⟩ = some (.string x.f1) := (blk_cell BK.out 1).trans rfl; have d2 : w1.cell? ⟨B, 2, none⟩ = some (.int .i64 x.f2) := (blk_cell BK.out 2).trans rfl; have d3 : w1.cell? ⟨B, 3, none⟩ = some (.slice A3 x.f3.length c3) := (blk_cell BK.out 3).trans rfl; have d4 : w1.cell? ⟨B, 4, none⟩ = some (.slice A4 x.f4.length c4) := (blk_cell BK.out 4).trans rfl; have d5 : w1.cell? ⟨B, 5, none⟩ = some (.bool true) := (blk_cell BK.out 5).trans rfl; clear hz) | (go_at_call 22; refine (script_body.calls _ _ _ _ (Kd.C_below HR4.out (by first | exact HB.out | exact below_drew1 HB.out)) HC4.out HL4.out).mono ?_; rintro e w1 ⟨rfl, hz⟩; have HB := Aside0.mk (show Below W1.heap.size W1 w1 from by first | exact below_step HB.out hz | exact below_step (below_drew1 HB.out) hz); have BK := Aside0.mk (show w1.heap[B]? = some (.cells #[.string x.f0, .string x.f1, .int .i64 x.f2, .slice A3 x.f3.length c3, .slice A4 x.f4.length c4, .bool true] 51 (0, 0)) from by first | exact blk_below BK.out hz | exact (hz.block B (tk_lt BK.out)).trans BK.out); have d0 : w1.cell? ⟨B, 0, none⟩ = some (.string x.f0) := (blk_cell BK.out 0).trans rfl; have d1 : w1.cell? ⟨B, 1, none⟩ = some (.string x.f1) := (blk_cell BK.out 1).trans rfl; have d2 : w1.cell? ⟨B, 2, none⟩ = some (.int .i64 x.f2) := (blk_cell BK.out 2).trans rfl; have d3 : w1.cell? ⟨B, 3, none⟩ = some (.slice A3 x.f3.length c3) := (blk_cell BK.out 3).trans rfl; have d4 : w1.cell? ⟨B, 4, none⟩ = some (.slice A4 x.f4.length c4) := (blk_cell BK.out 4).trans rfl; have d5 : w1.cell? ⟨B, 5, none⟩ = some (.bool true) := (blk_cell BK.out 5).trans rfl; clear hz))
    go_wp2_with (fail)
    go_ret2
    rw [HX.out]
    exact ⟨rfl, below_step HBW.out HB.out⟩
end Go.Proofs.YtegmbihjjhhpmaaDoor.T
