/- A part of the walk of the laws of layer 26 (script): contracts of functions of the program, each walked once; and the plain law. -/
import Derived.Test.YtegmbihjjhhpmaaDoorSN0
import Derived.Test.YtegmbihjjhhpmaaDoorSh
import Derived.RangeFuncNested
import Derived.RangeFuncBound
import Derived.RangeFuncCalls
import Derived.RangeFuncLeaves
import Derived.RangeFuncBox
import Derived.OwnWalkIn
import Derived.TacticsInMore
import Derived.LoopNIn
import Derived.LoopIn
import Derived.Deep.DeepMust
import Derived.LoopN
import Derived.Laws.BitsAllLaws
import Derived.Maps.OwnIn
import Derived.Shelf.Abstract
import Derived.Sort.CutIn
import Derived.Shelf.RegionOpen
import Derived.StillTailTactics
import Derived.Great.BuildSlice
import Derived.Laws.Tables
import Derived.Lib.OthersKept
import Derived.Outline
import Derived.Deep.RegionHeld3
import Derived.Laws.StructEq
import Derived.Deep.RegionLaw
import Derived.Deep.RegionWith
import Derived.ArgAppend
namespace Go.Proofs.YtegmbihjjhhpmaaDoor.T
open Go.RowKit Go.Proofs.YtegmbihjjhhpmaaDoorW.PrintWords Go.Proofs.YtegmbihjjhhpmaaDoorW.PrintLast Go.Proofs.YtegmbihjjhhpmaaDoorW.PrintMore
open Go.Proofs.YtegmbihjjhhpmaaDoor.PSC
set_option linter.unusedVariables false
set_option linter.unusedSimpArgs false
theorem lines_info_Event : (Tryd.prog.info? 47).map (fun i => (i.zero, i.size, i.bytes)) = some (some (.agg #[.int .u8 0, .int .i64 0, .slice none 0 0, .slice none 0 0, .slice none 0 0, .slice none 0 0]), 6, 112) := by kernel_rfl
set_option maxHeartbeats 6400000 in
set_option maxRecDepth 100000 in
theorem script_lines_Event.calls (s : ByteArray) (w : World) (hs : s.size ≤ 4294967000) (hT : ScTab w) :
    Calls Tryd.prog 26 #[.string s, .func (.func 27) #[] #[]] w fun e w' => (∃ A c, e = .returned (.tuple #[.slice A (sc_parse tk_event (sc_split 10 s.data.toList) 0 []).1.length (sc_parse tk_event (sc_split 10 s.data.toList) 0 []).1.length, .int .i64 (sc_parse tk_event (sc_split 10 s.data.toList) 0 []).2.1, .int .i64 (sc_parse tk_event (sc_split 10 s.data.toList) 0 []).2.2]) ∧ OutAt EvAt 47 w' w.heap.size (.slice A (sc_parse tk_event (sc_split 10 s.data.toList) 0 []).1.length c) (sc_parse tk_event (sc_split 10 s.data.toList) 0 []).1) ∧ Below w.heap.size w w' := by
  have HT := Aside0.mk hT
  obtain ⟨R, hR⟩ : ∃ R, sc_parse tk_event (sc_split 10 s.data.toList) 0 [] = R := ⟨_, rfl⟩
  rw [hR]
  have HR := Aside0.mk hR
  clear hT hR
  go_enter Tryd.func26, Tryd.ntmps26
  go_wp2_with (fail)
  go_loopw [0, 4, 5] (fun v0 v4 v5 wr => ∃ (s1 : ByteArray) (i : Nat) (acc : List S47), v0 = .string s1 ∧ v5 = .int .i64 (i : Int) ∧ i ≤ 4096 ∧ Aside0 (s1.size ≤ s.size) ∧ Aside0 (acc.length = i) ∧ Aside0 (sc_parse tk_event (sc_split 10 s1.data.toList) i acc = R) ∧ Aside0 (OutAt EvAt 47 wr w.heap.size v4 acc) ∧ Aside0 (Below w.heap.size w wr)) (fun v0 _ _ _ => (scStr v0).size)
  case atStart => exact ⟨s, 0, [], rfl, rfl, by omega, ⟨Nat.le_refl _⟩, ⟨rfl⟩, HR, ⟨OutAt.nil _ _ _ _ (Nat.le_refl _)⟩, ⟨Below.refl _ _⟩⟩
  case round =>
    obtain ⟨s1, i, acc, rfl, rfl, hi, HS1, HAL, HP, HO, HB⟩ := hrel
    by_cases h0 : s1.data.toList = []
    · have e0 : s1.toList.isEmpty = true := by rw [Lib.toList_data, h0]; rfl
      have HE := Aside0.mk (show (acc, (0 : Int), (0 : Int)) = R by rw [← HP.out, h0, sc_parse_end])
      obtain ⟨A4, c4, rfl, hc4⟩ := HO.out.slice
      have hal : acc.length ≤ 9223372036854775807 := by have := HAL.out; omega
      clear h0
      go_wp2_with (go_at_call 43; refine (clip_events.calls A4 acc.length c4 _ hc4 hal).mono ?_; rintro e w1 ⟨rfl, rfl⟩)
      go_ret3
      rw [← HE.out]
      first | exact ⟨⟨A4, c4, rfl, HO.out⟩, HB.out⟩ | exact ⟨⟨A4, rfl, c4, HO.out⟩, HB.out⟩
    · have e0 : s1.toList.isEmpty = false := by rw [Lib.toList_data]; simpa using h0
      have hs1 : s1.size ≤ 4294967280 := by have := HS1.out; omega
      have HT1 := Aside0.mk (HT.out.below HB.out)
      have hcase : ((10 : UInt8) ∉ s1.data.toList ∧ R = ([], (i : Int), 5)) ∨ ∃ p r, s1.data.toList = p ++ 10 :: r ∧ (10 : UInt8) ∉ p ∧ R = (if (tk_event (sc_words p, false)).2.2 = true ∨ (tk_event (sc_words p, false)).2.1 ≠ [] ∨ 65536 < p.length ∨ 4096 ≤ i then ([], (i : Int), 5) else sc_parse tk_event (sc_split 10 r) (i + 1) (acc ++ [(tk_event (sc_words p, false)).1])) := by
        rcases sc_parts 10 s1.data.toList with h | ⟨p, r, e, h⟩
        · exact .inl ⟨h, by rw [← HP.out, sc_split_one 10 _ h, sc_parse_fin _ _ _ _ h0]⟩
        · exact .inr ⟨p, r, e, h, by rw [← HP.out, e, sc_parse_step _ p r i acc h]⟩
      clear h0 HP
      rcases hcase with ⟨h10, hRR⟩ | ⟨p, r, hpr, h10, hRR⟩
      · skip
        have HRR := Aside0.mk hRR
        have hl1 : (s1).size ≤ 4294967270 := by have := HS1.out; omega
        have hwl : (sc_words (s1).data.toList).length ≤ 4294967280 := by have := sc_words_len (s1); omega
        have HFR := Aside0.mk (fun W => TkSt.fresh (s1) W (by omega) hwl)
        have HSP := Aside0.mk (fun W (h : ScTab W) => sc_Split (s1) W (by omega) h)
        skip
        obtain ⟨ws, hws⟩ : ∃ ws, sc_words s1.data.toList = ws := ⟨_, rfl⟩
        rw [hws] at hwl HFR HSP
        obtain ⟨U, hU⟩ : ∃ U, tk_event (ws, false) = U := ⟨_, rfl⟩
        have PE := Aside0.mk (show ∀ g N W W0, TkSt g N (ws, false) W → ScTab W0 → Below W0.heap.size W0 W → W0.heap.size ≤ g → Calls Tryd.prog 27 #[.pointer (some ⟨g, 0, none⟩)] W fun e w' => (∃ cs, e = .returned (.agg cs.toArray) ∧ EvAt w' W.heap.size w'.heap.size U.1 cs) ∧ TkSt g N U.2 w' ∧ W.grownBy w' (some g) from fun g N W W0 h1 h2 h3 h4 => by rw [← hU]; exact script_event.calls g N _ W W0 h1 h2 h3 h4)
        have HCUT := Aside0.mk (fun W h => sc_Cut_none s1 W hs1 h h10)
        skip
        obtain ⟨x, hx⟩ : ∃ x, U.1 = x := ⟨_, rfl⟩
        obtain ⟨q, hq⟩ : ∃ q, U.2 = q := ⟨_, rfl⟩
        rw [hx, hq] at PE
        have HCUT := Aside0.mk (HCUT.out _ HT1.out)
        clear hRR hws hU hx hq h10
        go_upto_region 4 with (go_at_call 41; refine HCUT.out.mono ?_; rintro e w1 ⟨rfl, hz⟩; have HB1 := Aside0.mk (below_step HB.out hz); have HO1 := Aside0.mk (EvAt_out HO.out hz); clear hz)
        go_upto_region 5 with (go_at_call 42; refine (HSP.out _ (HT.out.below HB1.out)).mono ?_; rintro e w2 ⟨rfl, hw2⟩; have HW2 := Aside0.mk hw2; clear hw2)
        obtain ⟨W3, hW3⟩ : ∃ W, w2.alloc (.cells #[.slice (some ⟨w1.heap.size, 0, none⟩) ws.length ws.length, .bool false] 92) = W := ⟨_, rfl⟩
        have hfr := HFR.out w1
        rw [← HW2.out, hW3] at hfr
        have hb3 : Below w1.heap.size w1 W3 := by rw [← hW3, HW2.out]; exact below_alloc (below_alloc (Below.refl _ _) _) _
        have hsz2 : w2.heap.size = w1.heap.size + 1 := by rw [HW2.out]; simp
        have HB3 := Aside0.mk (below_step HB1.out hb3)
        have HO3 := Aside0.mk (EvAt_out HO1.out hb3)
        have HTK := Aside0.mk hfr
        obtain ⟨g, hg⟩ : ∃ g, w1.heap.size + 1 = g := ⟨_, rfl⟩
        rw [hg] at HTK hsz2
        have hgN : w1.heap.size + 2 = g + 1 := by omega
        rw [hgN] at HTK
        (try rw [hW3])
        (try rw [hsz2])
        have HGE := Aside0.mk (show w1.heap.size ≤ g ∧ w.heap.size ≤ g by have := HB1.out.size; omega)
        clear hW3 hfr hb3 hsz2 hg hgN HFR HSP HW2
        go_upto_region 6 with (go_at_call 27; refine (PE.out g (g + 1) W3 w HTK.out HT.out HB3.out HGE.out.2).mono ?_; rintro e w4 ⟨⟨cs, rfl, hev⟩, ht, hgr⟩; have HEV4 := Aside0.mk hev; obtain ⟨m1, m2, m3, A2, A3, A4, A5, _, _, _, _, rfl, _⟩ := hev; have HT4 := Aside0.mk ht; have HG4 := Aside0.mk hgr; clear ht hgr)
        obtain ⟨W5, hW5⟩ : ∃ W, w4.alloc (.cells #[.int .u8 x.f0, .int .i64 x.f1, .slice A2 x.f2.f0.length x.f2.f0.length, .slice A3 x.f2.f1.length x.f2.f1.length, .slice A4 x.f2.f2.length x.f2.f2.length, .slice A5 x.f3.length x.f3.length] 47) = W := ⟨_, rfl⟩
        obtain ⟨b5, hb5⟩ : ∃ b, w4.heap.size = b := ⟨_, rfl⟩
        have h45 : Below w4.heap.size w4 W5 := by rw [← hW5]; exact below_alloc (Below.refl _ _) _
        have HT5 := Aside0.mk (HT4.out.below h45)
        have HBX := Aside0.mk (show W5.heap[b5]? = some (.cells #[.int .u8 x.f0, .int .i64 x.f1, .slice A2 x.f2.f0.length x.f2.f0.length, .slice A3 x.f2.f1.length x.f2.f1.length, .slice A4 x.f2.f2.length x.f2.f2.length, .slice A5 x.f3.length x.f3.length] 47 (0, 0)) by rw [← hW5, ← hb5]; exact heap_alloc_new _ _)
        have HB5 := Aside0.mk (show Below w.heap.size w W5 from below_then (HB3.out.grown HG4.out HB3.out.size (fun k hk => by injection hk with hk; have := HGE.out; omega)) (by have := HB3.out.size; have := HG4.out.size; omega) h45)
        (try rw [hW5])
        (try rw [hb5])
        have z0 : ∃ A0 c0, W5.cell? ⟨g, 0, none⟩ = some (.slice A0 q.1.length c0) := by obtain ⟨A, c, hb⟩ := (TkSt.cells HT5.out); exact ⟨A, c, (blk_cell hb 0).trans rfl⟩
        obtain ⟨A0, c0, z0⟩ := z0
        have z1 : W5.cell? ⟨g, 1, none⟩ = some (.bool q.2) := by obtain ⟨A, c, hb⟩ := (TkSt.cells HT5.out); exact (blk_cell hb 1).trans rfl
        have H45 := Aside0.mk h45
        clear hW5 hb5 h45
        obtain ⟨q2, hq2⟩ : ∃ b, q.2 = b := ⟨_, rfl⟩
        clear hq2
        go_wp2_with (fail)
        go_ret3
        rw [HRR.out]
        first | exact ⟨⟨none, 0, rfl, OutAt.nil _ _ _ _ HB5.out.size⟩, HB5.out⟩ | exact ⟨⟨none, rfl, 0, OutAt.nil _ _ _ _ HB5.out.size⟩, HB5.out⟩
      · skip
        have HRR := Aside0.mk hRR
        have hl1 : (sc_b p).size ≤ 4294967270 := by have := HS1.out; have e1 : s1.data.toList.length = s1.size := rfl; rw [hpr] at e1; simp at e1; rw [sc_b_size]; omega
        have hwl : (sc_words (sc_b p).data.toList).length ≤ 4294967280 := by have := sc_words_len (sc_b p); omega
        have HFR := Aside0.mk (fun W => TkSt.fresh (sc_b p) W (by omega) hwl)
        have HSP := Aside0.mk (fun W (h : ScTab W) => sc_Split (sc_b p) W (by omega) h)
        obtain ⟨L, hL⟩ : ∃ L, (sc_b p) = L := ⟨_, rfl⟩
        rw [hL] at hl1 hwl HFR HSP
        obtain ⟨ws, hws⟩ : ∃ ws, sc_words L.data.toList = ws := ⟨_, rfl⟩
        rw [hws] at hwl HFR HSP
        obtain ⟨U, hU⟩ : ∃ U, tk_event (ws, false) = U := ⟨_, rfl⟩
        have PE := Aside0.mk (show ∀ g N W W0, TkSt g N (ws, false) W → ScTab W0 → Below W0.heap.size W0 W → W0.heap.size ≤ g → Calls Tryd.prog 27 #[.pointer (some ⟨g, 0, none⟩)] W fun e w' => (∃ cs, e = .returned (.agg cs.toArray) ∧ EvAt w' W.heap.size w'.heap.size U.1 cs) ∧ TkSt g N U.2 w' ∧ W.grownBy w' (some g) from fun g N W W0 h1 h2 h3 h4 => by rw [← hU]; exact script_event.calls g N _ W W0 h1 h2 h3 h4)
        have HCUT := Aside0.mk (fun W h => sc_Cut_some s1 p r W hs1 h h10 hpr)
        rw [hL] at HCUT
        obtain ⟨x, hx⟩ : ∃ x, U.1 = x := ⟨_, rfl⟩
        obtain ⟨q, hq⟩ : ∃ q, U.2 = q := ⟨_, rfl⟩
        rw [hx, hq] at PE
        have HCUT := Aside0.mk (HCUT.out _ HT1.out)
        have hpl : p.length = L.size := by rw [← hL]; rfl
        have hwp : sc_words p = ws := by rw [← hws, ← hL]; rfl
        rw [hwp, hU, hx, hq, hpl] at HRR
        have HRL := Aside0.mk (show (sc_b r).size < s1.size by have e1 : s1.data.toList.length = s1.size := rfl; rw [hpr] at e1; simp at e1; rw [sc_b_size]; omega)
        clear hRR hL hws hU hx hq h10 hpr hpl hwp
        go_upto_region 4 with (go_at_call 41; refine HCUT.out.mono ?_; rintro e w1 ⟨rfl, hz⟩; have HB1 := Aside0.mk (below_step HB.out hz); have HO1 := Aside0.mk (EvAt_out HO.out hz); clear hz)
        go_upto_region 5 with (go_at_call 42; refine (HSP.out _ (HT.out.below HB1.out)).mono ?_; rintro e w2 ⟨rfl, hw2⟩; have HW2 := Aside0.mk hw2; clear hw2)
        obtain ⟨W3, hW3⟩ : ∃ W, w2.alloc (.cells #[.slice (some ⟨w1.heap.size, 0, none⟩) ws.length ws.length, .bool false] 92) = W := ⟨_, rfl⟩
        have hfr := HFR.out w1
        rw [← HW2.out, hW3] at hfr
        have hb3 : Below w1.heap.size w1 W3 := by rw [← hW3, HW2.out]; exact below_alloc (below_alloc (Below.refl _ _) _) _
        have hsz2 : w2.heap.size = w1.heap.size + 1 := by rw [HW2.out]; simp
        have HB3 := Aside0.mk (below_step HB1.out hb3)
        have HO3 := Aside0.mk (EvAt_out HO1.out hb3)
        have HTK := Aside0.mk hfr
        obtain ⟨g, hg⟩ : ∃ g, w1.heap.size + 1 = g := ⟨_, rfl⟩
        rw [hg] at HTK hsz2
        have hgN : w1.heap.size + 2 = g + 1 := by omega
        rw [hgN] at HTK
        (try rw [hW3])
        (try rw [hsz2])
        have HGE := Aside0.mk (show w1.heap.size ≤ g ∧ w.heap.size ≤ g by have := HB1.out.size; omega)
        clear hW3 hfr hb3 hsz2 hg hgN HFR HSP HW2
        go_upto_region 6 with (go_at_call 27; refine (PE.out g (g + 1) W3 w HTK.out HT.out HB3.out HGE.out.2).mono ?_; rintro e w4 ⟨⟨cs, rfl, hev⟩, ht, hgr⟩; have HEV4 := Aside0.mk hev; obtain ⟨m1, m2, m3, A2, A3, A4, A5, _, _, _, _, rfl, _⟩ := hev; have HT4 := Aside0.mk ht; have HG4 := Aside0.mk hgr; clear ht hgr)
        obtain ⟨W5, hW5⟩ : ∃ W, w4.alloc (.cells #[.int .u8 x.f0, .int .i64 x.f1, .slice A2 x.f2.f0.length x.f2.f0.length, .slice A3 x.f2.f1.length x.f2.f1.length, .slice A4 x.f2.f2.length x.f2.f2.length, .slice A5 x.f3.length x.f3.length] 47) = W := ⟨_, rfl⟩
        obtain ⟨b5, hb5⟩ : ∃ b, w4.heap.size = b := ⟨_, rfl⟩
        have h45 : Below w4.heap.size w4 W5 := by rw [← hW5]; exact below_alloc (Below.refl _ _) _
        have HT5 := Aside0.mk (HT4.out.below h45)
        have HBX := Aside0.mk (show W5.heap[b5]? = some (.cells #[.int .u8 x.f0, .int .i64 x.f1, .slice A2 x.f2.f0.length x.f2.f0.length, .slice A3 x.f2.f1.length x.f2.f1.length, .slice A4 x.f2.f2.length x.f2.f2.length, .slice A5 x.f3.length x.f3.length] 47 (0, 0)) by rw [← hW5, ← hb5]; exact heap_alloc_new _ _)
        have HB5 := Aside0.mk (show Below w.heap.size w W5 from below_then (HB3.out.grown HG4.out HB3.out.size (fun k hk => by injection hk with hk; have := HGE.out; omega)) (by have := HB3.out.size; have := HG4.out.size; omega) h45)
        (try rw [hW5])
        (try rw [hb5])
        have z0 : ∃ A0 c0, W5.cell? ⟨g, 0, none⟩ = some (.slice A0 q.1.length c0) := by obtain ⟨A, c, hb⟩ := (TkSt.cells HT5.out); exact ⟨A, c, (blk_cell hb 0).trans rfl⟩
        obtain ⟨A0, c0, z0⟩ := z0
        have z1 : W5.cell? ⟨g, 1, none⟩ = some (.bool q.2) := by obtain ⟨A, c, hb⟩ := (TkSt.cells HT5.out); exact (blk_cell hb 1).trans rfl
        have H45 := Aside0.mk h45
        clear hW5 hb5 h45
        obtain ⟨q1, q2⟩ := q
        simp only at z0 z1 HRR
        cases q2 with
        | true =>
          have HX := Aside0.mk (show R = ([], (i : Int), 5) by rw [HRR.out]; simp)
          go_wp2_with (fail)
          go_ret3
          rw [HX.out]
          first | exact ⟨⟨none, 0, rfl, OutAt.nil _ _ _ _ HB5.out.size⟩, HB5.out⟩ | exact ⟨⟨none, rfl, 0, OutAt.nil _ _ _ _ HB5.out.size⟩, HB5.out⟩
        | false =>
          cases q1 with
          | cons y ys =>
            have HX := Aside0.mk (show R = ([], (i : Int), 5) by rw [HRR.out]; simp)
            simp only [List.length_cons] at z0
            have hpos : ((0 : Int) < (ys.length : Int) + 1) := by omega
            go_wp2_with (fail)
            go_ret3
            rw [HX.out]
            first | exact ⟨⟨none, 0, rfl, OutAt.nil _ _ _ _ HB5.out.size⟩, HB5.out⟩ | exact ⟨⟨none, rfl, 0, OutAt.nil _ _ _ _ HB5.out.size⟩, HB5.out⟩
          | nil =>
            simp only [List.length_nil] at z0
            by_cases hbig : 65536 < L.size
            · have HX := Aside0.mk (show R = ([], (i : Int), 5) by rw [HRR.out, if_pos (.inr (.inr (.inl hbig)))])
              have hbz : (65536 : Int) < (L.size : Int) := by omega
              go_wp2_with (fail)
              go_ret3
              rw [HX.out]
              first | exact ⟨⟨none, 0, rfl, OutAt.nil _ _ _ _ HB5.out.size⟩, HB5.out⟩ | exact ⟨⟨none, rfl, 0, OutAt.nil _ _ _ _ HB5.out.size⟩, HB5.out⟩
            · have hbz : ((65536 : Int) < (L.size : Int)) = False := eq_false (by omega)
              by_cases hmany : 4096 ≤ i
              · have HX := Aside0.mk (show R = ([], (i : Int), 5) by rw [HRR.out, if_pos (.inr (.inr (.inr hmany)))])
                have hmz : (4096 : Int) ≤ (i : Int) := by omega
                go_wp2_with (fail)
                go_ret3
                rw [HX.out]
                first | exact ⟨⟨none, 0, rfl, OutAt.nil _ _ _ _ HB5.out.size⟩, HB5.out⟩ | exact ⟨⟨none, rfl, 0, OutAt.nil _ _ _ _ HB5.out.size⟩, HB5.out⟩
              · have hmz : ((4096 : Int) ≤ (i : Int)) = False := eq_false (by omega)
                have HX := Aside0.mk (show sc_parse tk_event (sc_split 10 (sc_b r).data.toList) (i + 1) (acc ++ [x]) = R by rw [HRR.out, if_neg (by simp; omega)]; rfl)
                have k35 : KeepFB W3 W5 := (KeepFB.of_taker HTK.out HG4.out).trans (KeepFB.of_below H45.out)
                have e35 : KeepE 47 W3 W5 := (KeepE.of_taker HTK.out (by decide) HG4.out).trans (KeepE.of_below H45.out)
                obtain ⟨inner, hi3, ho3, hhi, hseq⟩ := HO3.out
                have HOW := Aside0.mk (own_keepE ho3 e35)
                have HSEQ := Aside0.mk hseq
                have HHI := Aside0.mk hhi
                have HK35 := Aside0.mk k35
                have HXE := Aside0.mk (EvAt.kept HEV4.out (KeepFB.of_below H45.out))
                have hsz6 : w.heap.size ≤ W5.heap.size := HB5.out.size
                have HALL := Aside0.mk (show (acc.length + 1) * 112 ≤ 140737488355328 by have := HAL.out; omega)
                have hwi : IntKind.i64.wrap ((i : Int) + 1) = (i : Int) + 1 := by unfold IntKind.wrap; simp [IntKind.signed, IntKind.bits]; omega
                have y0 : W5.cell? ⟨b5, 0, none⟩ = some (.int .u8 x.f0) := (blk_cell HBX.out 0).trans rfl
                have y1 : W5.cell? ⟨b5, 1, none⟩ = some (.int .i64 x.f1) := (blk_cell HBX.out 1).trans rfl
                have y2 : W5.cell? ⟨b5, 2, none⟩ = some (.slice A2 x.f2.f0.length x.f2.f0.length) := (blk_cell HBX.out 2).trans rfl
                have y3 : W5.cell? ⟨b5, 3, none⟩ = some (.slice A3 x.f2.f1.length x.f2.f1.length) := (blk_cell HBX.out 3).trans rfl
                have y4 : W5.cell? ⟨b5, 4, none⟩ = some (.slice A4 x.f2.f2.length x.f2.f2.length) := (blk_cell HBX.out 4).trans rfl
                have y5 : W5.cell? ⟨b5, 5, none⟩ = some (.slice A5 x.f3.length x.f3.length) := (blk_cell HBX.out 5).trans rfl
                clear ho3 hhi hseq k35 e35
                go_wp2_with (first | ((with_reducible refine gate_builtin (b := .append) (xs := #[.tmp 55, .tmp 57]) rfl ?_); (try (refine gate_guard (by rfl) ?_; dsimp only)); at_builtin; refine print_append_cells (w0 := W5) w.heap.size rfl (.tmp 55) (.tmp 57) 22 47 (.agg #[.int .u8 0, .int .i64 0, .slice none 0 0, .slice none 0 0, .slice none 0 0, .slice none 0 0]) 6 112 rfl Tryd.underlying22 lines_info_Event rfl (by decide) (by decide) _ acc.length inner [.int .u8 x.f0, .int .i64 x.f1, .slice A2 x.f2.f0.length x.f2.f0.length, .slice A3 x.f2.f1.length x.f2.f1.length, .slice A4 x.f2.f2.length x.f2.f2.length, .slice A5 x.f3.length x.f3.length] rfl rfl rfl ?aO HOW.out (Below.refl _ _) hsz6 HALL.out ?_; (case aO => (intro y hy; simp only [List.mem_cons, List.not_mem_nil, or_false] at hy; rcases hy with rfl | rfl | rfl | rfl | rfl | rfl <;> rfl)); intro v6 w6 ho hbl hgr hat; have HO6 := Aside0.mk ho; have HG6 := Aside0.mk hgr; have HB6 := Aside0.mk hbl; clear ho hbl hgr hat))
                go_roundw
                case rel =>
                  have k56 : KeepFB W5 w6 := KeepFB.of_grown HG6.out (fun k hk => by obtain ⟨cells, hc⟩ := own_typed HOW.out k hk; exact ⟨cells, _, hc, by decide, by decide⟩)
                  have hnew := OutAt.pushed (At := EvAt) (T := 47) (fun _ _ _ _ _ _ h k => EvAt.kept h k) HSEQ.out HHI.out HXE.out HG4.out.size H45.out.size HK35.out k56 HG6.out.size HO6.out
                  exact ⟨sc_b r, i + 1, acc ++ [x], rfl, by go_num, by omega, ⟨by have := HS1.out; have := HRL.out; omega⟩, ⟨by have := HAL.out; simp; omega⟩, HX, ⟨hnew⟩, ⟨HB5.out.trans HB6.out⟩⟩
                case measure => simp only [scStr]; exact HRL.out
end Go.Proofs.YtegmbihjjhhpmaaDoor.T
namespace Go.Proofs.YtegmbihjjhhpmaaDoor.T
open Go.RowKit Go.Proofs.YtegmbihjjhhpmaaDoorW.PrintWords Go.Proofs.YtegmbihjjhhpmaaDoorW.PrintLast Go.Proofs.YtegmbihjjhhpmaaDoorW.PrintMore
open Go.Proofs.YtegmbihjjhhpmaaDoor.PSC
set_option linter.unusedVariables false
set_option linter.unusedSimpArgs false
theorem lines_info_Rule : (Tryd.prog.info? 51).map (fun i => (i.zero, i.size, i.bytes)) = some (some (.agg #[.string ⟨#[]⟩, .string ⟨#[]⟩, .int .i64 0, .slice none 0 0, .slice none 0 0, .bool false]), 6, 96) := by kernel_rfl
set_option maxHeartbeats 6400000 in
set_option maxRecDepth 100000 in
theorem script_lines_Rule.calls (s : ByteArray) (w : World) (hs : s.size ≤ 4294967000) (hT : ScTab w) :
    Calls Tryd.prog 32 #[.string s, .func (.func 33) #[] #[]] w fun e w' => (∃ A c, e = .returned (.tuple #[.slice A (sc_parse tk_rule (sc_split 10 s.data.toList) 0 []).1.length (sc_parse tk_rule (sc_split 10 s.data.toList) 0 []).1.length, .int .i64 (sc_parse tk_rule (sc_split 10 s.data.toList) 0 []).2.1, .int .i64 (sc_parse tk_rule (sc_split 10 s.data.toList) 0 []).2.2]) ∧ OutAt RuAt 51 w' w.heap.size (.slice A (sc_parse tk_rule (sc_split 10 s.data.toList) 0 []).1.length c) (sc_parse tk_rule (sc_split 10 s.data.toList) 0 []).1) ∧ Below w.heap.size w w' := by
  have HT := Aside0.mk hT
  obtain ⟨R, hR⟩ : ∃ R, sc_parse tk_rule (sc_split 10 s.data.toList) 0 [] = R := ⟨_, rfl⟩
  rw [hR]
  have HR := Aside0.mk hR
  clear hT hR
  go_enter Tryd.func32, Tryd.ntmps32
  go_wp2_with (fail)
  go_loopw [0, 4, 5] (fun v0 v4 v5 wr => ∃ (s1 : ByteArray) (i : Nat) (acc : List S51), v0 = .string s1 ∧ v5 = .int .i64 (i : Int) ∧ i ≤ 4096 ∧ Aside0 (s1.size ≤ s.size) ∧ Aside0 (acc.length = i) ∧ Aside0 (sc_parse tk_rule (sc_split 10 s1.data.toList) i acc = R) ∧ Aside0 (OutAt RuAt 51 wr w.heap.size v4 acc) ∧ Aside0 (Below w.heap.size w wr)) (fun v0 _ _ _ => (scStr v0).size)
  case atStart => exact ⟨s, 0, [], rfl, rfl, by omega, ⟨Nat.le_refl _⟩, ⟨rfl⟩, HR, ⟨OutAt.nil _ _ _ _ (Nat.le_refl _)⟩, ⟨Below.refl _ _⟩⟩
  case round =>
    obtain ⟨s1, i, acc, rfl, rfl, hi, HS1, HAL, HP, HO, HB⟩ := hrel
    by_cases h0 : s1.data.toList = []
    · have e0 : s1.toList.isEmpty = true := by rw [Lib.toList_data, h0]; rfl
      have HE := Aside0.mk (show (acc, (0 : Int), (0 : Int)) = R by rw [← HP.out, h0, sc_parse_end])
      obtain ⟨A4, c4, rfl, hc4⟩ := HO.out.slice
      have hal : acc.length ≤ 9223372036854775807 := by have := HAL.out; omega
      clear h0
      go_wp2_with (go_at_call 53; refine (clip_rules.calls A4 acc.length c4 _ hc4 hal).mono ?_; rintro e w1 ⟨rfl, rfl⟩)
      go_ret3
      rw [← HE.out]
      first | exact ⟨⟨A4, c4, rfl, HO.out⟩, HB.out⟩ | exact ⟨⟨A4, rfl, c4, HO.out⟩, HB.out⟩
    · have e0 : s1.toList.isEmpty = false := by rw [Lib.toList_data]; simpa using h0
      have hs1 : s1.size ≤ 4294967280 := by have := HS1.out; omega
      have HT1 := Aside0.mk (HT.out.below HB.out)
      have hcase : ((10 : UInt8) ∉ s1.data.toList ∧ R = ([], (i : Int), 5)) ∨ ∃ p r, s1.data.toList = p ++ 10 :: r ∧ (10 : UInt8) ∉ p ∧ R = (if (tk_rule (sc_words p, false)).2.2 = true ∨ (tk_rule (sc_words p, false)).2.1 ≠ [] ∨ 65536 < p.length ∨ 4096 ≤ i then ([], (i : Int), 5) else sc_parse tk_rule (sc_split 10 r) (i + 1) (acc ++ [(tk_rule (sc_words p, false)).1])) := by
        rcases sc_parts 10 s1.data.toList with h | ⟨p, r, e, h⟩
        · exact .inl ⟨h, by rw [← HP.out, sc_split_one 10 _ h, sc_parse_fin _ _ _ _ h0]⟩
        · exact .inr ⟨p, r, e, h, by rw [← HP.out, e, sc_parse_step _ p r i acc h]⟩
      clear h0 HP
      rcases hcase with ⟨h10, hRR⟩ | ⟨p, r, hpr, h10, hRR⟩
      · skip
        have HRR := Aside0.mk hRR
        have hl1 : (s1).size ≤ 4294967270 := by have := HS1.out; omega
        have hwl : (sc_words (s1).data.toList).length ≤ 4294967280 := by have := sc_words_len (s1); omega
        have HFR := Aside0.mk (fun W => TkSt.fresh (s1) W (by omega) hwl)
        have HSP := Aside0.mk (fun W (h : ScTab W) => sc_Split (s1) W (by omega) h)
        skip
        obtain ⟨ws, hws⟩ : ∃ ws, sc_words s1.data.toList = ws := ⟨_, rfl⟩
        rw [hws] at hwl HFR HSP
        obtain ⟨U, hU⟩ : ∃ U, tk_rule (ws, false) = U := ⟨_, rfl⟩
        have PE := Aside0.mk (show ∀ g N W W0, TkSt g N (ws, false) W → ScTab W0 → Below W0.heap.size W0 W → W0.heap.size ≤ g → Calls Tryd.prog 33 #[.pointer (some ⟨g, 0, none⟩)] W fun e w' => (∃ cs, e = .returned (.agg cs.toArray) ∧ RuAt w' W.heap.size w'.heap.size U.1 cs) ∧ TkSt g N U.2 w' ∧ W.grownBy w' (some g) from fun g N W W0 h1 h2 h3 h4 => by rw [← hU]; exact script_rule.calls g N _ W W0 h1 h2 h3 h4)
        have HCUT := Aside0.mk (fun W h => sc_Cut_none s1 W hs1 h h10)
        skip
        obtain ⟨x, hx⟩ : ∃ x, U.1 = x := ⟨_, rfl⟩
        obtain ⟨q, hq⟩ : ∃ q, U.2 = q := ⟨_, rfl⟩
        rw [hx, hq] at PE
        have HCUT := Aside0.mk (HCUT.out _ HT1.out)
        clear hRR hws hU hx hq h10
        go_upto_region 4 with (go_at_call 41; refine HCUT.out.mono ?_; rintro e w1 ⟨rfl, hz⟩; have HB1 := Aside0.mk (below_step HB.out hz); have HO1 := Aside0.mk (RuAt_out HO.out hz); clear hz)
        go_upto_region 5 with (go_at_call 42; refine (HSP.out _ (HT.out.below HB1.out)).mono ?_; rintro e w2 ⟨rfl, hw2⟩; have HW2 := Aside0.mk hw2; clear hw2)
        obtain ⟨W3, hW3⟩ : ∃ W, w2.alloc (.cells #[.slice (some ⟨w1.heap.size, 0, none⟩) ws.length ws.length, .bool false] 92) = W := ⟨_, rfl⟩
        have hfr := HFR.out w1
        rw [← HW2.out, hW3] at hfr
        have hb3 : Below w1.heap.size w1 W3 := by rw [← hW3, HW2.out]; exact below_alloc (below_alloc (Below.refl _ _) _) _
        have hsz2 : w2.heap.size = w1.heap.size + 1 := by rw [HW2.out]; simp
        have HB3 := Aside0.mk (below_step HB1.out hb3)
        have HO3 := Aside0.mk (RuAt_out HO1.out hb3)
        have HTK := Aside0.mk hfr
        obtain ⟨g, hg⟩ : ∃ g, w1.heap.size + 1 = g := ⟨_, rfl⟩
        rw [hg] at HTK hsz2
        have hgN : w1.heap.size + 2 = g + 1 := by omega
        rw [hgN] at HTK
        (try rw [hW3])
        (try rw [hsz2])
        have HGE := Aside0.mk (show w1.heap.size ≤ g ∧ w.heap.size ≤ g by have := HB1.out.size; omega)
        clear hW3 hfr hb3 hsz2 hg hgN HFR HSP HW2
        go_upto_region 6 with (go_at_call 33; refine (PE.out g (g + 1) W3 w HTK.out HT.out HB3.out HGE.out.2).mono ?_; rintro e w4 ⟨⟨cs, rfl, hev⟩, ht, hgr⟩; have HEV4 := Aside0.mk hev; obtain ⟨m1, A3, A4, _, _, rfl, _⟩ := hev; have HT4 := Aside0.mk ht; have HG4 := Aside0.mk hgr; clear ht hgr)
        obtain ⟨W5, hW5⟩ : ∃ W, w4.alloc (.cells #[.string x.f0, .string x.f1, .int .i64 x.f2, .slice A3 x.f3.length x.f3.length, .slice A4 x.f4.length x.f4.length, .bool x.f5] 51) = W := ⟨_, rfl⟩
        obtain ⟨b5, hb5⟩ : ∃ b, w4.heap.size = b := ⟨_, rfl⟩
        have h45 : Below w4.heap.size w4 W5 := by rw [← hW5]; exact below_alloc (Below.refl _ _) _
        have HT5 := Aside0.mk (HT4.out.below h45)
        have HBX := Aside0.mk (show W5.heap[b5]? = some (.cells #[.string x.f0, .string x.f1, .int .i64 x.f2, .slice A3 x.f3.length x.f3.length, .slice A4 x.f4.length x.f4.length, .bool x.f5] 51 (0, 0)) by rw [← hW5, ← hb5]; exact heap_alloc_new _ _)
        have HB5 := Aside0.mk (show Below w.heap.size w W5 from below_then (HB3.out.grown HG4.out HB3.out.size (fun k hk => by injection hk with hk; have := HGE.out; omega)) (by have := HB3.out.size; have := HG4.out.size; omega) h45)
        (try rw [hW5])
        (try rw [hb5])
        have z0 : ∃ A0 c0, W5.cell? ⟨g, 0, none⟩ = some (.slice A0 q.1.length c0) := by obtain ⟨A, c, hb⟩ := (TkSt.cells HT5.out); exact ⟨A, c, (blk_cell hb 0).trans rfl⟩
        obtain ⟨A0, c0, z0⟩ := z0
        have z1 : W5.cell? ⟨g, 1, none⟩ = some (.bool q.2) := by obtain ⟨A, c, hb⟩ := (TkSt.cells HT5.out); exact (blk_cell hb 1).trans rfl
        have H45 := Aside0.mk h45
        clear hW5 hb5 h45
        obtain ⟨q2, hq2⟩ : ∃ b, q.2 = b := ⟨_, rfl⟩
        clear hq2
        go_wp2_with (fail)
        go_ret3
        rw [HRR.out]
        first | exact ⟨⟨none, 0, rfl, OutAt.nil _ _ _ _ HB5.out.size⟩, HB5.out⟩ | exact ⟨⟨none, rfl, 0, OutAt.nil _ _ _ _ HB5.out.size⟩, HB5.out⟩
      · skip
        have HRR := Aside0.mk hRR
        have hl1 : (sc_b p).size ≤ 4294967270 := by have := HS1.out; have e1 : s1.data.toList.length = s1.size := rfl; rw [hpr] at e1; simp at e1; rw [sc_b_size]; omega
        have hwl : (sc_words (sc_b p).data.toList).length ≤ 4294967280 := by have := sc_words_len (sc_b p); omega
        have HFR := Aside0.mk (fun W => TkSt.fresh (sc_b p) W (by omega) hwl)
        have HSP := Aside0.mk (fun W (h : ScTab W) => sc_Split (sc_b p) W (by omega) h)
        obtain ⟨L, hL⟩ : ∃ L, (sc_b p) = L := ⟨_, rfl⟩
        rw [hL] at hl1 hwl HFR HSP
        obtain ⟨ws, hws⟩ : ∃ ws, sc_words L.data.toList = ws := ⟨_, rfl⟩
        rw [hws] at hwl HFR HSP
        obtain ⟨U, hU⟩ : ∃ U, tk_rule (ws, false) = U := ⟨_, rfl⟩
        have PE := Aside0.mk (show ∀ g N W W0, TkSt g N (ws, false) W → ScTab W0 → Below W0.heap.size W0 W → W0.heap.size ≤ g → Calls Tryd.prog 33 #[.pointer (some ⟨g, 0, none⟩)] W fun e w' => (∃ cs, e = .returned (.agg cs.toArray) ∧ RuAt w' W.heap.size w'.heap.size U.1 cs) ∧ TkSt g N U.2 w' ∧ W.grownBy w' (some g) from fun g N W W0 h1 h2 h3 h4 => by rw [← hU]; exact script_rule.calls g N _ W W0 h1 h2 h3 h4)
        have HCUT := Aside0.mk (fun W h => sc_Cut_some s1 p r W hs1 h h10 hpr)
        rw [hL] at HCUT
        obtain ⟨x, hx⟩ : ∃ x, U.1 = x := ⟨_, rfl⟩
        obtain ⟨q, hq⟩ : ∃ q, U.2 = q := ⟨_, rfl⟩
        rw [hx, hq] at PE
        have HCUT := Aside0.mk (HCUT.out _ HT1.out)
        have hpl : p.length = L.size := by rw [← hL]; rfl
        have hwp : sc_words p = ws := by rw [← hws, ← hL]; rfl
        rw [hwp, hU, hx, hq, hpl] at HRR
        have HRL := Aside0.mk (show (sc_b r).size < s1.size by have e1 : s1.data.toList.length = s1.size := rfl; rw [hpr] at e1; simp at e1; rw [sc_b_size]; omega)
        clear hRR hL hws hU hx hq h10 hpr hpl hwp
        go_upto_region 4 with (go_at_call 41; refine HCUT.out.mono ?_; rintro e w1 ⟨rfl, hz⟩; have HB1 := Aside0.mk (below_step HB.out hz); have HO1 := Aside0.mk (RuAt_out HO.out hz); clear hz)
        go_upto_region 5 with (go_at_call 42; refine (HSP.out _ (HT.out.below HB1.out)).mono ?_; rintro e w2 ⟨rfl, hw2⟩; have HW2 := Aside0.mk hw2; clear hw2)
        obtain ⟨W3, hW3⟩ : ∃ W, w2.alloc (.cells #[.slice (some ⟨w1.heap.size, 0, none⟩) ws.length ws.length, .bool false] 92) = W := ⟨_, rfl⟩
        have hfr := HFR.out w1
        rw [← HW2.out, hW3] at hfr
        have hb3 : Below w1.heap.size w1 W3 := by rw [← hW3, HW2.out]; exact below_alloc (below_alloc (Below.refl _ _) _) _
        have hsz2 : w2.heap.size = w1.heap.size + 1 := by rw [HW2.out]; simp
        have HB3 := Aside0.mk (below_step HB1.out hb3)
        have HO3 := Aside0.mk (RuAt_out HO1.out hb3)
        have HTK := Aside0.mk hfr
        obtain ⟨g, hg⟩ : ∃ g, w1.heap.size + 1 = g := ⟨_, rfl⟩
        rw [hg] at HTK hsz2
        have hgN : w1.heap.size + 2 = g + 1 := by omega
        rw [hgN] at HTK
        (try rw [hW3])
        (try rw [hsz2])
        have HGE := Aside0.mk (show w1.heap.size ≤ g ∧ w.heap.size ≤ g by have := HB1.out.size; omega)
        clear hW3 hfr hb3 hsz2 hg hgN HFR HSP HW2
        go_upto_region 6 with (go_at_call 33; refine (PE.out g (g + 1) W3 w HTK.out HT.out HB3.out HGE.out.2).mono ?_; rintro e w4 ⟨⟨cs, rfl, hev⟩, ht, hgr⟩; have HEV4 := Aside0.mk hev; obtain ⟨m1, A3, A4, _, _, rfl, _⟩ := hev; have HT4 := Aside0.mk ht; have HG4 := Aside0.mk hgr; clear ht hgr)
        obtain ⟨W5, hW5⟩ : ∃ W, w4.alloc (.cells #[.string x.f0, .string x.f1, .int .i64 x.f2, .slice A3 x.f3.length x.f3.length, .slice A4 x.f4.length x.f4.length, .bool x.f5] 51) = W := ⟨_, rfl⟩
        obtain ⟨b5, hb5⟩ : ∃ b, w4.heap.size = b := ⟨_, rfl⟩
        have h45 : Below w4.heap.size w4 W5 := by rw [← hW5]; exact below_alloc (Below.refl _ _) _
        have HT5 := Aside0.mk (HT4.out.below h45)
        have HBX := Aside0.mk (show W5.heap[b5]? = some (.cells #[.string x.f0, .string x.f1, .int .i64 x.f2, .slice A3 x.f3.length x.f3.length, .slice A4 x.f4.length x.f4.length, .bool x.f5] 51 (0, 0)) by rw [← hW5, ← hb5]; exact heap_alloc_new _ _)
        have HB5 := Aside0.mk (show Below w.heap.size w W5 from below_then (HB3.out.grown HG4.out HB3.out.size (fun k hk => by injection hk with hk; have := HGE.out; omega)) (by have := HB3.out.size; have := HG4.out.size; omega) h45)
        (try rw [hW5])
        (try rw [hb5])
        have z0 : ∃ A0 c0, W5.cell? ⟨g, 0, none⟩ = some (.slice A0 q.1.length c0) := by obtain ⟨A, c, hb⟩ := (TkSt.cells HT5.out); exact ⟨A, c, (blk_cell hb 0).trans rfl⟩
        obtain ⟨A0, c0, z0⟩ := z0
        have z1 : W5.cell? ⟨g, 1, none⟩ = some (.bool q.2) := by obtain ⟨A, c, hb⟩ := (TkSt.cells HT5.out); exact (blk_cell hb 1).trans rfl
        have H45 := Aside0.mk h45
        clear hW5 hb5 h45
        obtain ⟨q1, q2⟩ := q
        simp only at z0 z1 HRR
        cases q2 with
        | true =>
          have HX := Aside0.mk (show R = ([], (i : Int), 5) by rw [HRR.out]; simp)
          go_wp2_with (fail)
          go_ret3
          rw [HX.out]
          first | exact ⟨⟨none, 0, rfl, OutAt.nil _ _ _ _ HB5.out.size⟩, HB5.out⟩ | exact ⟨⟨none, rfl, 0, OutAt.nil _ _ _ _ HB5.out.size⟩, HB5.out⟩
        | false =>
          cases q1 with
          | cons y ys =>
            have HX := Aside0.mk (show R = ([], (i : Int), 5) by rw [HRR.out]; simp)
            simp only [List.length_cons] at z0
            have hpos : ((0 : Int) < (ys.length : Int) + 1) := by omega
            go_wp2_with (fail)
            go_ret3
            rw [HX.out]
            first | exact ⟨⟨none, 0, rfl, OutAt.nil _ _ _ _ HB5.out.size⟩, HB5.out⟩ | exact ⟨⟨none, rfl, 0, OutAt.nil _ _ _ _ HB5.out.size⟩, HB5.out⟩
          | nil =>
            simp only [List.length_nil] at z0
            by_cases hbig : 65536 < L.size
            · have HX := Aside0.mk (show R = ([], (i : Int), 5) by rw [HRR.out, if_pos (.inr (.inr (.inl hbig)))])
              have hbz : (65536 : Int) < (L.size : Int) := by omega
              go_wp2_with (fail)
              go_ret3
              rw [HX.out]
              first | exact ⟨⟨none, 0, rfl, OutAt.nil _ _ _ _ HB5.out.size⟩, HB5.out⟩ | exact ⟨⟨none, rfl, 0, OutAt.nil _ _ _ _ HB5.out.size⟩, HB5.out⟩
            · have hbz : ((65536 : Int) < (L.size : Int)) = False := eq_false (by omega)
              by_cases hmany : 4096 ≤ i
              · have HX := Aside0.mk (show R = ([], (i : Int), 5) by rw [HRR.out, if_pos (.inr (.inr (.inr hmany)))])
                have hmz : (4096 : Int) ≤ (i : Int) := by omega
                go_wp2_with (fail)
                go_ret3
                rw [HX.out]
                first | exact ⟨⟨none, 0, rfl, OutAt.nil _ _ _ _ HB5.out.size⟩, HB5.out⟩ | exact ⟨⟨none, rfl, 0, OutAt.nil _ _ _ _ HB5.out.size⟩, HB5.out⟩
              · have hmz : ((4096 : Int) ≤ (i : Int)) = False := eq_false (by omega)
                have HX := Aside0.mk (show sc_parse tk_rule (sc_split 10 (sc_b r).data.toList) (i + 1) (acc ++ [x]) = R by rw [HRR.out, if_neg (by simp; omega)]; rfl)
                have k35 : KeepFB W3 W5 := (KeepFB.of_taker HTK.out HG4.out).trans (KeepFB.of_below H45.out)
                have e35 : KeepE 51 W3 W5 := (KeepE.of_taker HTK.out (by decide) HG4.out).trans (KeepE.of_below H45.out)
                obtain ⟨inner, hi3, ho3, hhi, hseq⟩ := HO3.out
                have HOW := Aside0.mk (own_keepE ho3 e35)
                have HSEQ := Aside0.mk hseq
                have HHI := Aside0.mk hhi
                have HK35 := Aside0.mk k35
                have HXE := Aside0.mk (RuAt.kept HEV4.out (KeepFB.of_below H45.out))
                have hsz6 : w.heap.size ≤ W5.heap.size := HB5.out.size
                have HALL := Aside0.mk (show (acc.length + 1) * 96 ≤ 140737488355328 by have := HAL.out; omega)
                have hwi : IntKind.i64.wrap ((i : Int) + 1) = (i : Int) + 1 := by unfold IntKind.wrap; simp [IntKind.signed, IntKind.bits]; omega
                have y0 : W5.cell? ⟨b5, 0, none⟩ = some (.string x.f0) := (blk_cell HBX.out 0).trans rfl
                have y1 : W5.cell? ⟨b5, 1, none⟩ = some (.string x.f1) := (blk_cell HBX.out 1).trans rfl
                have y2 : W5.cell? ⟨b5, 2, none⟩ = some (.int .i64 x.f2) := (blk_cell HBX.out 2).trans rfl
                have y3 : W5.cell? ⟨b5, 3, none⟩ = some (.slice A3 x.f3.length x.f3.length) := (blk_cell HBX.out 3).trans rfl
                have y4 : W5.cell? ⟨b5, 4, none⟩ = some (.slice A4 x.f4.length x.f4.length) := (blk_cell HBX.out 4).trans rfl
                have y5 : W5.cell? ⟨b5, 5, none⟩ = some (.bool x.f5) := (blk_cell HBX.out 5).trans rfl
                clear ho3 hhi hseq k35 e35
                go_wp2_with (first | ((with_reducible refine gate_builtin (b := .append) (xs := #[.tmp 55, .tmp 57]) rfl ?_); (try (refine gate_guard (by rfl) ?_; dsimp only)); at_builtin; refine print_append_cells (w0 := W5) w.heap.size rfl (.tmp 55) (.tmp 57) 33 51 (.agg #[.string ⟨#[]⟩, .string ⟨#[]⟩, .int .i64 0, .slice none 0 0, .slice none 0 0, .bool false]) 6 96 rfl Tryd.underlying33 lines_info_Rule rfl (by decide) (by decide) _ acc.length inner [.string x.f0, .string x.f1, .int .i64 x.f2, .slice A3 x.f3.length x.f3.length, .slice A4 x.f4.length x.f4.length, .bool x.f5] rfl rfl rfl ?aO HOW.out (Below.refl _ _) hsz6 HALL.out ?_; (case aO => (intro y hy; simp only [List.mem_cons, List.not_mem_nil, or_false] at hy; rcases hy with rfl | rfl | rfl | rfl | rfl | rfl <;> rfl)); intro v6 w6 ho hbl hgr hat; have HO6 := Aside0.mk ho; have HG6 := Aside0.mk hgr; have HB6 := Aside0.mk hbl; clear ho hbl hgr hat))
                go_roundw
                case rel =>
                  have k56 : KeepFB W5 w6 := KeepFB.of_grown HG6.out (fun k hk => by obtain ⟨cells, hc⟩ := own_typed HOW.out k hk; exact ⟨cells, _, hc, by decide, by decide⟩)
                  have hnew := OutAt.pushed (At := RuAt) (T := 51) (fun _ _ _ _ _ _ h k => RuAt.kept h k) HSEQ.out HHI.out HXE.out HG4.out.size H45.out.size HK35.out k56 HG6.out.size HO6.out
                  exact ⟨sc_b r, i + 1, acc ++ [x], rfl, by go_num, by omega, ⟨by have := HS1.out; have := HRL.out; omega⟩, ⟨by have := HAL.out; simp; omega⟩, HX, ⟨hnew⟩, ⟨HB5.out.trans HB6.out⟩⟩
                case measure => simp only [scStr]; exact HRL.out
end Go.Proofs.YtegmbihjjhhpmaaDoor.T
namespace Go.Proofs.YtegmbihjjhhpmaaDoor.T
open Go.RowKit Go.Proofs.YtegmbihjjhhpmaaDoorW.PrintWords Go.Proofs.YtegmbihjjhhpmaaDoorW.PrintLast Go.Proofs.YtegmbihjjhhpmaaDoorW.PrintMore
open Go.Proofs.YtegmbihjjhhpmaaDoor.PSC
set_option linter.unusedVariables false
set_option linter.unusedSimpArgs false
/-! ### script.text (made by wip/gen_text.py) -/
/-- A line and its error. -/
def sc_lineR (o : Option ByteArray) : ByteArray × Int := match o with | none => (sc_b [], 1) | some s => (s, 0)
/-- What a call of the closure answers, wherever its argument's rows lie. -/
def LineAtE (caps : Array Value) (f : S47 → Option ByteArray) (x : S47) (w : World) : Prop := ∀ (W : World) (A2 c2 A3 c3 A4 c4 A5 c5), Below w.heap.size w W → (x.f2.f0.length ≤ c2 ∧ k49.C W A2 x.f2.f0.length x.f2.f0 ∧ x.f2.f1.length ≤ c3 ∧ (Kd.int .u8).C W A3 x.f2.f1.length x.f2.f1 ∧ x.f2.f2.length ≤ c4 ∧ k49.C W A4 x.f2.f2.length x.f2.f2 ∧ x.f3.length ≤ c5 ∧ (Kd.int .u8).C W A5 x.f3.length x.f3) → Calls Tryd.prog 18 (#[.agg #[.int .u8 x.f0, .int .i64 x.f1, .slice A2 x.f2.f0.length c2, .slice A3 x.f2.f1.length c3, .slice A4 x.f2.f2.length c4, .slice A5 x.f3.length c5]] ++ caps) W fun e w' => e = .returned (.tuple #[.string (sc_lineR (f x)).1, .int .i64 (sc_lineR (f x)).2]) ∧ Below W.heap.size W w'
theorem sc_takeE (l : List S47) (k : Nat) (h : k < l.length) : l.drop k = rd_T47 l k :: l.drop (k + 1) := by
  rw [List.drop_eq_getElem_cons h]
  simp [rd_T47, List.getElem?_eq_getElem h]
theorem sc_rdE_mem (l : List S47) (k : Nat) (h : k < l.length) : rd_T47 l k ∈ l := by
  simp only [rd_T47, Int.toNat_natCast, List.getD_eq_getElem?_getD, List.getElem?_eq_getElem h, Option.getD_some]
  exact List.getElem_mem h
set_option maxHeartbeats 6400000 in
set_option maxRecDepth 100000 in
theorem script_text_Event.calls (B4 : Nat) (f : S47 → Option ByteArray) (A : Option Addr) (c : Nat) (l : List S47) (w : World) (hr : Kd.C k47 w A l.length l) (hc : l.length ≤ c) (hl : l.length ≤ 1000000) (hf : ∀ x ∈ l, LineAtE #[.pointer (some ⟨B4, 0, none⟩)] f x w) (hfs : ∀ x ∈ l, ∀ s, f x = some s → s.size ≤ 9000000000000) :
    Calls Tryd.prog 25 #[.slice A l.length c, .func (.func 18) #[] #[.pointer (some ⟨B4, 0, none⟩)]] w fun e w' => e = .returned (.tuple #[.string (sc_b (sc_text f l 0 false []).1), .int .i64 (sc_text f l 0 false []).2]) ∧ Below w.heap.size w w' := by
  have HR := Aside0.mk hr
  have HF := Aside0.mk hf
  have HFS := Aside0.mk hfs
  obtain ⟨R, hR⟩ : ∃ R, sc_text f l 0 false [] = R := ⟨_, rfl⟩
  rw [hR]
  have HRR := Aside0.mk hR
  clear hr hf hfs hR
  go_enter Tryd.func25, Tryd.ntmps25
  go_wp2_with (fail)
  go_loopw [7, 14] (fun v7 v14 wr => ∃ (k : Nat) (long : Bool) (o : List UInt8), k ≤ l.length ∧ v14 = .int .i64 (k : Int) ∧ v7 = .bool long ∧ Aside0 (o.length ≤ k * 65537) ∧ Aside0 (sc_text f (l.drop k) k long o = R) ∧ Aside0 (Bld w.heap.size w.heap.size o wr) ∧ Aside0 (Below w.heap.size w wr)) (fun _ v14 _ => l.length - (intOf v14).toNat)
  case atStart => exact ⟨0, false, [], by omega, rfl, rfl, ⟨by simp⟩, HRR, ⟨Bld.new _ _ (Nat.le_refl _)⟩, ⟨below_alloc (Below.refl _ _) _⟩⟩
  case round =>
    obtain ⟨k, long, o, hk, rfl, rfl, HOL, HP, HBD, HB⟩ := hrel
    by_cases hk2 : k < l.length
    · have hdr := sc_takeE l k hk2
      have hmm := sc_rdE_mem l k hk2
      obtain ⟨ad, A2, c2, A3, c3, A4, c4, A5, c5, hAd, y0, y1, y2, y3, y4, y5, RWS⟩ := at_T47 (Kd.C_below HR.out HB.out) (k : Int) (by omega) (by omega)
      subst hAd
      simp only [Int.toNat_natCast] at y0 y1 y2 y3 y4 y5
      obtain ⟨x, hx⟩ : ∃ x, rd_T47 l (k : Int) = x := ⟨_, rfl⟩
      rw [hx] at y0 y1 y2 y3 y4 y5 RWS hdr hmm
      have HRW := Aside0.mk RWS
      have HM := Aside0.mk hmm
      have hkz : (k : Int) < (l.length : Int) := by omega
      have hP := HP.out
      rw [hdr, sc_text] at hP
      clear RWS hmm hx hdr HP
      go_upto_region 6 with (fail)
      obtain ⟨W5, hW5⟩ : ∃ W, wr.alloc (.cells #[.int .u8 x.f0, .int .i64 x.f1, .slice A2 x.f2.f0.length c2, .slice A3 x.f2.f1.length c3, .slice A4 x.f2.f2.length c4, .slice A5 x.f3.length c5] 47) = W := ⟨_, rfl⟩
      obtain ⟨b5, hb5⟩ : ∃ b, wr.heap.size = b := ⟨_, rfl⟩
      have hb : Below wr.heap.size wr W5 := by rw [← hW5]; exact below_alloc (Below.refl _ _) _
      have HBX := Aside0.mk (show W5.heap[b5]? = some (.cells #[.int .u8 x.f0, .int .i64 x.f1, .slice A2 x.f2.f0.length c2, .slice A3 x.f2.f1.length c3, .slice A4 x.f2.f2.length c4, .slice A5 x.f3.length c5] 47 (0, 0)) by rw [← hW5, ← hb5]; exact heap_alloc_new _ _)
      have HB5 := Aside0.mk (below_step HB.out hb)
      have HBD5 := Aside0.mk (HBD.out.below hb)
      have HRW5 := Aside0.mk (show x.f2.f0.length ≤ c2 ∧ k49.C W5 A2 x.f2.f0.length x.f2.f0 ∧ x.f2.f1.length ≤ c3 ∧ (Kd.int .u8).C W5 A3 x.f2.f1.length x.f2.f1 ∧ x.f2.f2.length ≤ c4 ∧ k49.C W5 A4 x.f2.f2.length x.f2.f2 ∧ x.f3.length ≤ c5 ∧ (Kd.int .u8).C W5 A5 x.f3.length x.f3 from (by obtain ⟨a1, a2, a3, a4, a5, a6, a7, a8⟩ := HRW.out; exact ⟨a1, Kd.C_below a2 hb, a3, Kd.C_below a4 hb, a5, Kd.C_below a6 hb, a7, Kd.C_below a8 hb⟩))
      have HCALL := Aside0.mk ((HF.out x HM.out) W5 A2 c2 A3 c3 A4 c4 A5 c5 HB5.out HRW5.out)
      (try rw [hW5])
      (try rw [hb5])
      clear hW5 hb5 hb y0 y1 y2 y3 y4 y5
      have x0 : W5.cell? ⟨b5, 0, none⟩ = some (.int .u8 x.f0) := (blk_cell HBX.out 0).trans rfl
      have x1 : W5.cell? ⟨b5, 1, none⟩ = some (.int .i64 x.f1) := (blk_cell HBX.out 1).trans rfl
      have x2 : W5.cell? ⟨b5, 2, none⟩ = some (.slice A2 x.f2.f0.length c2) := (blk_cell HBX.out 2).trans rfl
      have x3 : W5.cell? ⟨b5, 3, none⟩ = some (.slice A3 x.f2.f1.length c3) := (blk_cell HBX.out 3).trans rfl
      have x4 : W5.cell? ⟨b5, 4, none⟩ = some (.slice A4 x.f2.f2.length c4) := (blk_cell HBX.out 4).trans rfl
      have x5 : W5.cell? ⟨b5, 5, none⟩ = some (.slice A5 x.f3.length c5) := (blk_cell HBX.out 5).trans rfl
      obtain ⟨F, hF⟩ : ∃ F, sc_lineR (f x) = F := ⟨_, rfl⟩
      rw [hF] at HCALL
      have ARM := HCALL
      cases hfx : f x with
      | none =>
        rw [hfx] at hP hF
        have HX := Aside0.mk (show R = ([], 1) from hP.symm)
        have hF1 : F = (sc_b [], 1) := hF.symm
        rw [hF1] at HCALL
        simp only at HCALL
        clear hP hF hF1 hfx ARM
        go_wp2_with (go_at_call 18; refine HCALL.out.mono ?_; rintro e w6 ⟨rfl, hz⟩; have HB6 := Aside0.mk (below_step HB5.out hz); clear hz)
        go_ret2
        rw [HX.out]
        exact ⟨rfl, HB6.out⟩
      | some s =>
        rw [hfx] at hP hF
        have hss := HFS.out x HM.out s hfx
        have hF1 : F = (s, 0) := hF.symm
        rw [hF1] at HCALL
        simp only at hP HCALL
        have HPP := Aside0.mk hP
        have HOL1 := Aside0.mk (show o.length ≤ (k + 1) * 65537 from Nat.le_trans HOL.out (Nat.mul_le_mul_right _ (Nat.le_succ k)))
        clear hP hF hF1 hfx ARM
        cases long with
        | true =>
          have HX := Aside0.mk (show sc_text f (l.drop (k + 1)) (k + 1) true o = R by rw [← HPP.out]; simp)
          go_wp2_with (go_at_call 18; refine HCALL.out.mono ?_; rintro e w6 ⟨rfl, hz⟩; have HB6 := Aside0.mk (below_step HB5.out hz); have HBD6 := Aside0.mk (HBD5.out.below hz); clear hz)
          go_roundw
          case rel => exact ⟨k + 1, true, o, by omega, by go_num, rfl, HOL1, HX, HBD6, HB6⟩
          case measure => simp [intOf]; omega
        | false =>
          by_cases hbig : 65536 < s.size
          · have HX := Aside0.mk (show sc_text f (l.drop (k + 1)) (k + 1) true o = R by rw [← HPP.out, if_pos (.inr (.inl hbig))])
            have hbz : (65536 : Int) < (s.size : Int) := by omega
            go_wp2_with (go_at_call 18; refine HCALL.out.mono ?_; rintro e w6 ⟨rfl, hz⟩; have HB6 := Aside0.mk (below_step HB5.out hz); have HBD6 := Aside0.mk (HBD5.out.below hz); clear hz)
            go_roundw
            case rel => exact ⟨k + 1, true, o, by omega, by go_num, rfl, HOL1, HX, HBD6, HB6⟩
            case measure => simp [intOf]; omega
          · have hbz : ((65536 : Int) < (s.size : Int)) = False := eq_false (by omega)
            by_cases hmany : 4096 ≤ k
            · have HX := Aside0.mk (show sc_text f (l.drop (k + 1)) (k + 1) true o = R by rw [← HPP.out, if_pos (.inr (.inr hmany))])
              have hmz : (4096 : Int) ≤ (k : Int) := by omega
              go_wp2_with (go_at_call 18; refine HCALL.out.mono ?_; rintro e w6 ⟨rfl, hz⟩; have HB6 := Aside0.mk (below_step HB5.out hz); have HBD6 := Aside0.mk (HBD5.out.below hz); clear hz)
              go_roundw
              case rel => exact ⟨k + 1, true, o, by omega, by go_num, rfl, HOL1, HX, HBD6, HB6⟩
              case measure => simp [intOf]; omega
            · have hmz : ((4096 : Int) ≤ (k : Int)) = False := eq_false (by omega)
              have HX := Aside0.mk (show sc_text f (l.drop (k + 1)) (k + 1) false (o ++ s.data.toList ++ [10]) = R by rw [← HPP.out, if_neg (by simp; omega)])
              obtain ⟨y, hy⟩ : ∃ y, s ++ (⟨#[10]⟩ : ByteArray) = y := ⟨_, rfl⟩
              have hys : y.size = s.size + 1 := by rw [← hy, ByteArray.size_append]; rfl
              have hyd : o ++ y.data.toList = o ++ s.data.toList ++ [10] := by rw [← hy]; simp
              have z1 : (9223372036854775807 < s.size + (⟨#[10]⟩ : ByteArray).size) = False := eq_false (by have : (⟨#[10]⟩ : ByteArray).size = 1 := rfl; omega)
              have z2 : (9223372036854775807 < s.size + 1) = False := eq_false (by omega)
              have HYS := Aside0.mk (show y.size ≤ 65537 by omega)
              have HYD := Aside0.mk hyd
              have hok : o.length ≤ 65537000000 := by have := HOL.out; omega
              have HOK := Aside0.mk hok
              have HKL := Aside0.mk (show (o ++ s.data.toList ++ [10]).length ≤ (k + 1) * 65537 by have := HOL.out; have e1 : s.data.toList.length = s.size := rfl; simp only [List.length_append, List.length_cons, List.length_nil, e1]; omega)
              clear hys hyd hok
              go_wp2_with (first | (go_at_call 18; refine HCALL.out.mono ?_; rintro e w6 ⟨rfl, hz⟩; have HB6 := Aside0.mk (below_step HB5.out hz); have HBD6 := Aside0.mk (HBD5.out.below hz); clear hz) | (go_at_call 37; refine (bld_WriteString w.heap.size w.heap.size o _ _ HBD6.out (by have := HYS.out; have := HOK.out; omega) HB6.out.size).mono ?_; rintro e w7 ⟨rfl, hbd, hb2, _⟩; rw [HYD.out] at hbd; have HBD7 := Aside0.mk hbd; have HB7 := Aside0.mk (HB6.out.trans hb2); clear hbd hb2))
              go_roundw
              case rel => exact ⟨k + 1, false, _, by omega, by go_num, rfl, HKL, HX, HBD7, HB7⟩
              case measure => simp [intOf]; omega
    · have hd : l.drop k = [] := List.drop_eq_nil_of_le (by omega)
      have hP := HP.out
      rw [hd, sc_text] at hP
      cases long with
      | true =>
        have HX := Aside0.mk (show R = ([], 3) by rw [← hP]; rfl)
        clear hd hP
        go_wp2_with (fail)
        go_ret2
        rw [HX.out]
        exact ⟨rfl, HB.out⟩
      | false =>
        have HX := Aside0.mk (show R = (o, 0) by rw [← hP]; rfl)
        clear hd hP
        go_wp2_with (go_at_call 38; refine (bld_String w.heap.size w.heap.size o _ HBD.out HB.out.size).mono ?_; rintro e w1 ⟨rfl, h2⟩; have HB1 := Aside0.mk (HB.out.trans h2); clear h2)
        go_ret2
        rw [HX.out]
        exact ⟨rfl, HB1.out⟩
/-- What a call of the closure answers, wherever its argument's rows lie. -/
def LineAtR (caps : Array Value) (f : S51 → Option ByteArray) (x : S51) (w : World) : Prop := ∀ (W : World) (A3 c3 A4 c4), Below w.heap.size w W → (x.f3.length ≤ c3 ∧ k49.C W A3 x.f3.length x.f3 ∧ x.f4.length ≤ c4 ∧ (Kd.int .u8).C W A4 x.f4.length x.f4) → Calls Tryd.prog 31 (#[.agg #[.string x.f0, .string x.f1, .int .i64 x.f2, .slice A3 x.f3.length c3, .slice A4 x.f4.length c4, .bool x.f5]] ++ caps) W fun e w' => e = .returned (.tuple #[.string (sc_lineR (f x)).1, .int .i64 (sc_lineR (f x)).2]) ∧ Below W.heap.size W w'
theorem sc_takeR (l : List S51) (k : Nat) (h : k < l.length) : l.drop k = rd_T51 l k :: l.drop (k + 1) := by
  rw [List.drop_eq_getElem_cons h]
  simp [rd_T51, List.getElem?_eq_getElem h]
theorem sc_rdR_mem (l : List S51) (k : Nat) (h : k < l.length) : rd_T51 l k ∈ l := by
  simp only [rd_T51, Int.toNat_natCast, List.getD_eq_getElem?_getD, List.getElem?_eq_getElem h, Option.getD_some]
  exact List.getElem_mem h
set_option maxHeartbeats 6400000 in
set_option maxRecDepth 100000 in
theorem script_text_Rule.calls (Z4 : Unit) (f : S51 → Option ByteArray) (A : Option Addr) (c : Nat) (l : List S51) (w : World) (hr : Kd.C k51 w A l.length l) (hc : l.length ≤ c) (hl : l.length ≤ 1000000) (hf : ∀ x ∈ l, LineAtR #[] f x w) (hfs : ∀ x ∈ l, ∀ s, f x = some s → s.size ≤ 9000000000000) :
    Calls Tryd.prog 30 #[.slice A l.length c, .func (.func 31) #[] #[]] w fun e w' => e = .returned (.tuple #[.string (sc_b (sc_text f l 0 false []).1), .int .i64 (sc_text f l 0 false []).2]) ∧ Below w.heap.size w w' := by
  have HR := Aside0.mk hr
  have HF := Aside0.mk hf
  have HFS := Aside0.mk hfs
  obtain ⟨R, hR⟩ : ∃ R, sc_text f l 0 false [] = R := ⟨_, rfl⟩
  rw [hR]
  have HRR := Aside0.mk hR
  clear hr hf hfs hR
  go_enter Tryd.func30, Tryd.ntmps30
  go_wp2_with (fail)
  go_loopw [7, 14] (fun v7 v14 wr => ∃ (k : Nat) (long : Bool) (o : List UInt8), k ≤ l.length ∧ v14 = .int .i64 (k : Int) ∧ v7 = .bool long ∧ Aside0 (o.length ≤ k * 65537) ∧ Aside0 (sc_text f (l.drop k) k long o = R) ∧ Aside0 (Bld w.heap.size w.heap.size o wr) ∧ Aside0 (Below w.heap.size w wr)) (fun _ v14 _ => l.length - (intOf v14).toNat)
  case atStart => exact ⟨0, false, [], by omega, rfl, rfl, ⟨by simp⟩, HRR, ⟨Bld.new _ _ (Nat.le_refl _)⟩, ⟨below_alloc (Below.refl _ _) _⟩⟩
  case round =>
    obtain ⟨k, long, o, hk, rfl, rfl, HOL, HP, HBD, HB⟩ := hrel
    by_cases hk2 : k < l.length
    · have hdr := sc_takeR l k hk2
      have hmm := sc_rdR_mem l k hk2
      obtain ⟨ad, A3, c3, A4, c4, hAd, y0, y1, y2, y3, y4, y5, RWS⟩ := at_T51 (Kd.C_below HR.out HB.out) (k : Int) (by omega) (by omega)
      subst hAd
      simp only [Int.toNat_natCast] at y0 y1 y2 y3 y4 y5
      obtain ⟨x, hx⟩ : ∃ x, rd_T51 l (k : Int) = x := ⟨_, rfl⟩
      rw [hx] at y0 y1 y2 y3 y4 y5 RWS hdr hmm
      have HRW := Aside0.mk RWS
      have HM := Aside0.mk hmm
      have hkz : (k : Int) < (l.length : Int) := by omega
      have hP := HP.out
      rw [hdr, sc_text] at hP
      clear RWS hmm hx hdr HP
      go_upto_region 6 with (fail)
      obtain ⟨W5, hW5⟩ : ∃ W, wr.alloc (.cells #[.string x.f0, .string x.f1, .int .i64 x.f2, .slice A3 x.f3.length c3, .slice A4 x.f4.length c4, .bool x.f5] 51) = W := ⟨_, rfl⟩
      obtain ⟨b5, hb5⟩ : ∃ b, wr.heap.size = b := ⟨_, rfl⟩
      have hb : Below wr.heap.size wr W5 := by rw [← hW5]; exact below_alloc (Below.refl _ _) _
      have HBX := Aside0.mk (show W5.heap[b5]? = some (.cells #[.string x.f0, .string x.f1, .int .i64 x.f2, .slice A3 x.f3.length c3, .slice A4 x.f4.length c4, .bool x.f5] 51 (0, 0)) by rw [← hW5, ← hb5]; exact heap_alloc_new _ _)
      have HB5 := Aside0.mk (below_step HB.out hb)
      have HBD5 := Aside0.mk (HBD.out.below hb)
      have HRW5 := Aside0.mk (show x.f3.length ≤ c3 ∧ k49.C W5 A3 x.f3.length x.f3 ∧ x.f4.length ≤ c4 ∧ (Kd.int .u8).C W5 A4 x.f4.length x.f4 from (by obtain ⟨a1, a2, a3, a4⟩ := HRW.out; exact ⟨a1, Kd.C_below a2 hb, a3, Kd.C_below a4 hb⟩))
      have HCALL := Aside0.mk ((HF.out x HM.out) W5 A3 c3 A4 c4 HB5.out HRW5.out)
      (try rw [hW5])
      (try rw [hb5])
      clear hW5 hb5 hb y0 y1 y2 y3 y4 y5
      have x0 : W5.cell? ⟨b5, 0, none⟩ = some (.string x.f0) := (blk_cell HBX.out 0).trans rfl
      have x1 : W5.cell? ⟨b5, 1, none⟩ = some (.string x.f1) := (blk_cell HBX.out 1).trans rfl
      have x2 : W5.cell? ⟨b5, 2, none⟩ = some (.int .i64 x.f2) := (blk_cell HBX.out 2).trans rfl
      have x3 : W5.cell? ⟨b5, 3, none⟩ = some (.slice A3 x.f3.length c3) := (blk_cell HBX.out 3).trans rfl
      have x4 : W5.cell? ⟨b5, 4, none⟩ = some (.slice A4 x.f4.length c4) := (blk_cell HBX.out 4).trans rfl
      have x5 : W5.cell? ⟨b5, 5, none⟩ = some (.bool x.f5) := (blk_cell HBX.out 5).trans rfl
      obtain ⟨F, hF⟩ : ∃ F, sc_lineR (f x) = F := ⟨_, rfl⟩
      rw [hF] at HCALL
      have ARM := HCALL
      cases hfx : f x with
      | none =>
        rw [hfx] at hP hF
        have HX := Aside0.mk (show R = ([], 1) from hP.symm)
        have hF1 : F = (sc_b [], 1) := hF.symm
        rw [hF1] at HCALL
        simp only at HCALL
        clear hP hF hF1 hfx ARM
        go_wp2_with (go_at_call 31; refine HCALL.out.mono ?_; rintro e w6 ⟨rfl, hz⟩; have HB6 := Aside0.mk (below_step HB5.out hz); clear hz)
        go_ret2
        rw [HX.out]
        exact ⟨rfl, HB6.out⟩
      | some s =>
        rw [hfx] at hP hF
        have hss := HFS.out x HM.out s hfx
        have hF1 : F = (s, 0) := hF.symm
        rw [hF1] at HCALL
        simp only at hP HCALL
        have HPP := Aside0.mk hP
        have HOL1 := Aside0.mk (show o.length ≤ (k + 1) * 65537 from Nat.le_trans HOL.out (Nat.mul_le_mul_right _ (Nat.le_succ k)))
        clear hP hF hF1 hfx ARM
        cases long with
        | true =>
          have HX := Aside0.mk (show sc_text f (l.drop (k + 1)) (k + 1) true o = R by rw [← HPP.out]; simp)
          go_wp2_with (go_at_call 31; refine HCALL.out.mono ?_; rintro e w6 ⟨rfl, hz⟩; have HB6 := Aside0.mk (below_step HB5.out hz); have HBD6 := Aside0.mk (HBD5.out.below hz); clear hz)
          go_roundw
          case rel => exact ⟨k + 1, true, o, by omega, by go_num, rfl, HOL1, HX, HBD6, HB6⟩
          case measure => simp [intOf]; omega
        | false =>
          by_cases hbig : 65536 < s.size
          · have HX := Aside0.mk (show sc_text f (l.drop (k + 1)) (k + 1) true o = R by rw [← HPP.out, if_pos (.inr (.inl hbig))])
            have hbz : (65536 : Int) < (s.size : Int) := by omega
            go_wp2_with (go_at_call 31; refine HCALL.out.mono ?_; rintro e w6 ⟨rfl, hz⟩; have HB6 := Aside0.mk (below_step HB5.out hz); have HBD6 := Aside0.mk (HBD5.out.below hz); clear hz)
            go_roundw
            case rel => exact ⟨k + 1, true, o, by omega, by go_num, rfl, HOL1, HX, HBD6, HB6⟩
            case measure => simp [intOf]; omega
          · have hbz : ((65536 : Int) < (s.size : Int)) = False := eq_false (by omega)
            by_cases hmany : 4096 ≤ k
            · have HX := Aside0.mk (show sc_text f (l.drop (k + 1)) (k + 1) true o = R by rw [← HPP.out, if_pos (.inr (.inr hmany))])
              have hmz : (4096 : Int) ≤ (k : Int) := by omega
              go_wp2_with (go_at_call 31; refine HCALL.out.mono ?_; rintro e w6 ⟨rfl, hz⟩; have HB6 := Aside0.mk (below_step HB5.out hz); have HBD6 := Aside0.mk (HBD5.out.below hz); clear hz)
              go_roundw
              case rel => exact ⟨k + 1, true, o, by omega, by go_num, rfl, HOL1, HX, HBD6, HB6⟩
              case measure => simp [intOf]; omega
            · have hmz : ((4096 : Int) ≤ (k : Int)) = False := eq_false (by omega)
              have HX := Aside0.mk (show sc_text f (l.drop (k + 1)) (k + 1) false (o ++ s.data.toList ++ [10]) = R by rw [← HPP.out, if_neg (by simp; omega)])
              obtain ⟨y, hy⟩ : ∃ y, s ++ (⟨#[10]⟩ : ByteArray) = y := ⟨_, rfl⟩
              have hys : y.size = s.size + 1 := by rw [← hy, ByteArray.size_append]; rfl
              have hyd : o ++ y.data.toList = o ++ s.data.toList ++ [10] := by rw [← hy]; simp
              have z1 : (9223372036854775807 < s.size + (⟨#[10]⟩ : ByteArray).size) = False := eq_false (by have : (⟨#[10]⟩ : ByteArray).size = 1 := rfl; omega)
              have z2 : (9223372036854775807 < s.size + 1) = False := eq_false (by omega)
              have HYS := Aside0.mk (show y.size ≤ 65537 by omega)
              have HYD := Aside0.mk hyd
              have hok : o.length ≤ 65537000000 := by have := HOL.out; omega
              have HOK := Aside0.mk hok
              have HKL := Aside0.mk (show (o ++ s.data.toList ++ [10]).length ≤ (k + 1) * 65537 by have := HOL.out; have e1 : s.data.toList.length = s.size := rfl; simp only [List.length_append, List.length_cons, List.length_nil, e1]; omega)
              clear hys hyd hok
              go_wp2_with (first | (go_at_call 31; refine HCALL.out.mono ?_; rintro e w6 ⟨rfl, hz⟩; have HB6 := Aside0.mk (below_step HB5.out hz); have HBD6 := Aside0.mk (HBD5.out.below hz); clear hz) | (go_at_call 37; refine (bld_WriteString w.heap.size w.heap.size o _ _ HBD6.out (by have := HYS.out; have := HOK.out; omega) HB6.out.size).mono ?_; rintro e w7 ⟨rfl, hbd, hb2, _⟩; rw [HYD.out] at hbd; have HBD7 := Aside0.mk hbd; have HB7 := Aside0.mk (HB6.out.trans hb2); clear hbd hb2))
              go_roundw
              case rel => exact ⟨k + 1, false, _, by omega, by go_num, rfl, HKL, HX, HBD7, HB7⟩
              case measure => simp [intOf]; omega
    · have hd : l.drop k = [] := List.drop_eq_nil_of_le (by omega)
      have hP := HP.out
      rw [hd, sc_text] at hP
      cases long with
      | true =>
        have HX := Aside0.mk (show R = ([], 3) by rw [← hP]; rfl)
        clear hd hP
        go_wp2_with (fail)
        go_ret2
        rw [HX.out]
        exact ⟨rfl, HB.out⟩
      | false =>
        have HX := Aside0.mk (show R = (o, 0) by rw [← hP]; rfl)
        clear hd hP
        go_wp2_with (go_at_call 38; refine (bld_String w.heap.size w.heap.size o _ HBD.out HB.out.size).mono ?_; rintro e w1 ⟨rfl, h2⟩; have HB1 := Aside0.mk (HB.out.trans h2); clear h2)
        go_ret2
        rw [HX.out]
        exact ⟨rfl, HB1.out⟩
end Go.Proofs.YtegmbihjjhhpmaaDoor.T
