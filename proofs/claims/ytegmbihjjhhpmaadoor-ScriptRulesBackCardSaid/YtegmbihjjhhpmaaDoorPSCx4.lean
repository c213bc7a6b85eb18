-- Written by wip/mprint.py (the kit's printer, and texts of this claim's own for what it does not take). Not trusted: Lean checks it.
import Derived.Test.YtegmbihjjhhpmaaDoorPSCx0
import Derived.Test.YtegmbihjjhhpmaaDoorPSCx3
namespace Go.Proofs.YtegmbihjjhhpmaaDoor.PSC
open Go.RowKit Go.Proofs.YtegmbihjjhhpmaaDoorW.PrintWords Go.Proofs.YtegmbihjjhhpmaaDoorW.PrintLast Go.Proofs.YtegmbihjjhhpmaaDoorW.PrintMore
attribute [local go_sem] max2_int min2_int max_two min_two max_three min_three max_four min_four   -- for this text's walks alone
set_option linter.unusedVariables false
set_option linter.unusedSimpArgs false

/-! ### mailcoachlaw01_EventsSize: function 6 -/
def mailcoachlaw01_EventsSize.l0 : Nat → List (S47) → Int → Int → Option (Int)
  | 0, _, _, _ => none
  | k + 1, x0, x3, x4 => if x4 < (x0.length : Int) then (if x3 ≤ 1048576 then (if 0 ≤ x4 then ((mailcoachlaw01_EventSize.f k ((rd_T47 x0 x4).f0) ((rd_T47 x0 x4).f1) ((rd_T47 x0 x4).f2.f0) ((rd_T47 x0 x4).f2.f1) ((rd_T47 x0 x4).f2.f2) ((rd_T47 x0 x4).f3)).bind fun t111 => (mailcoachlaw01_EventsSize.l0 k x0 (wrap64 (x3 + t111)) (wrap64 (x4 + 1)))) else (none)) else (some x3)) else (some x3)
def mailcoachlaw01_EventsSize.f (k : Nat) (l0 : List (S47)) : Option (Int) := mailcoachlaw01_EventsSize.l0 k l0 (l0.length : Int) 0
theorem mailcoachlaw01_EventsSize.mono_l : ∀ k, (∀ y0 y1 y2, LeO (mailcoachlaw01_EventsSize.l0 k y0 y1 y2) (mailcoachlaw01_EventsSize.l0 (k + 1) y0 y1 y2))
  | 0 => fun _ _ _ r h => by simp [mailcoachlaw01_EventsSize.l0] at h
  | k + 1 => by
    have ih0 := mailcoachlaw01_EventsSize.mono_l k
    · intro y0 y1 y2
      unfold mailcoachlaw01_EventsSize.l0
      repeat' first
      | (with_reducible exact ih0 _ _ _)
      | (with_reducible exact mailcoachlaw01_EventSize.mono _ _ _ _ _ _ _)
      | (with_reducible exact LeO.refl _)
      | (with_reducible exact LeO.none _)
      | (with_reducible refine LeO.ite ?_ ?_)
      | (with_reducible refine LeO.bind ?_ (fun _ => ?_))
      | exact ih0 _ _ _
      | exact mailcoachlaw01_EventSize.mono _ _ _ _ _ _ _
      | exact LeO.none _
      | refine LeO.ite ?_ ?_
      | refine LeO.bind ?_ (fun _ => ?_)
theorem mailcoachlaw01_EventsSize.mono : ∀ a0 k, LeO (mailcoachlaw01_EventsSize.f k a0) (mailcoachlaw01_EventsSize.f (k + 1) a0) := by
  intro a0 k
  have ih0 := mailcoachlaw01_EventsSize.mono_l k
  unfold mailcoachlaw01_EventsSize.f
  repeat' first
      | (with_reducible exact ih0 _ _ _)
      | (with_reducible exact mailcoachlaw01_EventSize.mono _ _ _ _ _ _ _)
      | (with_reducible exact LeO.refl _)
      | (with_reducible exact LeO.none _)
      | (with_reducible refine LeO.ite ?_ ?_)
      | (with_reducible refine LeO.bind ?_ (fun _ => ?_))
      | exact ih0 _ _ _
      | exact mailcoachlaw01_EventSize.mono _ _ _ _ _ _ _
      | exact LeO.none _
      | refine LeO.ite ?_ ?_
      | refine LeO.bind ?_ (fun _ => ?_)
set_option maxHeartbeats 8000000 in
set_option maxRecDepth 100000 in
theorem mailcoachlaw01_EventsSize.calls (k : Nat) (A0 : Option Addr) (c0 : Nat) (l0 : List (S47)) (r : Int) (w : World) (hr0 : Kd.C k47 w A0 l0.length l0) (hc0 : l0.length ≤ c0) (h : mailcoachlaw01_EventsSize.f k l0 = some r) :
    Calls Tryd.prog 6 #[.slice A0 l0.length c0] w fun e w' => e = .returned (.int .i64 r) ∧ Below w.heap.size w w' := by
  have hu47 := Tryd.underlying47
  have HR0 := Aside0.mk hr0
  have HC0 := Aside0.mk hc0
  clear hr0 hc0
  have HB := Aside0.mk (Below.refl w.heap.size w)
  have H : (mailcoachlaw01_EventsSize.l0 k l0 (l0.length : Int) 0) = some r := h
  clear h
  have H' := Aside0.mk H
  clear H
  go_enter Tryd.func6, Tryd.ntmps6
  go_wp2
  go_loopg [3, 4] k (fun kq v3 v4 w' => ∃ (x3_1 : Int) (x4_1 : Int), v3 = .int .i64 x3_1 ∧ v4 = .int .i64 x4_1 ∧ Aside0 (mailcoachlaw01_EventsSize.l0 kq l0 x3_1 x4_1 = some r) ∧ Aside0 (kq ≤ k) ∧ Aside0 (Below w.heap.size w w'))
  case atStart => exact ⟨((l0.length : Int)), (0), (by first | rfl | (simp; done) | (simp [*]; done)), (by first | rfl | (simp; done) | (simp [*]; done)), H', ⟨Nat.le_refl _⟩, ⟨by repeat (first | (with_reducible first | exact HB.out | apply below_alloc | apply pw_below_drewN | apply below_drew1) | exact HB.out)⟩⟩
  case round =>
    clear H'
    obtain ⟨x3_1, x4_1, rfl, rfl, HA, HK1, HB⟩ := hrel
    cases gk with
    | zero => exact absurd HA.out (by simp [mailcoachlaw01_EventsSize.l0])
    | succ k1 =>
      have H := HA.out
      clear HA
      simp only [mailcoachlaw01_EventsSize.l0] at H
      by_cases c2 : x4_1 < (l0.length : Int)
      · rw [if_pos c2] at H
        have c2b0 : decide (x4_1 < (l0.length : Int)) = true := decide_eq_true c2
        clear c2
        by_cases c3 : x3_1 ≤ 1048576
        · rw [if_pos c3] at H
          have c3b0 : decide (x3_1 ≤ 1048576) = true := decide_eq_true c3
          clear c3
          by_cases c4 : 0 ≤ x4_1
          · rw [if_pos c4] at H
            have c4b0 : decide (0 ≤ x4_1) = true := decide_eq_true c4
            clear c4
            replace H := Option.bind_eq_some_iff.mp H
            obtain ⟨t111, A50, H⟩ := H
            replace H : (mailcoachlaw01_EventsSize.l0 k1 l0 (wrap64 (x3_1 + t111)) (wrap64 (x4_1 + 1))) = some r := H
            have A5 := Aside0.mk A50
            clear A50
            have H' := Aside0.mk H
            clear H
            have p110 : 0 ≤ (x4_1 : Int) := of_decide_eq_true (by first | (with_reducible assumption) | assumption)
            have q110 : x4_1 < (l0.length : Int) := of_decide_eq_true (by first | (with_reducible assumption) | assumption)
            obtain ⟨ad110, A110_2, c110_2, A110_3, c110_3, A110_4, c110_4, A110_5, c110_5, e110, hx110_0, hx110_1, hx110_2, hx110_3, hx110_4, hx110_5, hl110_2, hi110_2, hl110_3, hi110_3, hl110_4, hi110_4, hl110_5, hi110_5⟩ := at_T47 HR0.out x4_1 p110 q110
            cases e110
            replace hx110_0 := (HB.out.cell (World.block_lt_of_cell? w _ hx110_0)).trans hx110_0
            replace hx110_1 := (HB.out.cell (World.block_lt_of_cell? w _ hx110_1)).trans hx110_1
            replace hx110_2 := (HB.out.cell (World.block_lt_of_cell? w _ hx110_2)).trans hx110_2
            replace hx110_3 := (HB.out.cell (World.block_lt_of_cell? w _ hx110_3)).trans hx110_3
            replace hx110_4 := (HB.out.cell (World.block_lt_of_cell? w _ hx110_4)).trans hx110_4
            replace hx110_5 := (HB.out.cell (World.block_lt_of_cell? w _ hx110_5)).trans hx110_5
            have HR110_2 := Aside0.mk hi110_2
            have HC110_2 := Aside0.mk hl110_2
            clear hi110_2 hl110_2
            have HR110_3 := Aside0.mk hi110_3
            have HC110_3 := Aside0.mk hl110_3
            clear hi110_3 hl110_3
            have HR110_4 := Aside0.mk hi110_4
            have HC110_4 := Aside0.mk hl110_4
            clear hi110_4 hl110_4
            have HR110_5 := Aside0.mk hi110_5
            have HC110_5 := Aside0.mk hl110_5
            clear hi110_5 hl110_5
            replace p110 := eq_true p110
            replace q110 := eq_true q110
            go_wp2_with (first | ((with_reducible refine gate_callee (f := 16) rfl ?_); refine goesL_ (some 22) rfl rfl Tryd.func16 (by kernel_rfl) rfl #[.agg #[.int .u8 ((rd_T47 l0 x4_1).f0), .int .i64 ((rd_T47 l0 x4_1).f1), .slice A110_2 ((rd_T47 l0 x4_1).f2.f0).length c110_2, .slice A110_3 ((rd_T47 l0 x4_1).f2.f1).length c110_3, .slice A110_4 ((rd_T47 l0 x4_1).f2.f2).length c110_4, .slice A110_5 ((rd_T47 l0 x4_1).f3).length c110_5]] rfl (by (try simp only [List.map_toArray, List.map_cons, List.map_nil]); first | done | rfl | (simp only [List.length_drop, List.length_take]; rfl)) ?_; (with_reducible refine (mailcoachlaw01_EventSize.calls k1 ((rd_T47 l0 x4_1).f0) ((rd_T47 l0 x4_1).f1) _ _ ((rd_T47 l0 x4_1).f2.f0) _ _ ((rd_T47 l0 x4_1).f2.f1) _ _ ((rd_T47 l0 x4_1).f2.f2) _ _ ((rd_T47 l0 x4_1).f3) t111 _ ?side1 ?side2 ?side3 ?side4 ?side5 ?side6 ?side7 ?side8 A5.out).mono ?_); (case side1 => repeat (first | exact (Kd.C_below HR110_2.out HB.out) | (with_reducible refine Kd.C_alloc ?_ _) | (with_reducible refine Kd.C_drewN ?_ _) | (with_reducible refine Kd.C_drew ?_))); (case side2 => exact HC110_2.out); (case side3 => repeat (first | exact (Kd.C_below HR110_3.out HB.out) | (with_reducible refine Kd.C_alloc ?_ _) | (with_reducible refine Kd.C_drewN ?_ _) | (with_reducible refine Kd.C_drew ?_))); (case side4 => exact HC110_3.out); (case side5 => repeat (first | exact (Kd.C_below HR110_4.out HB.out) | (with_reducible refine Kd.C_alloc ?_ _) | (with_reducible refine Kd.C_drewN ?_ _) | (with_reducible refine Kd.C_drew ?_))); (case side6 => exact HC110_4.out); (case side7 => repeat (first | exact (Kd.C_below HR110_5.out HB.out) | (with_reducible refine Kd.C_alloc ?_ _) | (with_reducible refine Kd.C_drewN ?_ _) | (with_reducible refine Kd.C_drew ?_))); (case side8 => exact HC110_5.out); rintro e w6 ⟨rfl, hb⟩; refine ⟨_, rfl, ?_⟩; have n0_ := Aside0.mk (below_step (by repeat (first | (with_reducible first | exact HB.out | apply below_alloc | apply pw_below_drewN | apply below_drew1) | exact HB.out)) hb); clear HB; have HB := n0_; clear n0_; (try clear hb); (try clear hb2); (try clear hk); (try clear hi)))
            go_roundg k1
            case measure => have := HK1.out; omega
            case rel => exact ⟨(wrap64 (x3_1 + t111)), (wrap64 (x4_1 + 1)), (by first | rfl | (simp; done) | (simp [*]; done)), (by first | rfl | (simp; done) | (simp [*]; done)), H', ⟨by have := HK1.out; omega⟩, ⟨by repeat (first | (with_reducible first | exact HB.out | apply below_alloc | apply pw_below_drewN | apply below_drew1) | exact HB.out)⟩⟩
          · rw [if_neg c4] at H
            exact absurd H (by simp)
        · rw [if_neg c3] at H
          have c3b0 : decide (x3_1 ≤ 1048576) = false := decide_eq_false c3
          clear c3
          obtain rfl := Option.some.inj H
          go_wp2
          go_ret
          exact ⟨by first | rfl | (simp [errW_none, errW_some] <;> rfl) | (simp [*, errW_none, errW_some] <;> rfl), by repeat (first | (with_reducible first | exact HB.out | apply below_alloc | apply pw_below_drewN | apply below_drew1) | exact HB.out)⟩
      · rw [if_neg c2] at H
        have c2b0 : decide (x4_1 < (l0.length : Int)) = false := decide_eq_false c2
        clear c2
        obtain rfl := Option.some.inj H
        go_wp2
        go_ret
        exact ⟨by first | rfl | (simp [errW_none, errW_some] <;> rfl) | (simp [*, errW_none, errW_some] <;> rfl), by repeat (first | (with_reducible first | exact HB.out | apply below_alloc | apply pw_below_drewN | apply below_drew1) | exact HB.out)⟩

-- NOT PRINTED: function 17 (script_rows)

-- NOT PRINTED: function 64 (abi_NoEscape)

/-! ### strings_Builder_copyCheck: function 56, by hand -/
/- not reached by a run: nothing is said of it -/


/-! ### strings_Builder_WriteString: function 37, by hand -/

/-! ### strings_Builder_String: function 38, by hand -/

-- NOT PRINTED: function 25 (api_Event_25)

-- NOT PRINTED: function 8 (script_Text)

-- NOT PRINTED: function 92 (bytealg_IndexByteString)

/-! ### stringslite_IndexByte: function 75, by hand -/

-- NOT PRINTED: function 81 (bytealg_IndexString)

/-! ### bytealg_Cutover: function 82, by hand -/

/-! ### bytealg_hashStr_string: function 95, by hand -/

/-! ### bytealg_IndexRabinKarp_string: function 83, by hand -/

/-! ### stringslite_Index: function 69, by hand -/

/-! ### stringslite_Cut: function 58, by hand -/

/-! ### strings_Cut: function 41, by hand -/

-- NOT PRINTED: function 84 (utf8_RuneCountInString)

-- NOT PRINTED: function 96 (utf8_decodeRuneInStringSlow)

/-! ### utf8_DecodeRuneInString: function 85, by hand -/

/-! ### strings_explode: function 70, by hand -/

/-! ### strings_Index: function 72, by hand -/

-- NOT PRINTED: function 86 (bytealg_CountString)

/-! ### strings_Count: function 71, by hand -/

/-! ### strings_genSplit: function 59, by hand -/

/-! ### strings_Split: function 42, by hand -/

-- NOT PRINTED: function 43 (api_Event_43)

-- NOT PRINTED: function 26 (api_Event_26)

-- NOT PRINTED: function 44 (script_taker_word)

/-! ### strings_IndexByte: function 63, by hand -/

-- NOT PRINTED: function 49 (script_taker_hex)

-- NOT PRINTED: function 54 (script_taker_is)

-- NOT PRINTED: function 60 (api_Field)

-- NOT PRINTED: function 45 (script_taker_fields)

-- NOT PRINTED: function 48 (slices_Clip_byte_byte)

-- NOT PRINTED: function 46 (script_taker_body)

/-! ### strconv_lower: function 97, by hand -/

/-! ### strconv_underscoreOK: function 98, by hand -/

/-! ### strconv_ParseUint: function 87, by hand -/

/-! ### strconv_ParseInt_73: function 73, by hand -/

/-! ### stringslite_Clone: function 99, by hand -/

-- NOT PRINTED: function 88 (strconv_syntaxError)

-- NOT PRINTED: function 89 (strconv_rangeError)

/-! ### strconv_small: function 65, by hand -/

/-! ### strconv_log10Pow2: function 76, by hand -/

/-! ### bits_Len64: function 77, by hand -/

/-! ### strconv_bool2_int: function 78, by hand -/

/-! ### strconv_numDigits: function 66, by hand -/

/-! ### strconv_formatBase10: function 67, by hand -/

/-! ### strconv_isPowerOfTwo: function 79, by hand -/

/-! ### bits_TrailingZeros32: function 93, by hand -/

/-! ### bits_TrailingZeros64: function 94, by hand -/

/-! ### bits_TrailingZeros: function 80, by hand -/

/-! ### strconv_formatBits: function 68, by hand -/

/-! ### strconv_FormatInt_57: function 57, by hand -/

/-! ### strconv_Itoa_39: function 39, by hand -/

/-! ### strconv_Itoa_23: function 23, by hand -/

-- NOT PRINTED: function 100 (errors_New)

-- NOT PRINTED: function 90 (strconv_baseError)

-- NOT PRINTED: function 91 (strconv_bitSizeError)

-- NOT PRINTED: function 74 (strconv_toError)

/-! ### strconv_ParseInt_61: function 61, by hand -/

/-! ### strconv_FormatInt_62: function 62, by hand -/

-- NOT PRINTED: function 47 (script_taker_number)

-- NOT PRINTED: function 27 (script_event)

-- NOT PRINTED: function 9 (script_Parse)

-- NOT PRINTED: function 53 (api_Rule_53)

-- NOT PRINTED: function 32 (api_Rule_32)

-- NOT PRINTED: function 33 (script_rule)

-- NOT PRINTED: function 14 (script_Rules)

-- NOT PRINTED: function 7 (mailcoachlaw26_lives)

end Go.Proofs.YtegmbihjjhhpmaaDoor.PSC
