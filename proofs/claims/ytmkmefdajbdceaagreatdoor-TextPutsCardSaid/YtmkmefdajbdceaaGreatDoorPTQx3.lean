-- Written by wip/mprint.py (the kit's printer, and texts of this claim's own for what it does not take). Not trusted: Lean checks it.
import Derived.Test.YtmkmefdajbdceaaGreatDoorPTQx0
import Derived.Test.YtmkmefdajbdceaaGreatDoorPTQx2
namespace Go.Proofs.YtmkmefdajbdceaaGreatDoor.PTQ
open Go.RowKit Go.Proofs.YtmkmefdajbdceaaGreatDoorW.PrintWords Go.Proofs.YtmkmefdajbdceaaGreatDoorW.PrintLast Go.Proofs.YtmkmefdajbdceaaGreatDoorW.PrintMore
attribute [local go_sem] max2_int min2_int max_two min_two max_three min_three max_four min_four   -- for this text's walks alone
set_option linter.unusedVariables false
set_option linter.unusedSimpArgs false

/-! ### huff_lengths: function 57, by hand -/

/-! ### huff_Len: function 12, by hand -/

/-! ### huff_bits: function 58, by hand -/

/-! ### huff_Put: function 13, by hand -/

/-! ### varint_sevens: function 59, by hand -/

/-! ### varint_PutPrefix: function 14, by hand -/

/-! ### text_Put: function 5, by hand -/

/-! ### mailcoachref11_two: function 15 -/
def mailcoachref11_two.l0 : Nat → Int → Int → Int → Option (Int)
  | 0, _, _, _ => none
  | k + 1, x0, x3, x4 => if x4 < x0 then (mailcoachref11_two.l0 k x0 (wrap64 (2 * x3)) (wrap64 (x4 + 1))) else (some x3)
def mailcoachref11_two.f (k : Nat) (a0 : Int) : Option (Int) := mailcoachref11_two.l0 k a0 1 0
theorem mailcoachref11_two.mono_l : ∀ k, (∀ y0 y1 y2, LeO (mailcoachref11_two.l0 k y0 y1 y2) (mailcoachref11_two.l0 (k + 1) y0 y1 y2))
  | 0 => fun _ _ _ r h => by simp [mailcoachref11_two.l0] at h
  | k + 1 => by
    have ih0 := mailcoachref11_two.mono_l k
    · intro y0 y1 y2
      unfold mailcoachref11_two.l0
      repeat' first
      | (with_reducible exact ih0 _ _ _)
      | (with_reducible exact LeO.refl _)
      | (with_reducible exact LeO.none _)
      | (with_reducible refine LeO.ite ?_ ?_)
      | (with_reducible refine LeO.bind ?_ (fun _ => ?_))
      | exact ih0 _ _ _
      | exact LeO.none _
      | refine LeO.ite ?_ ?_
      | refine LeO.bind ?_ (fun _ => ?_)
theorem mailcoachref11_two.mono : ∀ a0 k, LeO (mailcoachref11_two.f k a0) (mailcoachref11_two.f (k + 1) a0) := by
  intro a0 k
  have ih0 := mailcoachref11_two.mono_l k
  unfold mailcoachref11_two.f
  repeat' first
      | (with_reducible exact ih0 _ _ _)
      | (with_reducible exact LeO.refl _)
      | (with_reducible exact LeO.none _)
      | (with_reducible refine LeO.ite ?_ ?_)
      | (with_reducible refine LeO.bind ?_ (fun _ => ?_))
      | exact ih0 _ _ _
      | exact LeO.none _
      | refine LeO.ite ?_ ?_
      | refine LeO.bind ?_ (fun _ => ?_)
set_option maxHeartbeats 8000000 in
set_option maxRecDepth 100000 in
theorem mailcoachref11_two.calls (k : Nat) (a0 : Int) (r : Int) (w : World) (h : mailcoachref11_two.f k a0 = some r) :
    Calls Tryz.prog 15 #[.int .i64 a0] w fun e w' => e = .returned (.int .i64 r) ∧ Drawn0 w w' := by
  have H : (mailcoachref11_two.l0 k a0 1 0) = some r := h
  clear h
  have H' := Aside0.mk H
  clear H
  go_enter Tryz.func15, Tryz.ntmps15
  go_wp2
  go_loopg [3, 4] k (fun kq v3 v4 w' => ∃ (x3_1 : Int) (x4_1 : Int), v3 = .int .i64 x3_1 ∧ v4 = .int .i64 x4_1 ∧ Aside0 (mailcoachref11_two.l0 kq a0 x3_1 x4_1 = some r) ∧ Aside0 (kq ≤ k) ∧ Drawn0 w w')
  case atStart => exact ⟨(1), (0), (by first | rfl | (simp; done) | (simp [*]; done)), (by first | rfl | (simp; done) | (simp [*]; done)), H', ⟨Nat.le_refl _⟩, by repeat (first | exact Drawn0.refl _ | apply Drawn0.step)⟩
  case round =>
    clear H'
    try clear c1
    obtain ⟨x3_1, x4_1, rfl, rfl, HA, HK1, ⟨m1, rfl⟩⟩ := hrel
    cases gk with
    | zero => exact absurd HA.out (by simp [mailcoachref11_two.l0])
    | succ k1 =>
      have H := HA.out
      clear HA
      simp only [mailcoachref11_two.l0] at H
      by_cases c2 : x4_1 < a0
      · rw [if_pos c2] at H
        have c2b0 : decide (x4_1 < a0) = true := decide_eq_true c2
        clear c2
        have H' := Aside0.mk H
        clear H
        go_wp2
        go_roundg k1
        case measure => have := HK1.out; omega
        case rel => exact ⟨(wrap64 (2 * x3_1)), (wrap64 (x4_1 + 1)), (by first | rfl | (simp; done) | (simp [*]; done)), (by first | rfl | (simp; done) | (simp [*]; done)), H', ⟨by have := HK1.out; omega⟩, by repeat (first | exact Drawn0.refl _ | apply Drawn0.step)⟩
      · rw [if_neg c2] at H
        have c2b0 : decide (x4_1 < a0) = false := decide_eq_false c2
        clear c2
        obtain rfl := Option.some.inj H
        go_wp2
        go_ret
        exact ⟨by first | rfl | (simp; done) | (simp [*]; done), by repeat (first | exact Drawn0.refl _ | apply Drawn0.step)⟩

/-! ### mailcoachref10_Lengths: function 60, by hand -/
def mailcoachref10_Lengths.f : Option (List Int) := some huff_lens
theorem mailcoachref10_Lengths.info : (Tryz.prog.info? 3).map (fun i => (i.zero, i.size)) = some (some (.int .i64 0), 1) := by kernel_rfl
theorem mailcoachref10_Lengths.infoS : (Tryz.prog.info? 3).map (·.size) = some 1 := by
  have h := mailcoachref10_Lengths.info
  cases hi : Tryz.prog.info? 3 with
  | none => rw [hi] at h; cases h
  | some i => rw [hi] at h; simp only [Option.map_some, Option.some.injEq, Prod.mk.injEq] at h; rw [Option.map_some, h.2]
theorem mailcoachref10_Lengths.infoZ : ((Tryz.prog.info? 3).bind (·.zero)).isSome = true := by
  have h := mailcoachref10_Lengths.info
  cases hi : Tryz.prog.info? 3 with
  | none => rw [hi] at h; cases h
  | some i => rw [hi] at h; simp only [Option.map_some, Option.some.injEq, Prod.mk.injEq] at h; rw [Option.bind_some, h.1]; rfl
set_option maxHeartbeats 1600000 in
set_option maxRecDepth 100000 in
theorem mailcoachref10_Lengths.calls (r1 : List Int) (w : World) (h : mailcoachref10_Lengths.f = some r1) :
    Calls Tryz.prog 60 #[] w fun e w' => ∃ v0_ : Value, e = .returned v0_ ∧ Kd.R (Kd.int .i64) 3 w' w.heap.size (fun _ => True) v0_ r1 ∧ Below w.heap.size w w' := by
  obtain rfl : huff_lens = r1 := by simpa [mailcoachref10_Lengths.f] using h
  clear h
  go_enter Tryz.func60, Tryz.ntmps60
  go_upto_region 1 with (fail)
  rename_i Q' K hK
  refine wp_region_list ?_
  refine wpList_buildFlat rfl 45 3 257 _ rfl .i64 huff_lens Tryz.underlying45 mailcoachref10_Lengths.infoS mailcoachref10_Lengths.infoZ huff_lens_length.symm (by decide) (by decide) (by kernel_rfl) ?_
  refine Great.wpList_runTo rfl (some 0) rfl (.slice (some ⟨w.heap.size, 0, none⟩) 257 257) _ rfl ?_
  refine hK _ _ (wp_ret (bodyPost_ret (v := .slice (some ⟨w.heap.size, 0, none⟩) 257 257) ((results_tmp Tryz.results60 _ _ _).trans rfl) rfl ⟨_, rfl, man_R_of_own (n := 257) ?_, below_alloc (Below.refl _ _) _⟩))
  refine ⟨by rw [nums, List.length_map, huff_lens_length], .inr ⟨w.heap.size, 257, _, rfl, Nat.le_refl _, man_alloc_block _ _ _, Nat.le_refl _, by decide, by rw [List.size_toArray, List.length_map, huff_lens_length], ?_⟩⟩
  show (huff_lens.map (Value.int .i64)).take 257 = _
  rw [List.take_of_length_le (by rw [List.length_map, huff_lens_length]; exact Nat.le_refl _)]
  rfl


/-! ### mailcoachref10_Len: function 16 -/
def mailcoachref10_Len.l0 : Nat → ByteArray → List Int → Int → Int → Option (Int)
  | 0, _, _, _, _ => none
  | k + 1, x0, x3, x4, x5 => if x5 < (x0.size : Int) then (if 0 ≤ x5 then (if 0 ≤ (bt x0 x5) then (if (bt x0 x5) < (x3.length : Int) then (mailcoachref10_Len.l0 k x0 x3 (wrap64 (x4 + (rd x3 (bt x0 x5)))) (wrap64 (x5 + 1))) else (none)) else (none)) else (none)) else (some (wrap64 (Int.tdiv (wrap64 (x4 + 7)) 8)))
def mailcoachref10_Len.f (k : Nat) (a0 : ByteArray) : Option (Int) := (mailcoachref10_Lengths.f).bind fun t102 => (mailcoachref10_Len.l0 k a0 t102 0 0)
theorem mailcoachref10_Len.mono_l : ∀ k, (∀ y0 y1 y2 y3, LeO (mailcoachref10_Len.l0 k y0 y1 y2 y3) (mailcoachref10_Len.l0 (k + 1) y0 y1 y2 y3))
  | 0 => fun _ _ _ _ r h => by simp [mailcoachref10_Len.l0] at h
  | k + 1 => by
    have ih0 := mailcoachref10_Len.mono_l k
    · intro y0 y1 y2 y3
      unfold mailcoachref10_Len.l0
      repeat' first
      | (with_reducible exact ih0 _ _ _ _)
      | (with_reducible exact LeO.refl _)
      | (with_reducible exact LeO.none _)
      | (with_reducible refine LeO.ite ?_ ?_)
      | (with_reducible refine LeO.bind ?_ (fun _ => ?_))
      | exact ih0 _ _ _ _
      | exact LeO.none _
      | refine LeO.ite ?_ ?_
      | refine LeO.bind ?_ (fun _ => ?_)
theorem mailcoachref10_Len.mono : ∀ a0 k, LeO (mailcoachref10_Len.f k a0) (mailcoachref10_Len.f (k + 1) a0) := by
  intro a0 k
  have ih0 := mailcoachref10_Len.mono_l k
  unfold mailcoachref10_Len.f
  repeat' first
      | (with_reducible exact ih0 _ _ _ _)
      | (with_reducible exact LeO.refl _)
      | (with_reducible exact LeO.none _)
      | (with_reducible refine LeO.ite ?_ ?_)
      | (with_reducible refine LeO.bind ?_ (fun _ => ?_))
      | exact ih0 _ _ _ _
      | exact LeO.none _
      | refine LeO.ite ?_ ?_
      | refine LeO.bind ?_ (fun _ => ?_)
set_option maxHeartbeats 8000000 in
set_option maxRecDepth 100000 in
theorem mailcoachref10_Len.calls (k : Nat) (a0 : ByteArray) (r : Int) (w : World) (h : mailcoachref10_Len.f k a0 = some r) :
    Calls Tryz.prog 16 #[.string a0] w fun e w' => e = .returned (.int .i64 r) ∧ Below w.heap.size w w' := by
  have HB := Aside0.mk (Below.refl w.heap.size w)
  have H : ((mailcoachref10_Lengths.f).bind fun t102 => (mailcoachref10_Len.l0 k a0 t102 0 0)) = some r := h
  clear h
  replace H := Option.bind_eq_some_iff.mp H
  obtain ⟨t102, A20, H⟩ := H
  replace H : (mailcoachref10_Len.l0 k a0 t102 0 0) = some r := H
  have A2 := Aside0.mk A20
  clear A20
  have H' := Aside0.mk H
  clear H
  go_enter Tryz.func16, Tryz.ntmps16
  go_wp2_with (first | ((with_reducible refine gate_callee (f := 60) rfl ?_); refine goesL_ (some 6) rfl rfl Tryz.func60 (by kernel_rfl) rfl #[] rfl (by (try simp only [List.map_toArray, List.map_cons, List.map_nil]); first | done | rfl | (simp only [List.length_drop, List.length_take]; rfl)) ?_; (with_reducible refine (mailcoachref10_Lengths.calls  t102 _ A2.out).mono ?_); rintro e w3 ⟨v103, rfl, ho0, hb⟩; refine ⟨_, rfl, ?_⟩; have n0_ := Aside0.mk (Kd.R_lower ho0 (below_size (by repeat (first | (with_reducible first | exact HB.out | apply below_alloc | apply pw_below_drewN | apply below_drew1) | exact HB.out)))); have n1_ := Aside0.mk (below_step (by repeat (first | (with_reducible first | exact HB.out | apply below_alloc | apply pw_below_drewN | apply below_drew1) | exact HB.out)) hb); clear HB; have HO104 := n0_; have HB := n1_; clear n0_ n1_; (try clear hb); (try clear hb2); (try clear hk); (try clear hi); (try clear ho0)))
  go_loopg [4, 5] k (fun kq v4 v5 w' => ∃ (x4_1 : Int) (x5_1 : Int), v4 = .int .i64 x4_1 ∧ v5 = .int .i64 x5_1 ∧ Aside0 (mailcoachref10_Len.l0 kq a0 t102 x4_1 x5_1 = some r) ∧ Aside0 (kq ≤ k) ∧ Aside0 (Kd.R (Kd.int .i64) 3 w' w.heap.size (fun _ => True) v103 t102) ∧ Aside0 (Below w.heap.size w w'))
  case atStart => exact ⟨(0), (0), (by first | rfl | (simp; done) | (simp [*]; done)), (by first | rfl | (simp; done) | (simp [*]; done)), H', ⟨Nat.le_refl _⟩, ⟨by (with_reducible repeat (first | apply Kd.R_alloc | apply Kd.R_drewN | apply Kd.R_drew)); exact HO104.out⟩, ⟨by repeat (first | (with_reducible first | exact HB.out | apply below_alloc | apply pw_below_drewN | apply below_drew1) | exact HB.out)⟩⟩
  case round =>
    clear H'
    try clear c1
    try clear p2
    obtain ⟨x4_1, x5_1, rfl, rfl, HA, HK1, HO_3, HB⟩ := hrel
    cases gk with
    | zero => exact absurd HA.out (by simp [mailcoachref10_Len.l0])
    | succ k1 =>
      have H := HA.out
      clear HA
      simp only [mailcoachref10_Len.l0] at H
      by_cases c4 : x5_1 < (a0.size : Int)
      · rw [if_pos c4] at H
        have c4b0 : decide (x5_1 < (a0.size : Int)) = true := decide_eq_true c4
        clear c4
        by_cases c5 : 0 ≤ x5_1
        · rw [if_pos c5] at H
          have c5b0 : decide (0 ≤ x5_1) = true := decide_eq_true c5
          clear c5
          by_cases c7 : 0 ≤ (bt a0 x5_1)
          · rw [if_pos c7] at H
            have c7b0 : decide (0 ≤ (bt a0 x5_1)) = true := decide_eq_true c7
            clear c7
            by_cases c8 : (bt a0 x5_1) < (t102.length : Int)
            · rw [if_pos c8] at H
              have c8b0 : decide ((bt a0 x5_1) < (t102.length : Int)) = true := decide_eq_true c8
              clear c8
              have H' := Aside0.mk H
              clear H
              have p6 : 0 ≤ (x5_1 : Int) := of_decide_eq_true (by first | (with_reducible assumption) | assumption)
              have q6 : x5_1 < (a0.size : Int) := of_decide_eq_true (by first | (with_reducible assumption) | assumption)
              have hx6 := bt_at a0 x5_1
              replace p6 := eq_true p6
              replace q6 := eq_true q6
              obtain ⟨Ao9, co9, eo9⟩ := Kd.R_slice HO_3.out
              subst eo9
              have p105 : 0 ≤ ((bt a0 x5_1) : Int) := of_decide_eq_true (by first | (with_reducible assumption) | assumption)
              have q105 : (bt a0 x5_1) < (t102.length : Int) := of_decide_eq_true (by first | (with_reducible assumption) | assumption)
              obtain ⟨ad105, e105, hx105_0⟩ := Kd.at_int (Kd.R_reads' HO_3.out).2.2 (bt a0 x5_1) p105 q105
              cases e105
              replace p105 := eq_true p105
              replace q105 := eq_true q105
              go_wp2
              go_roundg k1
              case measure => have := HK1.out; omega
              case rel => exact ⟨(wrap64 (x4_1 + (rd t102 (bt a0 x5_1)))), (wrap64 (x5_1 + 1)), (by first | rfl | (simp; done) | (simp [*]; done)), (by first | rfl | (simp; done) | (simp [*]; done)), H', ⟨by have := HK1.out; omega⟩, ⟨by (with_reducible repeat (first | apply Kd.R_alloc | apply Kd.R_drewN | apply Kd.R_drew)); exact HO_3.out⟩, ⟨by repeat (first | (with_reducible first | exact HB.out | apply below_alloc | apply pw_below_drewN | apply below_drew1) | exact HB.out)⟩⟩
            · rw [if_neg c8] at H
              exact absurd H (by simp)
          · rw [if_neg c7] at H
            exact absurd H (by simp)
        · rw [if_neg c5] at H
          exact absurd H (by simp)
      · rw [if_neg c4] at H
        have c4b0 : decide (x5_1 < (a0.size : Int)) = false := decide_eq_false c4
        clear c4
        obtain rfl := Option.some.inj H
        go_wp2
        go_ret
        exact ⟨by first | rfl | (simp [errW_none, errW_some] <;> rfl) | (simp [*, errW_none, errW_some] <;> rfl), by repeat (first | (with_reducible first | exact HB.out | apply below_alloc | apply pw_below_drewN | apply below_drew1) | exact HB.out)⟩

end Go.Proofs.YtmkmefdajbdceaaGreatDoor.PTQ
