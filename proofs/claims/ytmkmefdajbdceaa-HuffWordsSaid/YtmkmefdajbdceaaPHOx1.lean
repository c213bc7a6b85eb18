-- Written by wip/mprint.py (the kit's printer, and texts of this claim's own for what it does not take). Not trusted: Lean checks it.
import Derived.Test.YtmkmefdajbdceaaPHOx0
namespace Go.Proofs.Ytmkmefdajbdceaa.PHO
open Go.RowKit Go.Proofs.YtmkmefdajbdceaaW.PrintWords Go.Proofs.YtmkmefdajbdceaaW.PrintLast Go.Proofs.YtmkmefdajbdceaaW.PrintMore
attribute [local go_sem] max2_int min2_int max_two min_two max_three min_three max_four min_four   -- for this text's walks alone
set_option linter.unusedVariables false
set_option linter.unusedSimpArgs false

/-! ### mailcoachlaw01_Beyond: function 20 -/
def mailcoachlaw01_Beyond.l0 : Nat → List Int → Int → Int → Option (Bool)
  | 0, _, _, _ => none
  | k + 1, x0, x3, x4 => if x4 < (x0.length : Int) then (if 0 ≤ x4 then (if (wrap64 (x3 + (rd x0 x4))) > 1048576 then (some true) else (mailcoachlaw01_Beyond.l0 k x0 (wrap64 (x3 + (rd x0 x4))) (wrap64 (x4 + 1)))) else (none)) else (some false)
def mailcoachlaw01_Beyond.f (k : Nat) (l0 : List Int) : Option (Bool) := mailcoachlaw01_Beyond.l0 k l0 0 0
theorem mailcoachlaw01_Beyond.mono_l : ∀ k, (∀ y0 y1 y2, LeO (mailcoachlaw01_Beyond.l0 k y0 y1 y2) (mailcoachlaw01_Beyond.l0 (k + 1) y0 y1 y2))
  | 0 => fun _ _ _ r h => by simp [mailcoachlaw01_Beyond.l0] at h
  | k + 1 => by
    have ih0 := mailcoachlaw01_Beyond.mono_l k
    · intro y0 y1 y2
      unfold mailcoachlaw01_Beyond.l0
      repeat' first
      | (with_reducible exact ih0 _ _ _)
      | (with_reducible exact LeO.refl _)
      | (with_reducible exact LeO.none _)
      | (with_reducible refine LeO.ite ?_ ?_)
      | (with_reducible refine LeO.bind ?_ (fun _ => ?_))
      | exact ih0 _ _ _
      | exact LeO.none _
      | refine LeO.ite ?_ ?_
      | refine LeO.bind ?_ (fun _ => ?_)
theorem mailcoachlaw01_Beyond.mono : ∀ a0 k, LeO (mailcoachlaw01_Beyond.f k a0) (mailcoachlaw01_Beyond.f (k + 1) a0) := by
  intro a0 k
  have ih0 := mailcoachlaw01_Beyond.mono_l k
  unfold mailcoachlaw01_Beyond.f
  repeat' first
      | (with_reducible exact ih0 _ _ _)
      | (with_reducible exact LeO.refl _)
      | (with_reducible exact LeO.none _)
      | (with_reducible refine LeO.ite ?_ ?_)
      | (with_reducible refine LeO.bind ?_ (fun _ => ?_))
      | exact ih0 _ _ _
      | exact LeO.none _
      | refine LeO.ite ?_ ?_
      | refine LeO.bind ?_ (fun _ => ?_)
set_option maxHeartbeats 8000000 in
set_option maxRecDepth 100000 in
theorem mailcoachlaw01_Beyond.calls (k : Nat) (A0 : Option Addr) (c0 : Nat) (l0 : List Int) (r : Bool) (w : World) (hr0 : Kd.C (Kd.int .i64) w A0 l0.length l0) (hc0 : l0.length ≤ c0) (h : mailcoachlaw01_Beyond.f k l0 = some r) :
    Calls Try.prog 20 #[.slice A0 l0.length c0] w fun e w' => e = .returned (.bool r) ∧ Drawn0 w w' := by
  have HR0 := Aside0.mk hr0
  have HC0 := Aside0.mk hc0
  clear hr0 hc0
  have H : (mailcoachlaw01_Beyond.l0 k l0 0 0) = some r := h
  clear h
  have H' := Aside0.mk H
  clear H
  go_enter Try.func20, Try.ntmps20
  go_wp2
  go_loopg [3, 4] k (fun kq v3 v4 w' => ∃ (x3_1 : Int) (x4_1 : Int), v3 = .int .i64 x3_1 ∧ v4 = .int .i64 x4_1 ∧ Aside0 (mailcoachlaw01_Beyond.l0 kq l0 x3_1 x4_1 = some r) ∧ Aside0 (kq ≤ k) ∧ Drawn0 w w')
  case atStart => exact ⟨(0), (0), (by first | rfl | (simp; done) | (simp [*]; done)), (by first | rfl | (simp; done) | (simp [*]; done)), H', ⟨Nat.le_refl _⟩, by repeat (first | exact Drawn0.refl _ | apply Drawn0.step)⟩
  case round =>
    clear H'
    obtain ⟨x3_1, x4_1, rfl, rfl, HA, HK1, ⟨m1, rfl⟩⟩ := hrel
    cases gk with
    | zero => exact absurd HA.out (by simp [mailcoachlaw01_Beyond.l0])
    | succ k1 =>
      have H := HA.out
      clear HA
      simp only [mailcoachlaw01_Beyond.l0] at H
      by_cases c2 : x4_1 < (l0.length : Int)
      · rw [if_pos c2] at H
        have c2b0 : decide (x4_1 < (l0.length : Int)) = true := decide_eq_true c2
        clear c2
        by_cases c3 : 0 ≤ x4_1
        · rw [if_pos c3] at H
          have c3b0 : decide (0 ≤ x4_1) = true := decide_eq_true c3
          clear c3
          by_cases c4 : (wrap64 (x3_1 + (rd l0 x4_1))) > 1048576
          · rw [if_pos c4] at H
            have c4b0 : decide (1048576 < (wrap64 (x3_1 + (rd l0 x4_1)))) = true := decide_eq_true c4
            clear c4
            obtain rfl := Option.some.inj H
            have p101 : 0 ≤ (x4_1 : Int) := of_decide_eq_true (by first | (with_reducible assumption) | assumption)
            have q101 : x4_1 < (l0.length : Int) := of_decide_eq_true (by first | (with_reducible assumption) | assumption)
            obtain ⟨ad101, e101, hx101_0⟩ := Kd.at_int HR0.out x4_1 p101 q101
            cases e101
            replace p101 := eq_true p101
            replace q101 := eq_true q101
            go_wp2
            go_ret
            exact ⟨by first | rfl | (simp; done) | (simp [*]; done), by repeat (first | exact Drawn0.refl _ | apply Drawn0.step)⟩
          · rw [if_neg c4] at H
            have c4b0 : decide (1048576 < (wrap64 (x3_1 + (rd l0 x4_1)))) = false := decide_eq_false c4
            clear c4
            have H' := Aside0.mk H
            clear H
            have p101 : 0 ≤ (x4_1 : Int) := of_decide_eq_true (by first | (with_reducible assumption) | assumption)
            have q101 : x4_1 < (l0.length : Int) := of_decide_eq_true (by first | (with_reducible assumption) | assumption)
            obtain ⟨ad101, e101, hx101_0⟩ := Kd.at_int HR0.out x4_1 p101 q101
            cases e101
            replace p101 := eq_true p101
            replace q101 := eq_true q101
            go_wp2
            go_roundg k1
            case measure => have := HK1.out; omega
            case rel => exact ⟨(wrap64 (x3_1 + (rd l0 x4_1))), (wrap64 (x4_1 + 1)), (by first | rfl | (simp; done) | (simp [*]; done)), (by first | rfl | (simp; done) | (simp [*]; done)), H', ⟨by have := HK1.out; omega⟩, by repeat (first | exact Drawn0.refl _ | apply Drawn0.step)⟩
        · rw [if_neg c3] at H
          exact absurd H (by simp)
      · rw [if_neg c2] at H
        have c2b0 : decide (x4_1 < (l0.length : Int)) = false := decide_eq_false c2
        clear c2
        obtain rfl := Option.some.inj H
        go_wp2
        go_ret
        exact ⟨by first | rfl | (simp; done) | (simp [*]; done), by repeat (first | exact Drawn0.refl _ | apply Drawn0.step)⟩

/-! ### huff_lengths: function 50, by hand -/
theorem man_info_u8 : (Try.prog.info? 5).map (fun i => (i.zero, i.size, i.bytes)) = some (some (.int .u8 0), 1, 1) := by kernel_rfl
/-- A number's place in a list. -/
theorem man_take_snoc (l : List Int) (k : Nat) (hk : k < l.length) : l.take (k + 1) = l.take k ++ [rd l k] := by
  rw [List.take_succ_eq_append_getElem hk]
  simp [rd, List.getD_eq_getElem?_getD, List.getElem?_eq_getElem hk]
/-- A list of bytes in memory of the call's own, with the mark behind it. -/
def Twin (w : World) (base : Nat) (v : Value) (l : List Int) : Prop :=
  ∃ g cap, v = .slice (some ⟨g, 0, none⟩) l.length cap ∧ w.ownsRow base 5 1 (.slice (some ⟨g, 0, none⟩) (l.length + 1) cap) (l.length + 1) (nums .u8 (l ++ [77]))
theorem Twin.below {w w1 : World} {base : Nat} {v : Value} {l : List Int} (h : Twin w base v l) (hb : Below w.heap.size w w1) : Twin w1 base v l := by
  obtain ⟨g, cap, hv, ho⟩ := h
  exact ⟨g, cap, hv, pw_own_below ho hb⟩
theorem Twin.reads {w : World} {base : Nat} {v : Value} {l : List Int} (h : Twin w base v l) : ∃ A c, v = .slice A l.length c ∧ Kd.C (Kd.int .u8) w A l.length l ∧ l.length + 1 ≤ c ∧ Kd.C (Kd.int .u8) w A (l ++ [77]).length (l ++ [77]) := by
  obtain ⟨g, cap, rfl, ho⟩ := h
  have hr := own_reads' ho
  have hC : Kd.C (Kd.int .u8) w (some ⟨g, 0, none⟩) (l ++ [77]).length (l ++ [77]) := by
    have h := Kd.C_of_reads (enc := Value.int .u8) (d := (0 : Int)) (h1 := fun _ => rfl) hr
    rw [List.length_append]
    exact h
  refine ⟨some ⟨g, 0, none⟩, cap, rfl, ?_, own_cap ho, hC⟩
  have h2 := Kd.C_take (m := l.length) hC (by simp)
  simpa using h2

theorem man_below_setRow {w w1 : World} (h : Below w.heap.size w w1) (g : Nat) (cs : Array Value) (hg : w.heap.size ≤ g) : Below w.heap.size w (w1.setRow g cs) :=
  ⟨h.os, h.tape, h.output, by rw [setRow_size]; exact h.size, fun k hk => by rw [setRow_other _ _ _ _ (by omega)]; exact h.block k hk⟩
theorem man_alloc_block (w : World) (cs : Array Value) (t : TypeId) : (w.alloc (.cells cs t)).heap[w.heap.size]? = some (.cells cs t (0, 0)) := by unfold World.alloc; exact Array.getElem?_push_size
/-- The zero value of a type, out of the table of types. -/
theorem man_zero {P : Program} (t : TypeId) (z : Value) (h : (P.info? t).bind (·.zero) = some z) (w : World) : (zeroValue t).run P w = .ok z w := by
  cases hi : P.info? t with
  | none => simp [hi] at h
  | some i =>
    have hz : i.zero = some z := by simpa [hi] using h
    simp [zeroValue, typeInfo, hi, hz]
theorem man_results_cell {P : Program} {fn : Func} {a : Array Value} {w : World} {s : Tmp} {t : TypeId} {x : Addr} {v : Value} (hr : fn.results = #[.cell s t]) (hs : a.getD s undef = .pointer (some x)) (hl : (loadVar t x).run P w = .ok v w) : (results fn a).run P w = .ok v w := by
  unfold results
  rw [hr]
  simp only [Array.mapM_eq_mapM_toList, List.mapM_cons, List.mapM_nil, hs]
  simp [asAddr, Sem.run_bind, hl]

/-- How many bits each word has. -/
def huff_lens : List Int := [13, 23, 28, 28, 28, 28, 28, 28, 28, 24, 30, 28, 28, 30, 28, 28, 28, 28, 28, 28, 28, 28, 30, 28, 28, 28, 28, 28, 28, 28, 28, 28, 6, 10, 10, 12, 13, 6, 8, 11, 10, 10, 8, 11, 8, 6, 6, 6, 5, 5, 5, 6, 6, 6, 6, 6, 6, 6, 7, 8, 15, 6, 12, 10, 13, 6, 7, 7, 7, 7, 7, 7, 7, 7, 7, 7, 7, 7, 7, 7, 7, 7, 7, 7, 7, 7, 7, 7, 8, 7, 8, 13, 19, 13, 14, 6, 15, 5, 6, 5, 6, 5, 6, 6, 6, 5, 7, 7, 6, 6, 6, 5, 6, 7, 6, 5, 5, 6, 7, 7, 7, 7, 7, 15, 11, 14, 13, 28, 20, 22, 20, 20, 22, 22, 22, 23, 22, 23, 23, 23, 23, 23, 24, 23, 24, 24, 22, 23, 24, 23, 23, 23, 23, 21, 22, 23, 22, 23, 23, 24, 22, 21, 20, 22, 22, 23, 23, 21, 23, 22, 22, 24, 21, 22, 23, 23, 21, 21, 22, 21, 23, 22, 23, 23, 20, 22, 22, 22, 23, 22, 22, 23, 26, 26, 20, 19, 22, 23, 22, 25, 26, 26, 26, 27, 27, 26, 24, 25, 19, 21, 26, 27, 27, 26, 27, 24, 21, 21, 26, 26, 28, 27, 27, 27, 20, 24, 20, 21, 22, 21, 21, 23, 22, 22, 25, 25, 24, 24, 26, 23, 26, 27, 26, 26, 27, 27, 27, 27, 27, 28, 27, 27, 27, 27, 27, 26, 30]
theorem huff_lens_length : huff_lens.length = 257 := by decide +kernel

theorem huff_lengths.info : (Try.prog.info? 81).map (fun i => (i.zero, i.size)) = some (some (.agg (List.replicate 257 (Value.int .u8 0)).toArray), 257) := by kernel_rfl
theorem huff_lengths.info1 : (Try.prog.info? 5).map (·.size) = some 1 := by kernel_rfl
theorem huff_lens_size : (huff_lens.map (Value.int .u8)).toArray.size = 257 := by rw [List.size_toArray, List.length_map, huff_lens_length]
theorem huff_lengths.zero (w : World) : (zeroValue 81).run Try.prog w = .ok (.agg (List.replicate 257 (Value.int .u8 0)).toArray) w := by
  refine man_zero _ _ ?_ w
  have h := huff_lengths.info
  cases hi : Try.prog.info? 81 with
  | none => rw [hi] at h; cases h
  | some i => rw [hi] at h; simp only [Option.map_some, Option.some.injEq, Prod.mk.injEq] at h; exact h.1
theorem huff_lengths.size : (Try.prog.info? 81).map (·.size) = some 257 := by
  have h := huff_lengths.info
  cases hi : Try.prog.info? 81 with
  | none => rw [hi] at h; cases h
  | some i => rw [hi] at h; simp only [Option.map_some, Option.some.injEq, Prod.mk.injEq] at h; rw [Option.map_some, h.2]
theorem huff_lengths.zsize : ((Try.prog.info? 81).bind (·.zero)).map (·.cells.size) = some huff_lens.length := by
  have h := huff_lengths.info
  cases hi : Try.prog.info? 81 with
  | none => rw [hi] at h; cases h
  | some i =>
    rw [hi] at h
    simp only [Option.map_some, Option.some.injEq, Prod.mk.injEq] at h
    rw [Option.bind_some, h.1, Option.map_some, huff_lens_length]
    show some ((List.replicate 257 (Value.int .u8 0)).toArray.size) = _
    rw [List.size_toArray, List.length_replicate]
set_option maxHeartbeats 1600000 in
set_option maxRecDepth 100000 in
theorem huff_lengths.calls (w : World) :
    Calls Try.prog 50 #[] w fun e w' => e = .returned (.agg (huff_lens.map (Value.int .u8)).toArray) ∧ Below w.heap.size w w' := by
  have hz := huff_lengths.zero
  obtain ⟨Z, hZ⟩ : ∃ Z : Array Value, Z = (List.replicate 257 (Value.int .u8 0)).toArray := ⟨_, rfl⟩
  have hZs : Z.size = 257 := by rw [hZ, List.size_toArray, List.length_replicate]
  rw [← hZ] at hz
  clear hZ
  have HZs := Aside0.mk hZs
  have hb0 := man_alloc_block w Z 81
  have HB0 := Aside0.mk hb0
  clear hb0 hZs
  go_enter Try.func50, Try.ntmps50
  go_upto_region 1 with (fail)
  rename_i Q' K hK
  refine wp_region_list ?_
  refine wpList_buildFlatArr rfl 81 5 257 _ rfl .u8 huff_lens Try.underlying81 huff_lengths.info1 huff_lengths.zsize (by kernel_rfl) ?_
  refine wpList_store_row rfl 81 _ _ rfl w.heap.size (huff_lens.map (Value.int .u8)).toArray rfl rfl 81 Z HB0.out (by rw [huff_lens_size]; exact huff_lengths.size) (by rw [huff_lens_size]; exact HZs.out) (by rw [List.all_toArray]; exact List.all_eq_true.2 fun x hx => by obtain ⟨n, _, rfl⟩ := List.mem_map.1 hx; rfl) ?_
  have hb1 := setRow_heap _ w.heap.size _ (huff_lens.map (Value.int .u8)).toArray _ _ HB0.out
  have hl := run_loadVar_row (P := Try.prog) _ w.heap.size 81 81 _ (0, 0) _ hb1 Try.underlying81 rfl (by rw [huff_lens_size]; exact huff_lengths.size)
  have hbe := man_below_setRow (below_alloc (Below.refl w.heap.size w) (.cells Z 81)) w.heap.size (huff_lens.map (Value.int .u8)).toArray (Nat.le_refl _)
  exact hK _ _ (wp_ret (bodyPost_ret (v := .agg (huff_lens.map (Value.int .u8)).toArray) (man_results_cell (Try.results50) rfl hl) rfl ⟨rfl, hbe⟩))


end Go.Proofs.Ytmkmefdajbdceaa.PHO
