-- Written by wip/mprint.py (the kit's printer, and texts of this claim's own for what it does not take). Not trusted: Lean checks it.
import Derived.Test.YtmkmefdajbdceaaPVGx0
namespace Go.Proofs.Ytmkmefdajbdceaa.PVG
open Go.RowKit Go.Proofs.YtmkmefdajbdceaaW.PrintWords Go.Proofs.YtmkmefdajbdceaaW.PrintLast Go.Proofs.YtmkmefdajbdceaaW.PrintMore
attribute [local go_sem] max2_int min2_int max_two min_two max_three min_three max_four min_four   -- for this text's walks alone
set_option linter.unusedVariables false
set_option linter.unusedSimpArgs false

/-! ### mailcoachlaw01_Beyond: function 20 -/
def mailcoachlaw01_Beyond.l0 : Nat → List Int → Int → Int → Option (Bool)
  | 0, _, _, _ => none
  | k + 1, x0, x3, x4 => if x4 < (x0.length : Int) then (if 0 ≤ x4 then (if (wrap64 (x3 + (rd x0 x4))) > 1048576 then (some true) else (mailcoachlaw01_Beyond.l0 k x0 (wrap64 (x3 + (rd x0 x4))) (wrap64 (x4 + 1)))) else (none)) else (some false)
def mailcoachlaw01_Beyond.f (k : Nat) (l0 : List Int) : Option (Bool) := mailcoachlaw01_Beyond.l0 k l0 0 0
theorem mailcoachlaw01_Beyond.mono_l : ∀ k, (∀ y0 y1 y2, LeO (mailcoachlaw01_Beyond.l0 k y0 y1 y2) (mailcoachlaw01_Beyond.l0 (k + 1) y0 y1 y2))
  | 0 => fun _ _ _ r h => by simp [mailcoachlaw01_Beyond.l0] at h
  | k + 1 => by
    have ih0 := mailcoachlaw01_Beyond.mono_l k
    · intro y0 y1 y2
      unfold mailcoachlaw01_Beyond.l0
      repeat' first
      | (with_reducible exact ih0 _ _ _)
      | (with_reducible exact LeO.refl _)
      | (with_reducible exact LeO.none _)
      | (with_reducible refine LeO.ite ?_ ?_)
      | (with_reducible refine LeO.bind ?_ (fun _ => ?_))
      | exact ih0 _ _ _
      | exact LeO.none _
      | refine LeO.ite ?_ ?_
      | refine LeO.bind ?_ (fun _ => ?_)
theorem mailcoachlaw01_Beyond.mono : ∀ a0 k, LeO (mailcoachlaw01_Beyond.f k a0) (mailcoachlaw01_Beyond.f (k + 1) a0) := by
  intro a0 k
  have ih0 := mailcoachlaw01_Beyond.mono_l k
  unfold mailcoachlaw01_Beyond.f
  repeat' first
      | (with_reducible exact ih0 _ _ _)
      | (with_reducible exact LeO.refl _)
      | (with_reducible exact LeO.none _)
      | (with_reducible refine LeO.ite ?_ ?_)
      | (with_reducible refine LeO.bind ?_ (fun _ => ?_))
      | exact ih0 _ _ _
      | exact LeO.none _
      | refine LeO.ite ?_ ?_
      | refine LeO.bind ?_ (fun _ => ?_)
set_option maxHeartbeats 8000000 in
set_option maxRecDepth 100000 in
theorem mailcoachlaw01_Beyond.calls (k : Nat) (A0 : Option Addr) (c0 : Nat) (l0 : List Int) (r : Bool) (w : World) (hr0 : Kd.C (Kd.int .i64) w A0 l0.length l0) (hc0 : l0.length ≤ c0) (h : mailcoachlaw01_Beyond.f k l0 = some r) :
    Calls Try.prog 20 #[.slice A0 l0.length c0] w fun e w' => e = .returned (.bool r) ∧ Drawn0 w w' := by
  have HR0 := Aside0.mk hr0
  have HC0 := Aside0.mk hc0
  clear hr0 hc0
  have H : (mailcoachlaw01_Beyond.l0 k l0 0 0) = some r := h
  clear h
  have H' := Aside0.mk H
  clear H
  go_enter Try.func20, Try.ntmps20
  go_wp2
  go_loopg [3, 4] k (fun kq v3 v4 w' => ∃ (x3_1 : Int) (x4_1 : Int), v3 = .int .i64 x3_1 ∧ v4 = .int .i64 x4_1 ∧ Aside0 (mailcoachlaw01_Beyond.l0 kq l0 x3_1 x4_1 = some r) ∧ Aside0 (kq ≤ k) ∧ Drawn0 w w')
  case atStart => exact ⟨(0), (0), (by first | rfl | (simp; done) | (simp [*]; done)), (by first | rfl | (simp; done) | (simp [*]; done)), H', ⟨Nat.le_refl _⟩, by repeat (first | exact Drawn0.refl _ | apply Drawn0.step)⟩
  case round =>
    clear H'
    obtain ⟨x3_1, x4_1, rfl, rfl, HA, HK1, ⟨m1, rfl⟩⟩ := hrel
    cases gk with
    | zero => exact absurd HA.out (by simp [mailcoachlaw01_Beyond.l0])
    | succ k1 =>
      have H := HA.out
      clear HA
      simp only [mailcoachlaw01_Beyond.l0] at H
      by_cases c2 : x4_1 < (l0.length : Int)
      · rw [if_pos c2] at H
        have c2b0 : decide (x4_1 < (l0.length : Int)) = true := decide_eq_true c2
        clear c2
        by_cases c3 : 0 ≤ x4_1
        · rw [if_pos c3] at H
          have c3b0 : decide (0 ≤ x4_1) = true := decide_eq_true c3
          clear c3
          by_cases c4 : (wrap64 (x3_1 + (rd l0 x4_1))) > 1048576
          · rw [if_pos c4] at H
            have c4b0 : decide (1048576 < (wrap64 (x3_1 + (rd l0 x4_1)))) = true := decide_eq_true c4
            clear c4
            obtain rfl := Option.some.inj H
            have p101 : 0 ≤ (x4_1 : Int) := of_decide_eq_true (by first | (with_reducible assumption) | assumption)
            have q101 : x4_1 < (l0.length : Int) := of_decide_eq_true (by first | (with_reducible assumption) | assumption)
            obtain ⟨ad101, e101, hx101_0⟩ := Kd.at_int HR0.out x4_1 p101 q101
            cases e101
            replace p101 := eq_true p101
            replace q101 := eq_true q101
            go_wp2
            go_ret
            exact ⟨by first | rfl | (simp; done) | (simp [*]; done), by repeat (first | exact Drawn0.refl _ | apply Drawn0.step)⟩
          · rw [if_neg c4] at H
            have c4b0 : decide (1048576 < (wrap64 (x3_1 + (rd l0 x4_1)))) = false := decide_eq_false c4
            clear c4
            have H' := Aside0.mk H
            clear H
            have p101 : 0 ≤ (x4_1 : Int) := of_decide_eq_true (by first | (with_reducible assumption) | assumption)
            have q101 : x4_1 < (l0.length : Int) := of_decide_eq_true (by first | (with_reducible assumption) | assumption)
            obtain ⟨ad101, e101, hx101_0⟩ := Kd.at_int HR0.out x4_1 p101 q101
            cases e101
            replace p101 := eq_true p101
            replace q101 := eq_true q101
            go_wp2
            go_roundg k1
            case measure => have := HK1.out; omega
            case rel => exact ⟨(wrap64 (x3_1 + (rd l0 x4_1))), (wrap64 (x4_1 + 1)), (by first | rfl | (simp; done) | (simp [*]; done)), (by first | rfl | (simp; done) | (simp [*]; done)), H', ⟨by have := HK1.out; omega⟩, by repeat (first | exact Drawn0.refl _ | apply Drawn0.step)⟩
        · rw [if_neg c3] at H
          exact absurd H (by simp)
      · rw [if_neg c2] at H
        have c2b0 : decide (x4_1 < (l0.length : Int)) = false := decide_eq_false c2
        clear c2
        obtain rfl := Option.some.inj H
        go_wp2
        go_ret
        exact ⟨by first | rfl | (simp; done) | (simp [*]; done), by repeat (first | exact Drawn0.refl _ | apply Drawn0.step)⟩

/-! ### mailcoachlaw01_TwinBytes: function 21, by hand -/
theorem man_info_u8 : (Try.prog.info? 5).map (fun i => (i.zero, i.size, i.bytes)) = some (some (.int .u8 0), 1, 1) := by kernel_rfl
/-- A number's place in a list. -/
theorem man_take_snoc (l : List Int) (k : Nat) (hk : k < l.length) : l.take (k + 1) = l.take k ++ [rd l k] := by
  rw [List.take_succ_eq_append_getElem hk]
  simp [rd, List.getD_eq_getElem?_getD, List.getElem?_eq_getElem hk]
/-- A list of bytes in memory of the call's own, with the mark behind it. -/
def Twin (w : World) (base : Nat) (v : Value) (l : List Int) : Prop :=
  ∃ g cap, v = .slice (some ⟨g, 0, none⟩) l.length cap ∧ w.ownsRow base 5 1 (.slice (some ⟨g, 0, none⟩) (l.length + 1) cap) (l.length + 1) (nums .u8 (l ++ [77]))
theorem Twin.below {w w1 : World} {base : Nat} {v : Value} {l : List Int} (h : Twin w base v l) (hb : Below w.heap.size w w1) : Twin w1 base v l := by
  obtain ⟨g, cap, hv, ho⟩ := h
  exact ⟨g, cap, hv, pw_own_below ho hb⟩
theorem Twin.reads {w : World} {base : Nat} {v : Value} {l : List Int} (h : Twin w base v l) : ∃ A c, v = .slice A l.length c ∧ Kd.C (Kd.int .u8) w A l.length l ∧ l.length + 1 ≤ c ∧ Kd.C (Kd.int .u8) w A (l ++ [77]).length (l ++ [77]) := by
  obtain ⟨g, cap, rfl, ho⟩ := h
  have hr := own_reads' ho
  have hC : Kd.C (Kd.int .u8) w (some ⟨g, 0, none⟩) (l ++ [77]).length (l ++ [77]) := by
    have h := Kd.C_of_reads (enc := Value.int .u8) (d := (0 : Int)) (h1 := fun _ => rfl) hr
    rw [List.length_append]
    exact h
  refine ⟨some ⟨g, 0, none⟩, cap, rfl, ?_, own_cap ho, hC⟩
  have h2 := Kd.C_take (m := l.length) hC (by simp)
  simpa using h2

set_option maxHeartbeats 1600000 in
set_option maxRecDepth 100000 in
theorem mailcoachlaw01_TwinBytes.twin (A0 : Option Addr) (c0 : Nat) (l0 : List Int) (w : World) (hr0 : Kd.C (Kd.int .u8) w A0 l0.length l0) (hc0 : l0.length ≤ c0) (hn : l0.length ≤ 140737488351232) :
    Calls Try.prog 21 #[.slice A0 l0.length c0] w fun e w' => ∃ v, e = .returned v ∧ Twin w' w.heap.size v l0 ∧ Below w.heap.size w w' := by
  have HR0 := Aside0.mk hr0
  clear hr0 hc0
  obtain ⟨i0, hi, hzz⟩ := Option.map_eq_some_iff.1 man_info_u8
  simp only [Prod.mk.injEq] at hzz
  obtain ⟨hz0, hz1, hz2⟩ := hzz
  have hmk : ∀ W : World, (Instr.makeSlice 22 (.int .i64 0) (.int .i64 ((l0.length : Int) + 1))).run Try.prog W = .ok (.slice (some ⟨W.heap.size, 0, none⟩) 0 (l0.length + 1)) (W.alloc (.cells (madeCells #[.int .u8 0] (l0.length + 1)) 5)) := by
    intro W
    have h := run_make W 22 5 i0 (.int .u8 0) Try.underlying22 hi hz0 .i64 .i64 0 ((l0.length + 1 : Nat) : Int) (by omega) (by omega) (by rw [hz2]; omega) (by omega)
    rw [hz1] at h
    simp only [Int.toNat_natCast, Int.toNat_zero, Int.natCast_add, Int.natCast_one, Nat.mul_one, Value.cells] at h
    exact h
  go_enter Try.func21, Try.ntmps21
  go_wp2
  go_loopw [3, 4] (fun v3 v4 wr => ∃ k : Nat, k ≤ l0.length ∧ v4 = .int .i64 k ∧ Aside0 (wr.ownsRow w.heap.size 5 1 v3 (l0.take k).length (nums .u8 (l0.take k))) ∧ Aside0 (Below w.heap.size w wr)) (fun _ v4 _ => l0.length - (intOf v4).toNat)
  case atStart => exact ⟨0, by omega, rfl, ⟨World.ownsRow_made w _ _ (Nat.le_refl _) (by simp only [maxLen]; omega) (by rw [size_madeCells, Nat.mul_one])⟩, ⟨below_alloc (Below.refl _ _) _⟩⟩
  case round =>
    obtain ⟨k, hk, rfl, HO, HB⟩ := hrel
    by_cases hk2 : k < l0.length
    · obtain ⟨ad2, e2, hx2⟩ := Kd.at_int (Kd.C_below HR0.out HB.out) k (by omega) (by omega)
      cases e2
      simp only [Int.toNat_natCast] at hx2
      have hlk : (l0.take k).length = k := by rw [List.length_take]; omega
      have HLK := Aside0.mk hlk
      clear hlk
      go_wp2_with (at_builtin; refine print_append_num (w0 := w) w.heap.size rfl (.tmp 15) (.tmp 20) 22 5 .u8 1 rfl Try.underlying22 man_info_u8 (by decide) _ (l0.take k) (rd l0 k) rfl rfl HO.out HB.out HB.out.size (by rw [HLK.out]; omega) ?_; intro v1 w1 ho1 hb1 _ _)
      go_roundw
      case rel => exact ⟨k + 1, by omega, by go_num, ⟨by rw [man_take_snoc l0 k hk2]; exact ho1⟩, ⟨hb1⟩⟩
      case measure => simp [intOf]; omega
    · have hkl : l0.take k = l0 := List.take_of_length_le (by omega)
      rw [hkl] at HO
      clear hkl
      go_wp2_with (at_builtin; go_must (refine print_append_num (w0 := w) w.heap.size rfl (.tmp 22) (.tmp 23) 22 5 .u8 1 rfl Try.underlying22 man_info_u8 (by decide) _ l0 77 rfl rfl HO.out HB.out HB.out.size (by omega) ?_; intro v1 w1 ho1 hb1 _ _; obtain ⟨g, cap, rfl, hgb, hgl⟩ := ho1.form (by simp); have hcap := own_cap ho1; have hL77 : (l0 ++ [(77 : Int)]).length = l0.length + 1 := (by simp); rw [hL77] at hcap ho1 ⊢; clear hL77; have HO1 := Aside0.mk ho1; clear ho1; have HB1 := Aside0.mk hb1; clear hb1; have hcut := cut_to (P := Try.prog) 22 5 .i64 (i := i0) Try.underlying22 hi (some ⟨g, 0, none⟩) (l0.length + 1) cap l0.length (by omega) (by omega) hcap))
      go_ret
      exact ⟨_, rfl, ⟨g, cap, rfl, HO1.out⟩, HB1.out⟩


/-! ### varint_sizes: function 42, by hand -/
theorem varint_sizes.calls (w : World) :
    Calls Try.prog 42 #[] w fun e w' => e = .returned (.agg #[.int .i64 1, .int .i64 2, .int .i64 4, .int .i64 8]) ∧ Below w.heap.size w w' := by
  go_enter Try.func42, Try.ntmps42
  go_wp2
  exact bodyPost_ret (v := .agg #[.int .i64 1, .int .i64 2, .int .i64 4, .int .i64 8]) (by simp [results, Try.results42, go_sem]) rfl ⟨rfl, below_alloc (Below.refl _ _) _⟩


/-! ### varint_Get: function 22, by hand -/
def varint_Get.st (n c : Int) : Int := Go.bits .or .u64 (IntKind.u64.wrap (n * 256)) (IntKind.u64.wrap c)
def varint_Get.lp (n : Int) (l : List Int) : Int := l.foldl varint_Get.st n
def varint_Get.sz (c : Int) : Nat := if c / 64 = 0 then 1 else if c / 64 = 1 then 2 else if c / 64 = 2 then 4 else 8
def varint_Get.f (l0 : List Int) : Option (Int × Int × Int) :=
  if l0.length = 0 then some (0, 0, 4)
  else if 0 ≤ rd l0 0 ∧ rd l0 0 < 256 then
    (if (l0.length : Int) < varint_Get.sz (rd l0 0) then some (0, 0, 4)
     else some (varint_Get.lp (rd l0 0 % 64) ((l0.take (varint_Get.sz (rd l0 0))).drop 1), varint_Get.sz (rd l0 0), 0))
  else none
theorem varint_Get.lp_snoc (n : Int) (l : List Int) (k : Nat) (hk : k < l.length) : varint_Get.lp n (l.take (k + 1)) = varint_Get.st (varint_Get.lp n (l.take k)) (rd l k) := by
  unfold varint_Get.lp
  rw [List.take_succ_eq_append_getElem hk, List.foldl_append]
  simp [rd, List.getD_eq_getElem?_getD, List.getElem?_eq_getElem hk]
theorem varint_Get.sz_cases (c : Int) (h : 0 ≤ c ∧ c < 256) : (1 ≤ varint_Get.sz c ∧ varint_Get.sz c ≤ 8) ∧ ((c / 64 = 0 ∧ varint_Get.sz c = 1) ∨ (c / 64 = 1 ∧ varint_Get.sz c = 2) ∨ (c / 64 = 2 ∧ varint_Get.sz c = 4) ∨ (c / 64 = 3 ∧ varint_Get.sz c = 8)) := by
  unfold varint_Get.sz
  split
  · exact ⟨by omega, .inl ⟨by omega, rfl⟩⟩
  · split
    · exact ⟨by omega, .inr (.inl ⟨by omega, rfl⟩)⟩
    · split
      · exact ⟨by omega, .inr (.inr (.inl ⟨by omega, rfl⟩))⟩
      · exact ⟨by omega, .inr (.inr (.inr ⟨by omega, rfl⟩))⟩
set_option maxHeartbeats 1600000 in
set_option maxRecDepth 100000 in
theorem varint_Get.some_ (A0 : Option Addr) (c0 : Nat) (l0 : List Int) (w : World) (hr0 : Kd.C (Kd.int .u8) w A0 l0.length l0) (hc0 : l0.length ≤ c0) (hn : 0 < l0.length)
    (s : Nat) (hs : 1 ≤ s ∧ s ≤ 8) (hq : (rd l0 0 / 64 = 0 ∧ s = 1) ∨ (rd l0 0 / 64 = 1 ∧ s = 2) ∨ (rd l0 0 / 64 = 2 ∧ s = 4) ∨ (rd l0 0 / 64 = 3 ∧ s = 8)) (hb : 0 ≤ rd l0 0 ∧ rd l0 0 < 256) :
    Calls Try.prog 22 #[.slice A0 l0.length c0] w fun e w' => e = .returned (.tuple (if (l0.length : Int) < s then #[.int .u64 0, .int .i64 0, .int .i64 4] else #[.int .u64 (varint_Get.lp (rd l0 0 % 64) ((l0.take s).drop 1)), .int .i64 s, .int .i64 0])) ∧ Below w.heap.size w w' := by
  have HR0 := Aside0.mk hr0
  have HC0 := Aside0.mk hc0
  clear hr0 hc0
  obtain ⟨ad101, e101, hx101_0⟩ := Kd.at_int HR0.out 0 (by omega) (by omega)
  cases e101
  have hx0 : w.cell? ad101 = some (.int .u8 (rd l0 0)) := by simpa [go_sem] using hx101_0
  clear hx101_0
  have hne : ((l0.length : Int) == 0) = false := by simp; intro h; rw [h] at hn; exact absurd hn (Nat.lt_irrefl 0)
  have hlt : 0 < (l0.length : Int) := by omega
  have hix : ∀ w, (Instr.index 61 (.agg #[.int .i64 1, .int .i64 2, .int .i64 4, .int .i64 8]) (.int .u8 (rd l0 0 / 64))).run Try.prog w = .ok (.int .i64 s) w := by
    intro w
    rcases hq with ⟨h, rfl⟩ | ⟨h, rfl⟩ | ⟨h, rfl⟩ | ⟨h, rfl⟩ <;> rw [h] <;> kernel_rfl
  clear hq
  by_cases hl : (l0.length : Int) < s
  · rw [if_pos hl]
    go_enter Try.func22, Try.ntmps22
    go_wp2
    go_region_held3 (fun w' => w'.cell? ad101 = some (.int .u8 (rd l0 0)) ∧ Below w.heap.size w w') (first | exact ⟨hx0, below_drew (Below.refl _ _)⟩ | (have hB := below_step (show _ ∧ Below w.heap.size w _ from by assumption).2 hb1; exact ⟨pw_cell_below hB hx0, hB⟩) | assumption) ((go_at_call 42; refine (varint_sizes.calls _).mono ?_; rintro e w' ⟨rfl, hb1⟩))
    have hBw := (show _ ∧ Below w.heap.size w _ from by assumption).2
    have hxw := (show _ ∧ Below w.heap.size w _ from by assumption).1
    go_wp2
    go_ret3
    exact ⟨rfl, hBw⟩
  · rw [if_neg hl]
    obtain ⟨m, hm⟩ : ∃ m, (l0.take s).drop 1 = m := ⟨_, rfl⟩
    rw [hm]
    have hml : m.length = s - 1 := by rw [← hm]; simp; omega
    have HML := Aside0.mk hml
    have HM := Aside0.mk hm
    clear hml hm
    go_enter Try.func22, Try.ntmps22
    go_wp2
    go_region_held3 (fun w' => w'.cell? ad101 = some (.int .u8 (rd l0 0)) ∧ Below w.heap.size w w') (first | exact ⟨hx0, below_drew (Below.refl _ _)⟩ | (have hB := below_step (show _ ∧ Below w.heap.size w _ from by assumption).2 hb1; exact ⟨pw_cell_below hB hx0, hB⟩) | assumption) ((go_at_call 42; refine (varint_sizes.calls _).mono ?_; rintro e w' ⟨rfl, hb1⟩))
    have hBw := (show _ ∧ Below w.heap.size w _ from by assumption).2
    have hxw := (show _ ∧ Below w.heap.size w _ from by assumption).1
    have hsl : (s : Int) ≤ l0.length := by omega
    obtain ⟨A2, hA2⟩ : ∃ A2, (if c0 = (1 : Int).toNat then some ad101 else (some ad101).map (·.add ((1 : Int).toNat * 1))) = A2 := ⟨_, rfl⟩
    have hcut := cut_mid (P := Try.prog) 22 5 .i64 .i64 Try.underlying22 (i := _) rfl 1 rfl (some ad101) l0.length c0 1 s (by omega) (by omega) hsl HC0.out
    have hC2 := Kd.C_mid (lo := 1) (hi := s) (Kd.C_below HR0.out hBw) hs.1 (by omega) HC0.out
    rw [hA2] at hcut
    have hA2' : (if c0 = 1 then some ad101 else (some ad101).map (·.add (1 * 1))) = A2 := hA2
    rw [show (Kd.int IntKind.u8).sz = 1 from rfl, hA2'] at hC2
    have HC2 := Aside0.mk hC2
    clear hC2 hA2 hA2'
    rw [HM.out] at HC2
    go_wp2
    go_loop [6, 31] (fun v6 v31 => ∃ k : Nat, k ≤ s - 1 ∧ v31 = .int .i64 k ∧ v6 = .int .u64 (varint_Get.lp (rd l0 0 % 64) (m.take k))) (fun _ v31 => s - 1 - (intOf v31).toNat)
    case atStart => exact ⟨0, by omega, rfl, rfl⟩
    case round =>
      obtain ⟨k, hk, rfl, rfl⟩ := hrel
      by_cases hk2 : k < s - 1
      · obtain ⟨ad2, e2, hx2⟩ := Kd.at_int HC2.out k (by omega) (by rw [HML.out]; omega)
        cases e2
        simp only [Int.toNat_natCast] at hx2
        go_wp2
        go_round
        case rel => exact ⟨k + 1, by omega, by go_num, by rw [varint_Get.lp_snoc _ _ _ (by rw [HML.out]; omega)]; rfl⟩
        case measure => simp [intOf]; omega
      · go_wp2
        go_ret3
        have ek : m.take k = m := List.take_of_length_le (by rw [HML.out]; omega)
        exact ⟨by rw [ek]; rfl, hBw⟩
set_option maxHeartbeats 1600000 in
set_option maxRecDepth 100000 in
theorem varint_Get.calls (A0 : Option Addr) (c0 : Nat) (l0 : List Int) (r1 : Int) (r2 : Int) (r3 : Int) (w : World) (hr0 : Kd.C (Kd.int .u8) w A0 l0.length l0) (hc0 : l0.length ≤ c0) (h : varint_Get.f l0 = some (r1, r2, r3)) :
    Calls Try.prog 22 #[.slice A0 l0.length c0] w fun e w' => e = .returned (.tuple #[.int .u64 r1, .int .i64 r2, .int .i64 r3]) ∧ Below w.heap.size w w' := by
  unfold varint_Get.f at h
  by_cases hn : l0.length = 0
  · rw [if_pos hn] at h
    simp only [Option.some.injEq, Prod.mk.injEq] at h
    obtain ⟨rfl, rfl, rfl⟩ := h
    have HN := Aside0.mk hn
    rw [hn]
    clear hr0 hc0 hn
    go_enter Try.func22, Try.ntmps22
    go_wp2
    go_ret3
    exact ⟨rfl, Below.refl _ _⟩
  · rw [if_neg hn] at h
    by_cases hb : 0 ≤ rd l0 0 ∧ rd l0 0 < 256
    · rw [if_pos hb] at h
      obtain ⟨h1, h2⟩ := varint_Get.sz_cases _ hb
      refine (varint_Get.some_ A0 c0 l0 w hr0 hc0 (by omega) _ h1 h2 hb).mono ?_
      rintro e w' ⟨rfl, hB⟩
      refine ⟨?_, hB⟩
      by_cases hl : (l0.length : Int) < varint_Get.sz (rd l0 0)
      · rw [if_pos hl] at h ⊢
        simp only [Option.some.injEq, Prod.mk.injEq] at h
        obtain ⟨rfl, rfl, rfl⟩ := h
        rfl
      · rw [if_neg hl] at h ⊢
        simp only [Option.some.injEq, Prod.mk.injEq] at h
        obtain ⟨rfl, rfl, rfl⟩ := h
        rfl
    · rw [if_neg hb] at h
      cases h


/-! ### mailcoachref01_Get: function 23 -/
mutual
def mailcoachref01_Get.l0 : Nat → List Int → Int → Int → Option (Int × Int × Int)
  | 0, _, _, _ => none
  | k + 1, x0, x5, x6 => if 0 < (x0.length : Int) then (if x6 < (wrap64 ((rd x0 0) / 64)) then (mailcoachref01_Get.l0 k x0 (wrap64 (2 * x5)) (wrap64 (x6 + 1))) else (if (x0.length : Int) < x5 then (some (0, 0, 4)) else (mailcoachref01_Get.l1 k x0 x5 (IntKind.u64.wrap (Go.bits .and .u8 (rd x0 0) 63)) 1))) else (none)
def mailcoachref01_Get.l1 : Nat → List Int → Int → Int → Int → Option (Int × Int × Int)
  | 0, _, _, _, _ => none
  | k + 1, x0, x5, x7, x8 => if x8 < x5 then (if 0 ≤ x8 then (if x8 < (x0.length : Int) then (mailcoachref01_Get.l1 k x0 x5 (IntKind.u64.wrap ((IntKind.u64.wrap (256 * x7)) + (IntKind.u64.wrap (rd x0 x8)))) (wrap64 (x8 + 1))) else (none)) else (none)) else (some (x7, x5, 0))
end
def mailcoachref01_Get.f (k : Nat) (l0 : List Int) : Option (Int × Int × Int) := if (l0.length : Int) = 0 then (some (0, 0, 4)) else (mailcoachref01_Get.l0 k l0 1 0)
theorem mailcoachref01_Get.mono_l : ∀ k, (∀ y0 y1 y2, LeO (mailcoachref01_Get.l0 k y0 y1 y2) (mailcoachref01_Get.l0 (k + 1) y0 y1 y2)) ∧ (∀ y0 y1 y2 y3, LeO (mailcoachref01_Get.l1 k y0 y1 y2 y3) (mailcoachref01_Get.l1 (k + 1) y0 y1 y2 y3))
  | 0 => ⟨fun _ _ _ r h => by simp [mailcoachref01_Get.l0] at h, fun _ _ _ _ r h => by simp [mailcoachref01_Get.l1] at h⟩
  | k + 1 => by
    obtain ⟨ih0, ih1⟩ := mailcoachref01_Get.mono_l k
    refine ⟨?_, ?_⟩
    · intro y0 y1 y2
      unfold mailcoachref01_Get.l0
      repeat' first
      | (with_reducible exact ih0 _ _ _)
      | (with_reducible exact ih1 _ _ _ _)
      | (with_reducible exact LeO.refl _)
      | (with_reducible exact LeO.none _)
      | (with_reducible refine LeO.ite ?_ ?_)
      | (with_reducible refine LeO.bind ?_ (fun _ => ?_))
      | exact ih0 _ _ _
      | exact ih1 _ _ _ _
      | exact LeO.none _
      | refine LeO.ite ?_ ?_
      | refine LeO.bind ?_ (fun _ => ?_)
    · intro y0 y1 y2 y3
      unfold mailcoachref01_Get.l1
      repeat' first
      | (with_reducible exact ih0 _ _ _)
      | (with_reducible exact ih1 _ _ _ _)
      | (with_reducible exact LeO.refl _)
      | (with_reducible exact LeO.none _)
      | (with_reducible refine LeO.ite ?_ ?_)
      | (with_reducible refine LeO.bind ?_ (fun _ => ?_))
      | exact ih0 _ _ _
      | exact ih1 _ _ _ _
      | exact LeO.none _
      | refine LeO.ite ?_ ?_
      | refine LeO.bind ?_ (fun _ => ?_)
theorem mailcoachref01_Get.mono : ∀ a0 k, LeO (mailcoachref01_Get.f k a0) (mailcoachref01_Get.f (k + 1) a0) := by
  intro a0 k
  obtain ⟨ih0, ih1⟩ := mailcoachref01_Get.mono_l k
  unfold mailcoachref01_Get.f
  repeat' first
      | (with_reducible exact ih0 _ _ _)
      | (with_reducible exact ih1 _ _ _ _)
      | (with_reducible exact LeO.refl _)
      | (with_reducible exact LeO.none _)
      | (with_reducible refine LeO.ite ?_ ?_)
      | (with_reducible refine LeO.bind ?_ (fun _ => ?_))
      | exact ih0 _ _ _
      | exact ih1 _ _ _ _
      | exact LeO.none _
      | refine LeO.ite ?_ ?_
      | refine LeO.bind ?_ (fun _ => ?_)
set_option maxHeartbeats 8000000 in
set_option maxRecDepth 100000 in
theorem mailcoachref01_Get.calls (k : Nat) (A0 : Option Addr) (c0 : Nat) (l0 : List Int) (r1 : Int) (r2 : Int) (r3 : Int) (w : World) (hr0 : Kd.C (Kd.int .u8) w A0 l0.length l0) (hc0 : l0.length ≤ c0) (h : mailcoachref01_Get.f k l0 = some (r1, r2, r3)) :
    Calls Try.prog 23 #[.slice A0 l0.length c0] w fun e w' => e = .returned (.tuple #[.int .u64 r1, .int .i64 r2, .int .i64 r3]) ∧ Drawn0 w w' := by
  have HR0 := Aside0.mk hr0
  have HC0 := Aside0.mk hc0
  clear hr0 hc0
  have H : (if (l0.length : Int) = 0 then (some (0, 0, 4)) else (mailcoachref01_Get.l0 k l0 1 0)) = some (r1, r2, r3) := h
  clear h
  by_cases c2 : (l0.length : Int) = 0
  · rw [if_pos c2] at H
    have c2b0 : ((l0.length : Int) == 0) = true := beq_iff_eq.mpr c2
    have c2b1 : ((l0.length : Int) != 0) = false := bne_eq_false_iff_eq.mpr c2
    clear c2
    simp only [Option.some.injEq, Prod.mk.injEq] at H
    obtain ⟨rfl, rfl, rfl⟩ := H
    go_enter Try.func23, Try.ntmps23
    go_wp2
    go_ret3
    exact ⟨by first | rfl | (simp; done) | (simp [*]; done), by repeat (first | exact Drawn0.refl _ | apply Drawn0.step)⟩
  · rw [if_neg c2] at H
    have c2b0 : ((l0.length : Int) == 0) = false := beq_eq_false_iff_ne.mpr c2
    have c2b1 : ((l0.length : Int) != 0) = true := bne_iff_ne.mpr c2
    have c2b2 : ¬ (l0 = []) := fun h_ => c2 (by rw [h_]; rfl)
    have H' := Aside0.mk H
    clear H
    go_enter Try.func23, Try.ntmps23
    go_wp2
    go_loopg [5, 6] k (fun kq v5 v6 w' => ∃ (x5_1 : Int) (x6_1 : Int), v5 = .int .i64 x5_1 ∧ v6 = .int .i64 x6_1 ∧ Aside0 (mailcoachref01_Get.l0 kq l0 x5_1 x6_1 = some (r1, r2, r3)) ∧ Aside0 (kq ≤ k) ∧ Drawn0 w w')
    case atStart => exact ⟨(1), (0), (by first | rfl | (simp; done) | (simp [*]; done)), (by first | rfl | (simp; done) | (simp [*]; done)), H', ⟨Nat.le_refl _⟩, by repeat (first | exact Drawn0.refl _ | apply Drawn0.step)⟩
    case round =>
      clear H'
      try clear c2
      try clear c2b0
      try clear c2b1
      try clear c2b2
      try clear p2
      obtain ⟨x5_1, x6_1, rfl, rfl, HA, HK1, ⟨m1, rfl⟩⟩ := hrel
      cases gk with
      | zero => exact absurd HA.out (by simp [mailcoachref01_Get.l0])
      | succ k1 =>
        have H := HA.out
        clear HA
        simp only [mailcoachref01_Get.l0] at H
        by_cases c3 : 0 < (l0.length : Int)
        · rw [if_pos c3] at H
          have c3b0 : decide (0 < (l0.length : Int)) = true := decide_eq_true c3
          have c3b1 : decide (0 < l0.length) = true := decide_eq_true (by omega)
          clear c3
          by_cases c4 : x6_1 < (wrap64 ((rd l0 0) / 64))
          · rw [if_pos c4] at H
            have c4b0 : decide (x6_1 < (wrap64 ((rd l0 0) / 64))) = true := decide_eq_true c4
            clear c4
            have H' := Aside0.mk H
            clear H
            have p102 : 0 ≤ (0 : Int) := (by omega)
            have q102 : 0 < (l0.length : Int) := of_decide_eq_true (by first | (with_reducible assumption) | assumption)
            obtain ⟨ad102, e102, hx102_0⟩ := Kd.at_int HR0.out 0 p102 q102
            cases e102
            have qi102 : (0 < l0.length) = True := eq_true (by omega)
            (try rw [show ((0 : Int)).toNat = 0 from rfl] at hx102_0)
            (try rw [Addr.add_zero'] at hx102_0)
            replace p102 := eq_true p102
            replace q102 := eq_true q102
            go_wp2
            go_roundg k1
            case measure => have := HK1.out; omega
            case rel => exact ⟨(wrap64 (2 * x5_1)), (wrap64 (x6_1 + 1)), (by first | rfl | (simp; done) | (simp [*]; done)), (by first | rfl | (simp; done) | (simp [*]; done)), H', ⟨by have := HK1.out; omega⟩, by repeat (first | exact Drawn0.refl _ | apply Drawn0.step)⟩
          · rw [if_neg c4] at H
            have c4b0 : decide (x6_1 < (wrap64 ((rd l0 0) / 64))) = false := decide_eq_false c4
            clear c4
            by_cases c5 : (l0.length : Int) < x5_1
            · rw [if_pos c5] at H
              have c5b0 : decide ((l0.length : Int) < x5_1) = true := decide_eq_true c5
              clear c5
              simp only [Option.some.injEq, Prod.mk.injEq] at H
              obtain ⟨rfl, rfl, rfl⟩ := H
              have p102 : 0 ≤ (0 : Int) := (by omega)
              have q102 : 0 < (l0.length : Int) := of_decide_eq_true (by first | (with_reducible assumption) | assumption)
              obtain ⟨ad102, e102, hx102_0⟩ := Kd.at_int HR0.out 0 p102 q102
              cases e102
              have qi102 : (0 < l0.length) = True := eq_true (by omega)
              (try rw [show ((0 : Int)).toNat = 0 from rfl] at hx102_0)
              (try rw [Addr.add_zero'] at hx102_0)
              replace p102 := eq_true p102
              replace q102 := eq_true q102
              go_wp2
              go_ret3
              exact ⟨by first | rfl | (simp; done) | (simp [*]; done), by repeat (first | exact Drawn0.refl _ | apply Drawn0.step)⟩
            · rw [if_neg c5] at H
              have c5b0 : decide ((l0.length : Int) < x5_1) = false := decide_eq_false c5
              clear c5
              have H' := Aside0.mk H
              clear H
              have p102 : 0 ≤ (0 : Int) := (by omega)
              have q102 : 0 < (l0.length : Int) := of_decide_eq_true (by first | (with_reducible assumption) | assumption)
              obtain ⟨ad102, e102, hx102_0⟩ := Kd.at_int HR0.out 0 p102 q102
              cases e102
              have qi102 : (0 < l0.length) = True := eq_true (by omega)
              (try rw [show ((0 : Int)).toNat = 0 from rfl] at hx102_0)
              (try rw [Addr.add_zero'] at hx102_0)
              replace p102 := eq_true p102
              replace q102 := eq_true q102
              have p103 : 0 ≤ (0 : Int) := (by omega)
              have q103 : 0 < (l0.length : Int) := of_decide_eq_true (by first | (with_reducible assumption) | assumption)
              obtain ⟨ad103, e103, hx103_0⟩ := Kd.at_int HR0.out 0 p103 q103
              obtain rfl : ad102 = ad103 := (by injection e103)
              have qi103 : (0 < l0.length) = True := eq_true (by omega)
              (try rw [show ((0 : Int)).toNat = 0 from rfl] at hx103_0)
              (try rw [Addr.add_zero'] at hx103_0)
              replace p103 := eq_true p103
              replace q103 := eq_true q103
              go_wp2
              go_loopg [7, 8] k1 (fun kq v7 v8 w' => ∃ (x7_2 : Int) (x8_2 : Int), v7 = .int .u64 x7_2 ∧ v8 = .int .i64 x8_2 ∧ Aside0 (mailcoachref01_Get.l1 kq l0 x5_1 x7_2 x8_2 = some (r1, r2, r3)) ∧ Aside0 (kq ≤ k1) ∧ Drawn0 w w')
              case atStart => exact ⟨(IntKind.u64.wrap (Go.bits .and .u8 (rd l0 0) 63)), (1), (by first | rfl | (simp; done) | (simp [*]; done)), (by first | rfl | (simp; done) | (simp [*]; done)), H', ⟨Nat.le_refl _⟩, by repeat (first | exact Drawn0.refl _ | apply Drawn0.step)⟩
              case round =>
                clear H'
                try clear p1
                try clear q1
                try clear hx1
                try clear qi1
                try clear c2
                try clear c2b0
                try clear c2b1
                try clear c2b2
                try clear p2
                try clear c3
                try clear c3b0
                try clear c3b1
                try clear c4
                try clear c4b0
                try clear c5
                try clear c5b0
                try clear hx102_0
                try clear hx103_0
                try clear p102
                try clear p103
                try clear p2
                try clear q102
                try clear q103
                obtain ⟨x7_2, x8_2, rfl, rfl, HA, HK2, ⟨m2, rfl⟩⟩ := hrel
                cases gk with
                | zero => exact absurd HA.out (by simp [mailcoachref01_Get.l1])
                | succ k2 =>
                  have H := HA.out
                  clear HA
                  simp only [mailcoachref01_Get.l1] at H
                  by_cases c6 : x8_2 < x5_1
                  · rw [if_pos c6] at H
                    have c6b0 : decide (x8_2 < x5_1) = true := decide_eq_true c6
                    clear c6
                    by_cases c7 : 0 ≤ x8_2
                    · rw [if_pos c7] at H
                      have c7b0 : decide (0 ≤ x8_2) = true := decide_eq_true c7
                      clear c7
                      by_cases c8 : x8_2 < (l0.length : Int)
                      · rw [if_pos c8] at H
                        have c8b0 : decide (x8_2 < (l0.length : Int)) = true := decide_eq_true c8
                        clear c8
                        have H' := Aside0.mk H
                        clear H
                        have p104 : 0 ≤ (x8_2 : Int) := of_decide_eq_true (by first | (with_reducible assumption) | assumption)
                        have q104 : x8_2 < (l0.length : Int) := of_decide_eq_true (by first | (with_reducible assumption) | assumption)
                        obtain ⟨ad104, e104, hx104_0⟩ := Kd.at_int HR0.out x8_2 p104 q104
                        obtain rfl : ad102 = ad104 := (by injection e104)
                        replace p104 := eq_true p104
                        replace q104 := eq_true q104
                        go_wp2
                        go_roundg k2
                        case measure => have := HK1.out; have := HK2.out; omega
                        case rel => exact ⟨(IntKind.u64.wrap ((IntKind.u64.wrap (256 * x7_2)) + (IntKind.u64.wrap (rd l0 x8_2)))), (wrap64 (x8_2 + 1)), (by first | rfl | (simp; done) | (simp [*]; done)), (by first | rfl | (simp; done) | (simp [*]; done)), H', ⟨by have := HK1.out; have := HK2.out; omega⟩, by repeat (first | exact Drawn0.refl _ | apply Drawn0.step)⟩
                      · rw [if_neg c8] at H
                        exact absurd H (by simp)
                    · rw [if_neg c7] at H
                      exact absurd H (by simp)
                  · rw [if_neg c6] at H
                    have c6b0 : decide (x8_2 < x5_1) = false := decide_eq_false c6
                    clear c6
                    simp only [Option.some.injEq, Prod.mk.injEq] at H
                    obtain ⟨rfl, rfl, rfl⟩ := H
                    go_wp2
                    go_ret3
                    exact ⟨by first | rfl | (simp; done) | (simp [*]; done), by repeat (first | exact Drawn0.refl _ | apply Drawn0.step)⟩
        · rw [if_neg c3] at H
          exact absurd H (by simp)

/-! ### mailcoachlaw01_LeftBytes: function 24, by hand -/
set_option maxHeartbeats 1600000 in
set_option maxRecDepth 100000 in
theorem mailcoachlaw01_LeftBytes.twin (v : Value) (base : Nat) (A1 : Option Addr) (c1 : Nat) (l1 : List Int) (w : World) (hv : Twin w base v l1) (hr1 : Kd.C (Kd.int .u8) w A1 l1.length l1) (hc1 : l1.length ≤ c1) :
    Calls Try.prog 24 #[v, .slice A1 l1.length c1] w fun e w' => e = .returned (.bool true) ∧ Drawn0 w w' := by
  obtain ⟨A0, c0, rfl, hr0, hc0, hr2⟩ := hv.reads
  have HR0 := Aside0.mk hr0
  have HR1 := Aside0.mk hr1
  have HR2 := Aside0.mk hr2
  clear hr0 hr1 hr2 hv
  obtain ⟨i0, hi, hzz⟩ := Option.map_eq_some_iff.1 man_info_u8
  have hl : l1.length ≤ 9223372036854775806 := by have := HR2.out.2.1; rw [List.length_append] at this; simp at this; omega
  have h77 : (l1 ++ [(77 : Int)]).length = l1.length + 1 := by simp
  have hrd : rd (l1 ++ [77]) l1.length = 77 := by simp [rd]
  obtain ⟨ad, e0, hx7⟩ := Kd.at_int HR2.out l1.length (by omega) (by rw [h77]; omega)
  cases e0
  rw [hrd] at hx7
  simp only [Int.toNat_natCast] at hx7
  have hcut := cut_to (P := Try.prog) 22 5 .i64 (i := i0) Try.underlying22 hi (some ad) c0 c0 ((l1.length : Int) + 1) (by omega) (by omega) (by omega)
  clear hzz hi
  clear h77 hrd
  have hcap : decide (c0 ≤ l1.length) = false := by simp; omega
  have hne : ((l1.length : Int) != (l1.length : Int)) = false := by simp
  go_enter Try.func24, Try.ntmps24
  go_wp2
  go_loopw [5] (fun v5 wr => ∃ k : Nat, k ≤ l1.length ∧ v5 = .int .i64 k ∧ Drawn0 w wr) (fun v5 _ => l1.length - (intOf v5).toNat)
  case atStart => exact ⟨0, by omega, rfl, Drawn0.refl _⟩
  case round =>
    obtain ⟨k, hk, rfl, HD⟩ := hrel
    obtain ⟨m1, rfl⟩ := HD.out
    by_cases hk2 : k < l1.length
    · obtain ⟨ad2, e2, hx2⟩ := Kd.at_int HR1.out k (by omega) (by omega)
      cases e2
      obtain ⟨ad3, e3, hx3⟩ := Kd.at_int HR0.out k (by omega) (by omega)
      cases e3
      simp only [Int.toNat_natCast] at hx2 hx3
      go_wp2
      go_quiet (fail)
      go_wp2
      go_roundw
      case rel => exact ⟨k + 1, by omega, by go_num, by repeat (first | exact Drawn0.refl _ | apply Drawn0.step)⟩
      case measure => simp [intOf]; omega
    · go_wp2
      go_ret
      exact ⟨rfl, HD⟩


/-! ### mailcoachlaw01_VarintGets: function 3, by hand -/
theorem mailcoachlaw01_Beyond.one (n : Nat) (hn : n ≤ 9223372036854775807) : mailcoachlaw01_Beyond.f 2 [(n : Int)] = some (decide (1048576 < n)) := by
  have e : wrap64 (0 + rd [(n : Int)] 0) = n := by simp only [rd, wrap64]; simp; omega
  unfold mailcoachlaw01_Beyond.f
  simp only [mailcoachlaw01_Beyond.l0]
  rw [if_pos (by simp), if_pos (by simp), e]
  by_cases h : 1048576 < n
  · rw [if_pos (by omega)]; simp [h]
  · rw [if_neg (by omega)]
    have e1 : wrap64 (0 + 1) = 1 := by unfold wrap64; omega
    rw [e1, if_neg (by simp)]
    simp [h]
theorem man_lit_C (W : World) (k : IntKind) (t : TypeId) (x : Int) : Kd.C (Kd.int k) (W.alloc (.cells #[.int k x] t)) (some ⟨W.heap.size, 0, none⟩) [x].length [x] := by
  have h := own_lit W W.heap.size t k [x] (Nat.le_refl _) (by simp)
  have hr := own_reads' h
  exact Kd.C_of_reads (enc := Value.int k) (d := (0 : Int)) (h1 := fun _ => rfl) hr
theorem mailcoachlaw01_Beyond.calls1 (W : World) (n : Nat) (hn : n ≤ 9223372036854775807) :
    Calls Try.prog 20 #[.slice (some ⟨W.heap.size, 0, none⟩) 1 1] (W.alloc (.cells #[.int .i64 n] 3)) fun e w' => e = .returned (.bool (decide (1048576 < n))) ∧ Drawn0 (W.alloc (.cells #[.int .i64 n] 3)) w' :=
  mailcoachlaw01_Beyond.calls 2 (some ⟨W.heap.size, 0, none⟩) 1 [(n : Int)] _ _ (man_lit_C W .i64 3 n) (Nat.le_refl _) (mailcoachlaw01_Beyond.one n hn)

def mailcoachlaw01_VarintGets.Pure : Prop := ∀ (l0 : List Int), l0.length ≤ 1048576 → (∀ x ∈ l0, (Lit.int .u8 x).wf = true) → ∃ k r, varint_Get.f l0 = some r ∧ mailcoachref01_Get.f k l0 = some r
set_option maxHeartbeats 1600000 in
set_option maxRecDepth 100000 in
theorem mailcoachlaw01_VarintGets.walk (P : mailcoachlaw01_VarintGets.Pure) (a0 : Option Addr) (len0 cap0 : Nat) (z0 : List Int) (w : World) (w0 : (a0 = none ∧ len0 = 0 ∧ cap0 = 0 ∧ z0 = []) ∨ ∃ x, a0 = some x ∧ len0 ≤ cap0 ∧ cap0 ≤ maxLen ∧ z0.length = cap0 ∧ (∀ i, i < z0.length → w.cell? (x.add i) = some (.int .u8 (z0.getD i 0))) ∧ ∀ n ∈ z0, (Lit.int .u8 n).wf = true) (y0 : len0 * 1 ≤ 140737488351232) :
    Calls Try.prog 3 #[.slice a0 len0 cap0] w fun e w' => e = .returned (.bool true) ∧ Below w.heap.size w w' := by
  obtain ⟨l0, rfl, hr0, hm0, hw0, hc0⟩ := ReadsInt.ofRowC w0
  have HR0 := Aside0.mk (Kd.C_of_reads (enc := Value.int .u8) (d := (0 : Int)) (h1 := fun _ => rfl) hr0)
  clear hr0 w0
  by_cases hby : 1048576 < l0.length
  · have hd : decide (1048576 < l0.length) = true := by simp [hby]
    go_enter Try.func3, Try.ntmps3
    go_wp2_with (go_at_call 20; refine (mailcoachlaw01_Beyond.calls1 _ _ (by omega)).mono ?_; rintro e w' ⟨rfl, HD1⟩; rw [hd])
    go_ret
    exact ⟨rfl, below_step (below_alloc (Below.refl _ _) _) HD1.below⟩
  · have hd : decide (1048576 < l0.length) = false := by simp [hby]
    obtain ⟨k, ⟨r1, r2, r3⟩, h1, h2⟩ := P l0 (by omega) hw0
    have H1 := Aside0.mk h1
    have H2 := Aside0.mk h2
    clear h1 h2
    go_enter Try.func3, Try.ntmps3
    go_wp2_with (go_at_call 20; refine (mailcoachlaw01_Beyond.calls1 _ _ (by omega)).mono ?_; rintro e w1 ⟨rfl, HD1⟩; rw [hd]; have HB1 := Aside0.mk (below_step (below_alloc (Below.refl w.heap.size w) _) HD1.below); clear HD1)
    refine (mailcoachlaw01_TwinBytes.twin a0 cap0 l0 w1 (Kd.C_below HR0.out HB1.out) hc0 (by omega)).mono ?_
    rintro e w2 ⟨v, rfl, ht2, hb2⟩
    have HB2 := Aside0.mk (below_step HB1.out hb2)
    obtain ⟨A2, c2, rfl, hrt, hct, _⟩ := ht2.reads
    have HT2 := Aside0.mk ht2
    have HRT := Aside0.mk hrt
    clear ht2 hb2 hrt HB1
    go_wp2_with (fail)
    refine (varint_Get.calls A2 c2 l0 r1 r2 r3 w2 HRT.out (by omega) H1.out).mono ?_
    rintro e w3 ⟨rfl, hb3⟩
    have HB3 := Aside0.mk (below_step HB2.out hb3)
    have HT3 := Aside0.mk (HT2.out.below hb3)
    clear hb3 HB2 HT2 HRT
    go_wp2_with (fail)
    refine (mailcoachref01_Get.calls k a0 cap0 l0 r1 r2 r3 w3 (Kd.C_below HR0.out HB3.out) hc0 H2.out).mono ?_
    rintro e w4 ⟨rfl, hd4⟩
    have HB4 := Aside0.mk (below_step HB3.out hd4.below)
    have HT4 := Aside0.mk (HT3.out.below hd4.below)
    clear hd4 HB3 HT3
    go_wp2_with (fail)
    refine (mailcoachlaw01_LeftBytes.twin _ _ a0 cap0 l0 w4 HT4.out (Kd.C_below HR0.out HB4.out) hc0).mono ?_
    rintro e w5 ⟨rfl, hd5⟩
    have HB5 := Aside0.mk (below_step HB4.out hd5.below)
    clear hd5
    go_wp2_with (fail)
    go_ret
    exact ⟨rfl, HB5.out⟩


end Go.Proofs.Ytmkmefdajbdceaa.PVG
