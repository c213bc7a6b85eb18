-- Written by wip/mprint.py (the kit's printer, and texts of this claim's own for what it does not take). Not trusted: Lean checks it.
import Derived.Test.YtmkmefdajbdceaaPVRx0
namespace Go.Proofs.Ytmkmefdajbdceaa.PVR
open Go.RowKit Go.Proofs.YtmkmefdajbdceaaW.PrintWords Go.Proofs.YtmkmefdajbdceaaW.PrintLast Go.Proofs.YtmkmefdajbdceaaW.PrintMore
attribute [local go_sem] max2_int min2_int max_two min_two max_three min_three max_four min_four   -- for this text's walks alone
set_option linter.unusedVariables false
set_option linter.unusedSimpArgs false

/-! ### mailcoachlaw01_Beyond: function 20 -/
def mailcoachlaw01_Beyond.l0 : Nat → List Int → Int → Int → Option (Bool)
  | 0, _, _, _ => none
  | k + 1, x0, x3, x4 => if x4 < (x0.length : Int) then (if 0 ≤ x4 then (if (wrap64 (x3 + (rd x0 x4))) > 1048576 then (some true) else (mailcoachlaw01_Beyond.l0 k x0 (wrap64 (x3 + (rd x0 x4))) (wrap64 (x4 + 1)))) else (none)) else (some false)
def mailcoachlaw01_Beyond.f (k : Nat) (l0 : List Int) : Option (Bool) := mailcoachlaw01_Beyond.l0 k l0 0 0
theorem mailcoachlaw01_Beyond.mono_l : ∀ k, (∀ y0 y1 y2, LeO (mailcoachlaw01_Beyond.l0 k y0 y1 y2) (mailcoachlaw01_Beyond.l0 (k + 1) y0 y1 y2))
  | 0 => fun _ _ _ r h => by simp [mailcoachlaw01_Beyond.l0] at h
  | k + 1 => by
    have ih0 := mailcoachlaw01_Beyond.mono_l k
    · intro y0 y1 y2
      unfold mailcoachlaw01_Beyond.l0
      repeat' first
      | (with_reducible exact ih0 _ _ _)
      | (with_reducible exact LeO.refl _)
      | (with_reducible exact LeO.none _)
      | (with_reducible refine LeO.ite ?_ ?_)
      | (with_reducible refine LeO.bind ?_ (fun _ => ?_))
      | exact ih0 _ _ _
      | exact LeO.none _
      | refine LeO.ite ?_ ?_
      | refine LeO.bind ?_ (fun _ => ?_)
theorem mailcoachlaw01_Beyond.mono : ∀ a0 k, LeO (mailcoachlaw01_Beyond.f k a0) (mailcoachlaw01_Beyond.f (k + 1) a0) := by
  intro a0 k
  have ih0 := mailcoachlaw01_Beyond.mono_l k
  unfold mailcoachlaw01_Beyond.f
  repeat' first
      | (with_reducible exact ih0 _ _ _)
      | (with_reducible exact LeO.refl _)
      | (with_reducible exact LeO.none _)
      | (with_reducible refine LeO.ite ?_ ?_)
      | (with_reducible refine LeO.bind ?_ (fun _ => ?_))
      | exact ih0 _ _ _
      | exact LeO.none _
      | refine LeO.ite ?_ ?_
      | refine LeO.bind ?_ (fun _ => ?_)
set_option maxHeartbeats 8000000 in
set_option maxRecDepth 100000 in
theorem mailcoachlaw01_Beyond.calls (k : Nat) (A0 : Option Addr) (c0 : Nat) (l0 : List Int) (r : Bool) (w : World) (hr0 : Kd.C (Kd.int .i64) w A0 l0.length l0) (hc0 : l0.length ≤ c0) (h : mailcoachlaw01_Beyond.f k l0 = some r) :
    Calls Try.prog 20 #[.slice A0 l0.length c0] w fun e w' => e = .returned (.bool r) ∧ Drawn0 w w' := by
  have HR0 := Aside0.mk hr0
  have HC0 := Aside0.mk hc0
  clear hr0 hc0
  have H : (mailcoachlaw01_Beyond.l0 k l0 0 0) = some r := h
  clear h
  have H' := Aside0.mk H
  clear H
  go_enter Try.func20, Try.ntmps20
  go_wp2
  go_loopg [3, 4] k (fun kq v3 v4 w' => ∃ (x3_1 : Int) (x4_1 : Int), v3 = .int .i64 x3_1 ∧ v4 = .int .i64 x4_1 ∧ Aside0 (mailcoachlaw01_Beyond.l0 kq l0 x3_1 x4_1 = some r) ∧ Aside0 (kq ≤ k) ∧ Drawn0 w w')
  case atStart => exact ⟨(0), (0), (by first | rfl | (simp; done) | (simp [*]; done)), (by first | rfl | (simp; done) | (simp [*]; done)), H', ⟨Nat.le_refl _⟩, by repeat (first | exact Drawn0.refl _ | apply Drawn0.step)⟩
  case round =>
    clear H'
    obtain ⟨x3_1, x4_1, rfl, rfl, HA, HK1, ⟨m1, rfl⟩⟩ := hrel
    cases gk with
    | zero => exact absurd HA.out (by simp [mailcoachlaw01_Beyond.l0])
    | succ k1 =>
      have H := HA.out
      clear HA
      simp only [mailcoachlaw01_Beyond.l0] at H
      by_cases c2 : x4_1 < (l0.length : Int)
      · rw [if_pos c2] at H
        have c2b0 : decide (x4_1 < (l0.length : Int)) = true := decide_eq_true c2
        clear c2
        by_cases c3 : 0 ≤ x4_1
        · rw [if_pos c3] at H
          have c3b0 : decide (0 ≤ x4_1) = true := decide_eq_true c3
          clear c3
          by_cases c4 : (wrap64 (x3_1 + (rd l0 x4_1))) > 1048576
          · rw [if_pos c4] at H
            have c4b0 : decide (1048576 < (wrap64 (x3_1 + (rd l0 x4_1)))) = true := decide_eq_true c4
            clear c4
            obtain rfl := Option.some.inj H
            have p101 : 0 ≤ (x4_1 : Int) := of_decide_eq_true (by first | (with_reducible assumption) | assumption)
            have q101 : x4_1 < (l0.length : Int) := of_decide_eq_true (by first | (with_reducible assumption) | assumption)
            obtain ⟨ad101, e101, hx101_0⟩ := Kd.at_int HR0.out x4_1 p101 q101
            cases e101
            replace p101 := eq_true p101
            replace q101 := eq_true q101
            go_wp2
            go_ret
            exact ⟨by first | rfl | (simp; done) | (simp [*]; done), by repeat (first | exact Drawn0.refl _ | apply Drawn0.step)⟩
          · rw [if_neg c4] at H
            have c4b0 : decide (1048576 < (wrap64 (x3_1 + (rd l0 x4_1)))) = false := decide_eq_false c4
            clear c4
            have H' := Aside0.mk H
            clear H
            have p101 : 0 ≤ (x4_1 : Int) := of_decide_eq_true (by first | (with_reducible assumption) | assumption)
            have q101 : x4_1 < (l0.length : Int) := of_decide_eq_true (by first | (with_reducible assumption) | assumption)
            obtain ⟨ad101, e101, hx101_0⟩ := Kd.at_int HR0.out x4_1 p101 q101
            cases e101
            replace p101 := eq_true p101
            replace q101 := eq_true q101
            go_wp2
            go_roundg k1
            case measure => have := HK1.out; omega
            case rel => exact ⟨(wrap64 (x3_1 + (rd l0 x4_1))), (wrap64 (x4_1 + 1)), (by first | rfl | (simp; done) | (simp [*]; done)), (by first | rfl | (simp; done) | (simp [*]; done)), H', ⟨by have := HK1.out; omega⟩, by repeat (first | exact Drawn0.refl _ | apply Drawn0.step)⟩
        · rw [if_neg c3] at H
          exact absurd H (by simp)
      · rw [if_neg c2] at H
        have c2b0 : decide (x4_1 < (l0.length : Int)) = false := decide_eq_false c2
        clear c2
        obtain rfl := Option.some.inj H
        go_wp2
        go_ret
        exact ⟨by first | rfl | (simp; done) | (simp [*]; done), by repeat (first | exact Drawn0.refl _ | apply Drawn0.step)⟩

/-! ### mailcoachlaw01_TwinBytes: function 21, by hand -/
theorem man_info_u8 : (Try.prog.info? 5).map (fun i => (i.zero, i.size, i.bytes)) = some (some (.int .u8 0), 1, 1) := by kernel_rfl
/-- A number's place in a list. -/
theorem man_take_snoc (l : List Int) (k : Nat) (hk : k < l.length) : l.take (k + 1) = l.take k ++ [rd l k] := by
  rw [List.take_succ_eq_append_getElem hk]
  simp [rd, List.getD_eq_getElem?_getD, List.getElem?_eq_getElem hk]
/-- A list of bytes in memory of the call's own, with the mark behind it. -/
def Twin (w : World) (base : Nat) (v : Value) (l : List Int) : Prop :=
  ∃ g cap, v = .slice (some ⟨g, 0, none⟩) l.length cap ∧ w.ownsRow base 5 1 (.slice (some ⟨g, 0, none⟩) (l.length + 1) cap) (l.length + 1) (nums .u8 (l ++ [77]))
theorem Twin.below {w w1 : World} {base : Nat} {v : Value} {l : List Int} (h : Twin w base v l) (hb : Below w.heap.size w w1) : Twin w1 base v l := by
  obtain ⟨g, cap, hv, ho⟩ := h
  exact ⟨g, cap, hv, pw_own_below ho hb⟩
theorem Twin.reads {w : World} {base : Nat} {v : Value} {l : List Int} (h : Twin w base v l) : ∃ A c, v = .slice A l.length c ∧ Kd.C (Kd.int .u8) w A l.length l ∧ l.length + 1 ≤ c ∧ Kd.C (Kd.int .u8) w A (l ++ [77]).length (l ++ [77]) := by
  obtain ⟨g, cap, rfl, ho⟩ := h
  have hr := own_reads' ho
  have hC : Kd.C (Kd.int .u8) w (some ⟨g, 0, none⟩) (l ++ [77]).length (l ++ [77]) := by
    have h := Kd.C_of_reads (enc := Value.int .u8) (d := (0 : Int)) (h1 := fun _ => rfl) hr
    rw [List.length_append]
    exact h
  refine ⟨some ⟨g, 0, none⟩, cap, rfl, ?_, own_cap ho, hC⟩
  have h2 := Kd.C_take (m := l.length) hC (by simp)
  simpa using h2

set_option maxHeartbeats 1600000 in
set_option maxRecDepth 100000 in
theorem mailcoachlaw01_TwinBytes.twin (A0 : Option Addr) (c0 : Nat) (l0 : List Int) (w : World) (hr0 : Kd.C (Kd.int .u8) w A0 l0.length l0) (hc0 : l0.length ≤ c0) (hn : l0.length ≤ 140737488351232) :
    Calls Try.prog 21 #[.slice A0 l0.length c0] w fun e w' => ∃ v, e = .returned v ∧ Twin w' w.heap.size v l0 ∧ Below w.heap.size w w' := by
  have HR0 := Aside0.mk hr0
  clear hr0 hc0
  obtain ⟨i0, hi, hzz⟩ := Option.map_eq_some_iff.1 man_info_u8
  simp only [Prod.mk.injEq] at hzz
  obtain ⟨hz0, hz1, hz2⟩ := hzz
  have hmk : ∀ W : World, (Instr.makeSlice 22 (.int .i64 0) (.int .i64 ((l0.length : Int) + 1))).run Try.prog W = .ok (.slice (some ⟨W.heap.size, 0, none⟩) 0 (l0.length + 1)) (W.alloc (.cells (madeCells #[.int .u8 0] (l0.length + 1)) 5)) := by
    intro W
    have h := run_make W 22 5 i0 (.int .u8 0) Try.underlying22 hi hz0 .i64 .i64 0 ((l0.length + 1 : Nat) : Int) (by omega) (by omega) (by rw [hz2]; omega) (by omega)
    rw [hz1] at h
    simp only [Int.toNat_natCast, Int.toNat_zero, Int.natCast_add, Int.natCast_one, Nat.mul_one, Value.cells] at h
    exact h
  go_enter Try.func21, Try.ntmps21
  go_wp2
  go_loopw [3, 4] (fun v3 v4 wr => ∃ k : Nat, k ≤ l0.length ∧ v4 = .int .i64 k ∧ Aside0 (wr.ownsRow w.heap.size 5 1 v3 (l0.take k).length (nums .u8 (l0.take k))) ∧ Aside0 (Below w.heap.size w wr)) (fun _ v4 _ => l0.length - (intOf v4).toNat)
  case atStart => exact ⟨0, by omega, rfl, ⟨World.ownsRow_made w _ _ (Nat.le_refl _) (by simp only [maxLen]; omega) (by rw [size_madeCells, Nat.mul_one])⟩, ⟨below_alloc (Below.refl _ _) _⟩⟩
  case round =>
    obtain ⟨k, hk, rfl, HO, HB⟩ := hrel
    by_cases hk2 : k < l0.length
    · obtain ⟨ad2, e2, hx2⟩ := Kd.at_int (Kd.C_below HR0.out HB.out) k (by omega) (by omega)
      cases e2
      simp only [Int.toNat_natCast] at hx2
      have hlk : (l0.take k).length = k := by rw [List.length_take]; omega
      have HLK := Aside0.mk hlk
      clear hlk
      go_wp2_with (at_builtin; refine print_append_num (w0 := w) w.heap.size rfl (.tmp 15) (.tmp 20) 22 5 .u8 1 rfl Try.underlying22 man_info_u8 (by decide) _ (l0.take k) (rd l0 k) rfl rfl HO.out HB.out HB.out.size (by rw [HLK.out]; omega) ?_; intro v1 w1 ho1 hb1 _ _)
      go_roundw
      case rel => exact ⟨k + 1, by omega, by go_num, ⟨by rw [man_take_snoc l0 k hk2]; exact ho1⟩, ⟨hb1⟩⟩
      case measure => simp [intOf]; omega
    · have hkl : l0.take k = l0 := List.take_of_length_le (by omega)
      rw [hkl] at HO
      clear hkl
      go_wp2_with (at_builtin; go_must (refine print_append_num (w0 := w) w.heap.size rfl (.tmp 22) (.tmp 23) 22 5 .u8 1 rfl Try.underlying22 man_info_u8 (by decide) _ l0 77 rfl rfl HO.out HB.out HB.out.size (by omega) ?_; intro v1 w1 ho1 hb1 _ _; obtain ⟨g, cap, rfl, hgb, hgl⟩ := ho1.form (by simp); have hcap := own_cap ho1; have hL77 : (l0 ++ [(77 : Int)]).length = l0.length + 1 := (by simp); rw [hL77] at hcap ho1 ⊢; clear hL77; have HO1 := Aside0.mk ho1; clear ho1; have HB1 := Aside0.mk hb1; clear hb1; have hcut := cut_to (P := Try.prog) 22 5 .i64 (i := i0) Try.underlying22 hi (some ⟨g, 0, none⟩) (l0.length + 1) cap l0.length (by omega) (by omega) hcap))
      go_ret
      exact ⟨_, rfl, ⟨g, cap, rfl, HO1.out⟩, HB1.out⟩


/-! ### mailcoachlaw01_LeftBytes: function 24, by hand -/
set_option maxHeartbeats 1600000 in
set_option maxRecDepth 100000 in
theorem mailcoachlaw01_LeftBytes.twin (v : Value) (base : Nat) (A1 : Option Addr) (c1 : Nat) (l1 : List Int) (w : World) (hv : Twin w base v l1) (hr1 : Kd.C (Kd.int .u8) w A1 l1.length l1) (hc1 : l1.length ≤ c1) :
    Calls Try.prog 24 #[v, .slice A1 l1.length c1] w fun e w' => e = .returned (.bool true) ∧ Drawn0 w w' := by
  obtain ⟨A0, c0, rfl, hr0, hc0, hr2⟩ := hv.reads
  have HR0 := Aside0.mk hr0
  have HR1 := Aside0.mk hr1
  have HR2 := Aside0.mk hr2
  clear hr0 hr1 hr2 hv
  obtain ⟨i0, hi, hzz⟩ := Option.map_eq_some_iff.1 man_info_u8
  have hl : l1.length ≤ 9223372036854775806 := by have := HR2.out.2.1; rw [List.length_append] at this; simp at this; omega
  have h77 : (l1 ++ [(77 : Int)]).length = l1.length + 1 := by simp
  have hrd : rd (l1 ++ [77]) l1.length = 77 := by simp [rd]
  obtain ⟨ad, e0, hx7⟩ := Kd.at_int HR2.out l1.length (by omega) (by rw [h77]; omega)
  cases e0
  rw [hrd] at hx7
  simp only [Int.toNat_natCast] at hx7
  have hcut := cut_to (P := Try.prog) 22 5 .i64 (i := i0) Try.underlying22 hi (some ad) c0 c0 ((l1.length : Int) + 1) (by omega) (by omega) (by omega)
  clear hzz hi
  clear h77 hrd
  have hcap : decide (c0 ≤ l1.length) = false := by simp; omega
  have hne : ((l1.length : Int) != (l1.length : Int)) = false := by simp
  go_enter Try.func24, Try.ntmps24
  go_wp2
  go_loopw [5] (fun v5 wr => ∃ k : Nat, k ≤ l1.length ∧ v5 = .int .i64 k ∧ Drawn0 w wr) (fun v5 _ => l1.length - (intOf v5).toNat)
  case atStart => exact ⟨0, by omega, rfl, Drawn0.refl _⟩
  case round =>
    obtain ⟨k, hk, rfl, HD⟩ := hrel
    obtain ⟨m1, rfl⟩ := HD.out
    by_cases hk2 : k < l1.length
    · obtain ⟨ad2, e2, hx2⟩ := Kd.at_int HR1.out k (by omega) (by omega)
      cases e2
      obtain ⟨ad3, e3, hx3⟩ := Kd.at_int HR0.out k (by omega) (by omega)
      cases e3
      simp only [Int.toNat_natCast] at hx2 hx3
      go_wp2
      go_quiet (fail)
      go_wp2
      go_roundw
      case rel => exact ⟨k + 1, by omega, by go_num, by repeat (first | exact Drawn0.refl _ | apply Drawn0.step)⟩
      case measure => simp [intOf]; omega
    · go_wp2
      go_ret
      exact ⟨rfl, HD⟩


/-! ### varint_GetPrefix: function 25, by hand -/
theorem or_join (i : Nat) (a c : Int) (h0 : 0 ≤ a) (c0 : 0 ≤ c) (c1 : c < 2 ^ i) (h1 : a * 2 ^ i + c < 18446744073709551616) : bits .or .u64 (a * 2 ^ i) c = a * 2 ^ i + c := by
  obtain ⟨a, rfl⟩ := Int.eq_ofNat_of_zero_le h0
  obtain ⟨c, rfl⟩ := Int.eq_ofNat_of_zero_le c0
  have e : (a : Int) * 2 ^ i = ((2 ^ i * a : Nat) : Int) := by rw [Int.natCast_mul, Int.natCast_pow, Int.mul_comm]; rfl
  rw [e] at h1 ⊢
  have hc : c < 2 ^ i := by
    have : ((2 ^ i : Nat) : Int) = 2 ^ i := by rw [Int.natCast_pow]; rfl
    omega
  rw [u64_or_nat _ _ (by omega) (by omega), ← Nat.two_pow_add_eq_or_of_lt hc]
  omega
theorem or_comm64 (a c : Int) (h0 : 0 ≤ a) (h1 : a < 18446744073709551616) (c0 : 0 ≤ c) (c1 : c < 18446744073709551616) : bits .or .u64 a c = bits .or .u64 c a := by
  rw [u64_or a c h0 h1 c0 c1, u64_or c a c0 c1 h0 h1, Nat.or_comm]
theorem u8_and127 (x : Int) (h0 : 0 ≤ x) (h1 : x < 256) : bits .and .u8 x 127 = x % 128 := bits_mask .u8 8 (by decide) wraps_u8 7 (by decide) x h0 h1

def varint_GetPrefix.ok (l : List Int) : Bool := l.all fun x => decide (0 ≤ x) && decide (x < 256)
/-- What is told of the bytes behind the first one, from number i on, v being what came up to there. -/
def varint_GetPrefix.S (t : List Int) (m above : Int) : Nat → Nat → Int → Int × Int × Int × Int
  | 0, _, _ => (0, 0, 0, if t.length ≥ 10 then 5 else 4)
  | d + 1, i, v => if i < t.length then
      (if rd t i < 128 then
        (if v + rd t i % 128 * 2 ^ (7 * i) > 4611686018427387903 - m then (0, 0, 0, 3) else (above, v + rd t i % 128 * 2 ^ (7 * i) + m, (i : Int) + 2, 0))
       else varint_GetPrefix.S t m above d (i + 1) (v + rd t i % 128 * 2 ^ (7 * i)))
      else (0, 0, 0, if t.length ≥ 10 then 5 else 4)
def varint_GetPrefix.M (a0 : Int) : Int := 2 ^ a0.toNat - 1
def varint_GetPrefix.f (a0 : Int) (l1 : List Int) : Option (Int × Int × Int × Int) :=
  if a0 < 1 ∨ 8 < a0 then some (0, 0, 0, 1)
  else if l1.length = 0 then some (0, 0, 0, 4)
  else if varint_GetPrefix.ok l1 = true then
    (if rd l1 0 % 2 ^ a0.toNat < varint_GetPrefix.M a0 then some (rd l1 0 - rd l1 0 % 2 ^ a0.toNat, rd l1 0 % 2 ^ a0.toNat, 1, 0)
     else some (varint_GetPrefix.S (l1.drop 1) (varint_GetPrefix.M a0) (rd l1 0 - rd l1 0 % 2 ^ a0.toNat) 10 0 0))
  else none
theorem varint_GetPrefix.rd_bd {l : List Int} (hl : varint_GetPrefix.ok l = true) (i : Nat) (hi : i < l.length) : 0 ≤ rd l i ∧ rd l i < 256 := by
  have h := List.all_eq_true.1 hl (rd l i) (by
    unfold rd
    rw [List.getD_eq_getElem?_getD, List.getElem?_eq_getElem (by simpa using hi)]
    exact List.getElem_mem _)
  simpa using h
theorem varint_GetPrefix.bad (A1 : Option Addr) (c1 : Nat) (l1 : List Int) (a0 : Int) (w : World) (h : a0 < 1 ∨ 8 < a0) :
    Calls Try.prog 25 #[.int .i64 a0, .slice A1 l1.length c1] w fun e w' => e = .returned (.tuple #[.int .u8 0, .int .u64 0, .int .i64 0, .int .i64 1]) ∧ Drawn0 w w' := by
  rcases h with h | h
  · go_enter Try.func25, Try.ntmps25
    go_wp2
    exact bodyPost_ret (v := .tuple #[.int .u8 0, .int .u64 0, .int .i64 0, .int .i64 1]) (by simp [results, Try.results25, go_sem]) rfl ⟨rfl, Drawn0.refl _⟩
  · have h1 : ¬ a0 < 1 := by omega
    go_enter Try.func25, Try.ntmps25
    go_wp2
    exact bodyPost_ret (v := .tuple #[.int .u8 0, .int .u64 0, .int .i64 0, .int .i64 1]) (by simp [results, Try.results25, go_sem]) rfl ⟨rfl, Drawn0.refl _⟩
theorem varint_GetPrefix.short (A1 : Option Addr) (c1 : Nat) (a0 : Int) (w : World) (h : 1 ≤ a0) (h8 : a0 ≤ 8) :
    Calls Try.prog 25 #[.int .i64 a0, .slice A1 0 c1] w fun e w' => e = .returned (.tuple #[.int .u8 0, .int .u64 0, .int .i64 0, .int .i64 4]) ∧ Drawn0 w w' := by
  go_enter Try.func25, Try.ntmps25
  go_wp2
  exact bodyPost_ret (v := .tuple #[.int .u8 0, .int .u64 0, .int .i64 0, .int .i64 4]) (by simp [results, Try.results25, go_sem]) rfl ⟨rfl, Drawn0.refl _⟩
/-- The machine's words for the mask and what it parts. -/
theorem varint_GetPrefix.mask (a0 x : Int) (h : 1 ≤ a0) (h8 : a0 ≤ 8) (x0 : 0 ≤ x) (x1 : x < 256) :
    IntKind.u64.wrap (IntKind.u64.wrap (2 ^ a0.toNat) - 1) = varint_GetPrefix.M a0 ∧ varint_GetPrefix.M a0 % 256 = varint_GetPrefix.M a0 ∧
    bits .and .u64 x (varint_GetPrefix.M a0) = x % 2 ^ a0.toNat ∧ bits .andNot .u8 x (varint_GetPrefix.M a0) = x - x % 2 ^ a0.toNat ∧ 1 ≤ varint_GetPrefix.M a0 ∧ varint_GetPrefix.M a0 ≤ 255 ∧ 0 ≤ x % 2 ^ a0.toNat := by
  have hx : x = ((x.toNat : Nat) : Int) := by omega
  have hxl : x.toNat < 256 := by omega
  rcases (show a0 = 1 ∨ a0 = 2 ∨ a0 = 3 ∨ a0 = 4 ∨ a0 = 5 ∨ a0 = 6 ∨ a0 = 7 ∨ a0 = 8 by omega) with rfl | rfl | rfl | rfl | rfl | rfl | rfl | rfl
  all_goals
    refine ⟨by decide +kernel, by decide +kernel, ?_, ?_, by decide +kernel, by decide +kernel, by omega⟩
    · rw [hx]
      exact of_decide_eq_true (List.all_eq_true.1 (show (List.range 256).all (fun n => decide (bits .and .u64 (n : Int) (varint_GetPrefix.M _) = (n : Int) % 2 ^ (Int.toNat _))) = true by decide +kernel) _ (List.mem_range.2 hxl))
    · rw [hx]
      exact of_decide_eq_true (List.all_eq_true.1 (show (List.range 256).all (fun n => decide (bits .andNot .u8 (n : Int) (varint_GetPrefix.M _) = (n : Int) - (n : Int) % 2 ^ (Int.toNat _))) = true by decide +kernel) _ (List.mem_range.2 hxl))
theorem varint_GetPrefix.S_end (t : List Int) (m a : Int) (d i : Nat) (v : Int) (h : d = 0 ∨ ¬ i < t.length) : varint_GetPrefix.S t m a d i v = (0, 0, 0, if t.length ≥ 10 then 5 else 4) := by
  cases d with
  | zero => simp only [varint_GetPrefix.S]
  | succ d =>
    simp only [varint_GetPrefix.S]
    rw [if_neg (by omega)]
/-- One part more. -/
theorem varint_GetPrefix.add (i : Nat) (hi : i < 10) (p v : Int) (p0 : 0 ≤ p) (p1 : p < 128) (v0 : 0 ≤ v) (v1 : v < 2 ^ (7 * i)) :
    (p * 2 ^ (7 * i) < 18446744073709551616 ∧ IntKind.u64.wrap (p * 2 ^ (7 * i)) / 2 ^ (7 * i) = p ∧ bits .or .u64 v (IntKind.u64.wrap (p * 2 ^ (7 * i))) = v + p * 2 ^ (7 * i) ∧ v + p * 2 ^ (7 * i) < 18446744073709551616 ∧ v + p * 2 ^ (7 * i) < 2 ^ (7 * (i + 1)) ∧ 0 ≤ p * 2 ^ (7 * i)) ∨
    (18446744073709551616 ≤ p * 2 ^ (7 * i) ∧ (IntKind.u64.wrap (p * 2 ^ (7 * i)) / 2 ^ (7 * i) != p) = true ∧ i = 9 ∧ v + p * 2 ^ (7 * i) < 2 ^ (7 * (i + 1))) := by
  by_cases ho : p * 2 ^ (7 * i) < 18446744073709551616
  · left
    have hw : IntKind.u64.wrap (p * 2 ^ (7 * i)) = p * 2 ^ (7 * i) := by
      rw [IntKind.wrap_u64, Int.emod_eq_of_lt (Int.mul_nonneg p0 (Int.le_of_lt (Int.pow_pos (by decide)))) ho]
    have hs : v + p * 2 ^ (7 * i) < 18446744073709551616 ∧ v + p * 2 ^ (7 * i) < 2 ^ (7 * (i + 1)) ∧ 0 ≤ p * 2 ^ (7 * i) ∧ p * 2 ^ (7 * i) / 2 ^ (7 * i) = p := by
      rcases (show i = 0 ∨ i = 1 ∨ i = 2 ∨ i = 3 ∨ i = 4 ∨ i = 5 ∨ i = 6 ∨ i = 7 ∨ i = 8 ∨ i = 9 by omega) with rfl | rfl | rfl | rfl | rfl | rfl | rfl | rfl | rfl | rfl <;> simp only [Nat.reduceMul, Nat.reduceAdd, Int.reducePow] at v1 ho ⊢ <;> omega
    rw [hw]
    refine ⟨ho, hs.2.2.2, ?_, hs.1, hs.2.1, hs.2.2.1⟩
    have e := or_join (7 * i) p v p0 v0 v1 (by omega)
    rw [or_comm64 _ _ v0 (by omega) hs.2.2.1 ho, e, Int.add_comm]
  · right
    have h9 : i = 9 := by
      rcases (show i = 0 ∨ i = 1 ∨ i = 2 ∨ i = 3 ∨ i = 4 ∨ i = 5 ∨ i = 6 ∨ i = 7 ∨ i = 8 ∨ i = 9 by omega) with rfl | rfl | rfl | rfl | rfl | rfl | rfl | rfl | rfl | rfl <;> first | rfl | (simp only [Nat.reduceMul, Nat.reduceAdd, Int.reducePow] at v1 ho; omega)
    subst h9
    simp only [Nat.reduceMul, Nat.reduceAdd, Int.reducePow] at v1 ho ⊢
    refine ⟨by omega, ?_, trivial, by omega⟩
    rw [IntKind.wrap_u64]
    simp only [bne_iff_ne, ne_eq]
    omega
set_option maxHeartbeats 6400000 in
set_option maxRecDepth 100000 in
theorem varint_GetPrefix.main (A1 : Option Addr) (c1 : Nat) (l1 : List Int) (a0 : Int) (w : World) (h : 1 ≤ a0) (h8 : a0 ≤ 8) (hr1 : Kd.C (Kd.int .u8) w A1 l1.length l1) (hc1 : l1.length ≤ c1) (hn : 0 < l1.length) (hok : varint_GetPrefix.ok l1 = true) (R1 R2 R3 R4 : Int)
    (hR : (if rd l1 0 % 2 ^ a0.toNat < varint_GetPrefix.M a0 then (rd l1 0 - rd l1 0 % 2 ^ a0.toNat, rd l1 0 % 2 ^ a0.toNat, 1, 0)
     else (varint_GetPrefix.S (l1.drop 1) (varint_GetPrefix.M a0) (rd l1 0 - rd l1 0 % 2 ^ a0.toNat) 10 0 0)) = (R1, R2, R3, R4)) :
    Calls Try.prog 25 #[.int .i64 a0, .slice A1 l1.length c1] w fun e w' => e = .returned (.tuple #[.int .u8 R1, .int .u64 R2, .int .i64 R3, .int .i64 R4]) ∧ Drawn0 w w' := by
  have HR := Aside0.mk hR
  have HR1 := Aside0.mk hr1
  have HC1 := Aside0.mk hc1
  have HOK := Aside0.mk hok
  have hb := varint_GetPrefix.rd_bd hok 0 hn
  clear hr1 hc1 hok hR
  obtain ⟨ad1, e1, hx1⟩ := Kd.at_int HR1.out 0 (by omega) (by omega)
  cases e1
  have hx0 : w.cell? ad1 = some (.int .u8 (rd l1 0)) := by simpa [go_sem] using hx1
  clear hx1
  have hne : ((l1.length : Int) == 0) = false := by simp; intro h; rw [h] at hn; exact absurd hn (Nat.lt_irrefl 0)
  have hlt : 0 < (l1.length : Int) := by omega
  have hb0 : 0 ≤ rd l1 0 := hb.1
  have hb1 : rd l1 0 < 256 := hb.2
  obtain ⟨e1, e2, e3, e4, m1, m2, k0⟩ := varint_GetPrefix.mask a0 (rd l1 0) h h8 hb0 hb1
  obtain ⟨M, hM⟩ : ∃ M, varint_GetPrefix.M a0 = M := ⟨_, rfl⟩
  obtain ⟨K, hK⟩ : ∃ K, rd l1 0 % 2 ^ a0.toNat = K := ⟨_, rfl⟩
  obtain ⟨B, hB⟩ : ∃ B, rd l1 0 - K = B := ⟨_, rfl⟩
  rw [hM] at e1 e2 e3 e4 m1 m2 HR
  rw [hK] at e3 e4 k0 HR
  rw [hB] at e4 HR
  clear hM hK hB hb
  by_cases hKM : K < M
  · rw [if_pos hKM] at HR
    have hj := HR.out
    simp only [Prod.mk.injEq] at hj
    obtain ⟨rfl, rfl, rfl, rfl⟩ := hj
    clear HR
    go_enter Try.func25, Try.ntmps25
    go_wp2
    exact bodyPost_ret (v := .tuple #[.int .u8 B, .int .u64 K, .int .i64 1, .int .i64 0]) (by simp [results, Try.results25, go_sem]) rfl ⟨rfl, Drawn0.refl _⟩
  · rw [if_neg hKM] at HR
    have hd1 : decide (a0 < 1) = false := decide_eq_false (by omega)
    have hd8 : decide (8 < a0) = false := decide_eq_false (by omega)
    obtain ⟨A2, hA2⟩ : ∃ A2, (if c1 = (1 : Int).toNat then some ad1 else (some ad1).map (·.add ((1 : Int).toNat * 1))) = A2 := ⟨_, rfl⟩
    have hcut := cut_from (P := Try.prog) 22 5 .i64 Try.underlying22 (i := _) rfl 1 rfl (some ad1) l1.length c1 1 (by omega) (by omega)
    have hC2 := Kd.C_drop (m := 1) HR1.out (by omega) HC1.out
    rw [hA2] at hcut
    have hA2' : (if c1 = 1 then some ad1 else (some ad1).map (·.add (1 * 1))) = A2 := hA2
    rw [show (Kd.int IntKind.u8).sz = 1 from rfl, hA2'] at hC2
    obtain ⟨t, ht⟩ : ∃ t, l1.drop 1 = t := ⟨_, rfl⟩
    have hok2 : varint_GetPrefix.ok t = true := by rw [← ht]; exact List.all_eq_true.2 fun x hx => List.all_eq_true.1 HOK.out x (List.mem_of_mem_drop hx)
    have hl2 : l1.length = t.length + 1 := by rw [← ht, List.length_drop]; omega
    rw [ht] at hC2 HR
    have HC2 := Aside0.mk hC2
    have HOK2 := Aside0.mk hok2
    rw [hl2] at hcut hne hlt ⊢
    simp only [Nat.add_sub_cancel, show Int.toNat 1 = 1 from rfl] at hcut
    clear hC2 hA2 hA2' ht hl2 HR1 HC1 HOK hok2
    go_enter Try.func25, Try.ntmps25
    go_wp2
    go_loop [11, 12, 50] (fun v11 v12 v50 => ∃ (i : Nat) (v : Int), i ≤ 10 ∧ v50 = .int .i64 i ∧ Aside0 (i < 10 → v12 = .bool false ∧ v11 = .int .u64 v) ∧ 0 ≤ v ∧ Aside0 (v < 2 ^ (7 * i)) ∧ Aside0 (varint_GetPrefix.S t M B (10 - i) i v = (R1, R2, R3, R4))) (fun _ _ v50 => 10 - (intOf v50).toNat)
    case atStart => exact ⟨0, 0, by omega, rfl, ⟨fun _ => ⟨rfl, rfl⟩⟩, by omega, ⟨by decide⟩, HR⟩
    case round =>
      obtain ⟨i, v, hi, rfl, H12, hv0, HV, HS⟩ := hrel
      clear HR
      by_cases hlen : i < t.length
      · by_cases hi10 : i = 10
        · have hS := HS.out
          rw [varint_GetPrefix.S_end t M B _ _ v (.inl (by omega)), if_pos (by omega)] at hS
          simp only [Prod.mk.injEq] at hS
          obtain ⟨rfl, rfl, rfl, rfl⟩ := hS
          obtain ⟨ad2, e5, hx2⟩ := Kd.at_int HC2.out i (by omega) (by omega)
          cases e5
          simp only [Int.toNat_natCast] at hx2
          have h10 : decide (10 < t.length + 1) = true := decide_eq_true (by omega)
          have hyt : ((i : Int) == 10) = true := by simp; omega
          have h10n : 10 < t.length := by omega
          clear HS HV hi10 H12
          go_wp2
          exact bodyPost_ret (v := .tuple #[.int .u8 0, .int .u64 0, .int .i64 0, .int .i64 5]) (by simp [results, Try.results25, go_sem]) rfl ⟨rfl, Drawn0.refl _⟩
        · have hi10' : i < 10 := by omega
          obtain ⟨rfl, rfl⟩ := H12.out hi10'
          obtain ⟨ad2, e5, hx2⟩ := Kd.at_int HC2.out i (by omega) (by omega)
          cases e5
          simp only [Int.toNat_natCast] at hx2
          have hc := varint_GetPrefix.rd_bd HOK2.out i hlen
          have hc0 := hc.1
          have hc1 := hc.2
          clear hc
          have hnt : ((i : Int) == 10) = false := by simp; omega
          have hpa := u8_and127 (rd t i) hc0 hc1
          obtain ⟨p, hp⟩ : ∃ p, rd t i % 128 = p := ⟨_, rfl⟩
          rw [hp] at hpa
          have p0 : 0 ≤ p := by omega
          have p1 : p < 128 := by omega
          obtain ⟨d, hd⟩ : ∃ d, 10 - i = d + 1 := ⟨9 - i, by omega⟩
          have hS := HS.out
          rw [hd] at hS
          simp only [varint_GetPrefix.S] at hS
          rw [if_pos hlen, hp] at hS
          clear HS
          rcases varint_GetPrefix.add i hi10' p v p0 p1 hv0 HV.out with ⟨o1, o2, o3, o4, o5, o6⟩ | ⟨o1, o2, o3, o4⟩
          · obtain ⟨q, hq⟩ : ∃ q, IntKind.u64.wrap (p * 2 ^ (7 * i)) = q := ⟨_, rfl⟩
            obtain ⟨v2, hv2⟩ : ∃ v2, v + p * 2 ^ (7 * i) = v2 := ⟨_, rfl⟩
            have v20 : 0 ≤ v2 := by omega
            rw [hq] at o2 o3
            rw [hv2] at o3 o4 o5 hS
            have O5 := Aside0.mk o5
            have HD := Aside0.mk hd
            clear o1 o5 o6 hp hd hv2
            by_cases hl : rd t i < 128
            · rw [if_pos hl] at hS
              by_cases hg : v2 > 4611686018427387903 - M
              · rw [if_pos hg] at hS
                simp only [Prod.mk.injEq] at hS
                obtain ⟨rfl, rfl, rfl, rfl⟩ := hS
                go_wp2
                exact bodyPost_ret (v := .tuple #[.int .u8 0, .int .u64 0, .int .i64 0, .int .i64 3]) (by simp [results, Try.results25, go_sem]) rfl ⟨rfl, Drawn0.refl _⟩
              · rw [if_neg hg] at hS
                simp only [Prod.mk.injEq] at hS
                obtain ⟨rfl, rfl, rfl, rfl⟩ := hS
                go_wp2
                exact bodyPost_ret (v := .tuple #[.int .u8 B, .int .u64 (v2 + M), .int .i64 ((i : Int) + 2), .int .i64 0]) (by simp [results, Try.results25, go_sem]) rfl ⟨rfl, Drawn0.refl _⟩
            · rw [if_neg hl] at hS
              have HS2 := Aside0.mk hS
              clear hS
              go_wp2
              go_round
              case rel => exact ⟨i + 1, v2, by omega, by go_num, ⟨fun _ => ⟨rfl, rfl⟩⟩, v20, ⟨O5.out⟩, ⟨by rw [show 10 - (i + 1) = d by have := HD.out; omega]; exact HS2.out⟩⟩
              case measure => simp [intOf]; omega
          · obtain ⟨v2, hv2⟩ : ∃ v2, v + p * 2 ^ (7 * i) = v2 := ⟨_, rfl⟩
            have v20 : 18446744073709551616 ≤ v2 := by omega
            rw [hv2] at o4 hS
            have O4 := Aside0.mk o4
            have HD := Aside0.mk hd
            have HO3 := Aside0.mk o3
            clear o1 o3 o4 hp hd hv2
            by_cases hl : rd t i < 128
            · rw [if_pos hl, if_pos (by omega)] at hS
              simp only [Prod.mk.injEq] at hS
              obtain ⟨rfl, rfl, rfl, rfl⟩ := hS
              go_wp2
              exact bodyPost_ret (v := .tuple #[.int .u8 0, .int .u64 0, .int .i64 0, .int .i64 3]) (by simp [results, Try.results25, go_sem]) rfl ⟨rfl, Drawn0.refl _⟩
            · rw [if_neg hl] at hS
              have HS2 := Aside0.mk hS
              have HV20 := Aside0.mk v20
              clear hS v20
              go_wp2
              go_round
              case rel => exact ⟨i + 1, v2, by omega, by go_num, ⟨fun h => absurd h (by have := HO3.out; omega)⟩, by have := HV20.out; omega, ⟨O4.out⟩, ⟨by rw [show 10 - (i + 1) = d by have := HD.out; omega]; exact HS2.out⟩⟩
              case measure => simp [intOf]; omega
      · have hS := HS.out
        rw [varint_GetPrefix.S_end t M B _ _ v (.inr hlen)] at hS
        clear HS HV
        by_cases h10 : t.length ≥ 10
        · rw [if_pos h10] at hS
          simp only [Prod.mk.injEq] at hS
          obtain ⟨rfl, rfl, rfl, rfl⟩ := hS
          have h10' : decide (10 < t.length + 1) = true := decide_eq_true (by omega)
          have hin : t.length ≤ i := by omega
          go_wp2
          exact bodyPost_ret (v := .tuple #[.int .u8 0, .int .u64 0, .int .i64 0, .int .i64 5]) (by simp [results, Try.results25, go_sem]) rfl ⟨rfl, Drawn0.refl _⟩
        · rw [if_neg h10] at hS
          simp only [Prod.mk.injEq] at hS
          obtain ⟨rfl, rfl, rfl, rfl⟩ := hS
          have h10' : decide (10 < t.length + 1) = false := decide_eq_false (by omega)
          go_wp2
          exact bodyPost_ret (v := .tuple #[.int .u8 0, .int .u64 0, .int .i64 0, .int .i64 4]) (by simp [results, Try.results25, go_sem]) rfl ⟨rfl, Drawn0.refl _⟩
theorem varint_GetPrefix.calls (a0 : Int) (A1 : Option Addr) (c1 : Nat) (l1 : List Int) (r1 : Int) (r2 : Int) (r3 : Int) (r4 : Int) (w : World) (hr1 : Kd.C (Kd.int .u8) w A1 l1.length l1) (hc1 : l1.length ≤ c1) (h : varint_GetPrefix.f a0 l1 = some (r1, r2, r3, r4)) :
    Calls Try.prog 25 #[.int .i64 a0, .slice A1 l1.length c1] w fun e w' => e = .returned (.tuple #[.int .u8 r1, .int .u64 r2, .int .i64 r3, .int .i64 r4]) ∧ Drawn0 w w' := by
  unfold varint_GetPrefix.f at h
  by_cases h1 : a0 < 1 ∨ 8 < a0
  · rw [if_pos h1] at h
    simp only [Option.some.injEq, Prod.mk.injEq] at h
    obtain ⟨rfl, rfl, rfl, rfl⟩ := h
    exact varint_GetPrefix.bad A1 c1 l1 a0 w h1
  · rw [if_neg h1] at h
    by_cases hn : l1.length = 0
    · rw [if_pos hn] at h
      simp only [Option.some.injEq, Prod.mk.injEq] at h
      obtain ⟨rfl, rfl, rfl, rfl⟩ := h
      rw [hn]
      exact varint_GetPrefix.short A1 c1 a0 w (by omega) (by omega)
    · rw [if_neg hn] at h
      by_cases hok : varint_GetPrefix.ok l1 = true
      · rw [if_pos hok] at h
        refine varint_GetPrefix.main A1 c1 l1 a0 w (by omega) (by omega) hr1 hc1 (by omega) hok r1 r2 r3 r4 ?_
        split at h <;> rename_i hlt
        · rw [if_pos hlt]; exact Option.some.inj h
        · rw [if_neg hlt]; exact Option.some.inj h
      · rw [if_neg hok] at h
        cases h


/-! ### mailcoachref01_most: function 43 -/
def mailcoachref01_most.l0 : Nat → Int → Int → Int → Option (Int)
  | 0, _, _, _ => none
  | k + 1, x0, x3, x4 => if x4 < x0 then (mailcoachref01_most.l0 k x0 (IntKind.u64.wrap (2 * x3)) (wrap64 (x4 + 1))) else (some (IntKind.u64.wrap (x3 - 1)))
def mailcoachref01_most.f (k : Nat) (a0 : Int) : Option (Int) := mailcoachref01_most.l0 k a0 1 0
theorem mailcoachref01_most.mono_l : ∀ k, (∀ y0 y1 y2, LeO (mailcoachref01_most.l0 k y0 y1 y2) (mailcoachref01_most.l0 (k + 1) y0 y1 y2))
  | 0 => fun _ _ _ r h => by simp [mailcoachref01_most.l0] at h
  | k + 1 => by
    have ih0 := mailcoachref01_most.mono_l k
    · intro y0 y1 y2
      unfold mailcoachref01_most.l0
      repeat' first
      | (with_reducible exact ih0 _ _ _)
      | (with_reducible exact LeO.refl _)
      | (with_reducible exact LeO.none _)
      | (with_reducible refine LeO.ite ?_ ?_)
      | (with_reducible refine LeO.bind ?_ (fun _ => ?_))
      | exact ih0 _ _ _
      | exact LeO.none _
      | refine LeO.ite ?_ ?_
      | refine LeO.bind ?_ (fun _ => ?_)
theorem mailcoachref01_most.mono : ∀ a0 k, LeO (mailcoachref01_most.f k a0) (mailcoachref01_most.f (k + 1) a0) := by
  intro a0 k
  have ih0 := mailcoachref01_most.mono_l k
  unfold mailcoachref01_most.f
  repeat' first
      | (with_reducible exact ih0 _ _ _)
      | (with_reducible exact LeO.refl _)
      | (with_reducible exact LeO.none _)
      | (with_reducible refine LeO.ite ?_ ?_)
      | (with_reducible refine LeO.bind ?_ (fun _ => ?_))
      | exact ih0 _ _ _
      | exact LeO.none _
      | refine LeO.ite ?_ ?_
      | refine LeO.bind ?_ (fun _ => ?_)
set_option maxHeartbeats 8000000 in
set_option maxRecDepth 100000 in
theorem mailcoachref01_most.calls (k : Nat) (a0 : Int) (r : Int) (w : World) (h : mailcoachref01_most.f k a0 = some r) :
    Calls Try.prog 43 #[.int .i64 a0] w fun e w' => e = .returned (.int .u64 r) ∧ Drawn0 w w' := by
  have H : (mailcoachref01_most.l0 k a0 1 0) = some r := h
  clear h
  have H' := Aside0.mk H
  clear H
  go_enter Try.func43, Try.ntmps43
  go_wp2
  go_loopg [3, 4] k (fun kq v3 v4 w' => ∃ (x3_1 : Int) (x4_1 : Int), v3 = .int .u64 x3_1 ∧ v4 = .int .i64 x4_1 ∧ Aside0 (mailcoachref01_most.l0 kq a0 x3_1 x4_1 = some r) ∧ Aside0 (kq ≤ k) ∧ Drawn0 w w')
  case atStart => exact ⟨(1), (0), (by first | rfl | (simp; done) | (simp [*]; done)), (by first | rfl | (simp; done) | (simp [*]; done)), H', ⟨Nat.le_refl _⟩, by repeat (first | exact Drawn0.refl _ | apply Drawn0.step)⟩
  case round =>
    clear H'
    obtain ⟨x3_1, x4_1, rfl, rfl, HA, HK1, ⟨m1, rfl⟩⟩ := hrel
    cases gk with
    | zero => exact absurd HA.out (by simp [mailcoachref01_most.l0])
    | succ k1 =>
      have H := HA.out
      clear HA
      simp only [mailcoachref01_most.l0] at H
      by_cases c2 : x4_1 < a0
      · rw [if_pos c2] at H
        have c2b0 : decide (x4_1 < a0) = true := decide_eq_true c2
        clear c2
        have H' := Aside0.mk H
        clear H
        go_wp2
        go_roundg k1
        case measure => have := HK1.out; omega
        case rel => exact ⟨(IntKind.u64.wrap (2 * x3_1)), (wrap64 (x4_1 + 1)), (by first | rfl | (simp; done) | (simp [*]; done)), (by first | rfl | (simp; done) | (simp [*]; done)), H', ⟨by have := HK1.out; omega⟩, by repeat (first | exact Drawn0.refl _ | apply Drawn0.step)⟩
      · rw [if_neg c2] at H
        have c2b0 : decide (x4_1 < a0) = false := decide_eq_false c2
        clear c2
        obtain rfl := Option.some.inj H
        go_wp2
        go_ret
        exact ⟨by first | rfl | (simp; done) | (simp [*]; done), by repeat (first | exact Drawn0.refl _ | apply Drawn0.step)⟩

/-! ### mailcoachref01_GetPrefix: function 26, by hand -/
/-- The parts below number i, taken together. -/
def varint_GetPrefix.V (t : List Int) : Nat → Int
  | 0 => 0
  | i + 1 => varint_GetPrefix.V t i + rd t i % 128 * 2 ^ (7 * i)
theorem varint_GetPrefix.V_nonneg (t : List Int) (i : Nat) : 0 ≤ varint_GetPrefix.V t i := by
  induction i with
  | zero => simp [varint_GetPrefix.V]
  | succ i ih =>
    simp only [varint_GetPrefix.V]
    have : 0 ≤ rd t i % 128 * 2 ^ (7 * i) := Int.mul_nonneg (Int.emod_nonneg _ (by decide)) (Int.le_of_lt (Int.pow_pos (by decide)))
    omega
theorem varint_GetPrefix.V_down (t : List Int) (j : Nat) (n : Int) : (128 * n + rd t j % 128) * 2 ^ (7 * j) + varint_GetPrefix.V t j = n * 2 ^ (7 * (j + 1)) + varint_GetPrefix.V t (j + 1) := by
  simp only [varint_GetPrefix.V]
  have e : (2 : Int) ^ (7 * (j + 1)) = 2 ^ (7 * j) * 128 := by rw [show 7 * (j + 1) = 7 * j + 7 by omega, Int.pow_add]; rfl
  rw [e, Int.add_mul, Int.mul_comm 128 n, Int.mul_assoc, Int.mul_comm 128]
  omega
theorem varint_GetPrefix.V_great (t : List Int) (j : Nat) (n T : Int) (hn : 36028797018963967 < n) (hj : 1 ≤ j) (h : n * 2 ^ (7 * j) + varint_GetPrefix.V t j = T) : 4611686018427387904 ≤ T := by
  have h0 := varint_GetPrefix.V_nonneg t j
  have hp : (128 : Int) ≤ 2 ^ (7 * j) := by
    have : (2 : Int) ^ (7 * j) = 128 * 2 ^ (7 * (j - 1)) := by
      obtain ⟨m, rfl⟩ : ∃ m, j = m + 1 := ⟨j - 1, by omega⟩
      rw [show 7 * (m + 1) = 7 + 7 * m by omega, Int.pow_add, show 7 * (m + 1 - 1) = 7 * m by omega]; rfl
    have h1 : (1 : Int) ≤ 2 ^ (7 * (j - 1)) := Int.pow_pos (by decide)
    omega
  have h2 : (36028797018963968 : Int) * 128 ≤ n * 2 ^ (7 * j) := Int.mul_le_mul (by omega) hp (by omega) (by omega)
  omega
theorem varint_GetPrefix.rd_drop1 (l : List Int) (i : Nat) : rd (l.drop 1) i = rd l ((i : Int) + 1) := by
  unfold rd
  have e : ((i : Int) + 1).toNat = 1 + i := by omega
  rw [e, List.getD_eq_getElem?_getD, List.getD_eq_getElem?_getD, List.getElem?_drop, Int.toNat_natCast]
theorem mailcoachref01_most.eight (a0 : Int) (h : 1 ≤ a0) (h8 : a0 ≤ 8) : mailcoachref01_most.f 20 a0 = some (varint_GetPrefix.M a0) := by
  rcases (show a0 = 1 ∨ a0 = 2 ∨ a0 = 3 ∨ a0 = 4 ∨ a0 = 5 ∨ a0 = 6 ∨ a0 = 7 ∨ a0 = 8 by omega) with rfl | rfl | rfl | rfl | rfl | rfl | rfl | rfl <;> decide +kernel
theorem mailcoachref01_GetPrefix.bad (A1 : Option Addr) (c1 : Nat) (l1 : List Int) (a0 : Int) (w : World) (h : a0 < 1 ∨ 8 < a0) :
    Calls Try.prog 26 #[.int .i64 a0, .slice A1 l1.length c1] w fun e w' => e = .returned (.tuple #[.int .u8 0, .int .u64 0, .int .i64 0, .int .i64 1]) ∧ Drawn0 w w' := by
  rcases h with h | h
  · go_enter Try.func26, Try.ntmps26
    go_wp2
    exact bodyPost_ret (v := .tuple #[.int .u8 0, .int .u64 0, .int .i64 0, .int .i64 1]) (by simp [results, Try.results26, go_sem]) rfl ⟨rfl, Drawn0.refl _⟩
  · have h1 : ¬ a0 < 1 := by omega
    go_enter Try.func26, Try.ntmps26
    go_wp2
    exact bodyPost_ret (v := .tuple #[.int .u8 0, .int .u64 0, .int .i64 0, .int .i64 1]) (by simp [results, Try.results26, go_sem]) rfl ⟨rfl, Drawn0.refl _⟩
theorem mailcoachref01_GetPrefix.short (A1 : Option Addr) (c1 : Nat) (a0 : Int) (w : World) (h : 1 ≤ a0) (h8 : a0 ≤ 8) :
    Calls Try.prog 26 #[.int .i64 a0, .slice A1 0 c1] w fun e w' => e = .returned (.tuple #[.int .u8 0, .int .u64 0, .int .i64 0, .int .i64 4]) ∧ Drawn0 w w' := by
  go_enter Try.func26, Try.ntmps26
  go_wp2
  exact bodyPost_ret (v := .tuple #[.int .u8 0, .int .u64 0, .int .i64 0, .int .i64 4]) (by simp [results, Try.results26, go_sem]) rfl ⟨rfl, Drawn0.refl _⟩
set_option maxHeartbeats 6400000 in
set_option maxRecDepth 100000 in
theorem mailcoachref01_GetPrefix.main (A1 : Option Addr) (c1 : Nat) (l1 : List Int) (a0 : Int) (w : World) (h : 1 ≤ a0) (h8 : a0 ≤ 8) (hr1 : Kd.C (Kd.int .u8) w A1 l1.length l1) (hc1 : l1.length ≤ c1) (hn : 0 < l1.length) (hok : varint_GetPrefix.ok l1 = true) (R1 R2 R3 R4 : Int)
    (hR : (if rd l1 0 % 2 ^ a0.toNat < varint_GetPrefix.M a0 then (rd l1 0 - rd l1 0 % 2 ^ a0.toNat, rd l1 0 % 2 ^ a0.toNat, 1, 0)
     else (varint_GetPrefix.S (l1.drop 1) (varint_GetPrefix.M a0) (rd l1 0 - rd l1 0 % 2 ^ a0.toNat) 10 0 0)) = (R1, R2, R3, R4)) :
    Calls Try.prog 26 #[.int .i64 a0, .slice A1 l1.length c1] w fun e w' => e = .returned (.tuple #[.int .u8 R1, .int .u64 R2, .int .i64 R3, .int .i64 R4]) ∧ Drawn0 w w' := by
  have HR := Aside0.mk hR
  have HR1 := Aside0.mk hr1
  have HOK := Aside0.mk hok
  have hb := varint_GetPrefix.rd_bd hok 0 hn
  have hmost := mailcoachref01_most.eight a0 h h8
  clear hr1 hc1 hok hR
  obtain ⟨ad1, e1, hx1⟩ := Kd.at_int HR1.out 0 (by omega) (by omega)
  cases e1
  have hx0 : w.cell? ad1 = some (.int .u8 (rd l1 0)) := by simpa [go_sem] using hx1
  clear hx1
  have hne : ((l1.length : Int) == 0) = false := by simp; intro h; rw [h] at hn; exact absurd hn (Nat.lt_irrefl 0)
  have hlt : 0 < (l1.length : Int) := by omega
  have hb0 : 0 ≤ rd l1 0 := hb.1
  have hb1 : rd l1 0 < 256 := hb.2
  obtain ⟨e1, e2, e3, e4, m1, m2, k0⟩ := varint_GetPrefix.mask a0 (rd l1 0) h h8 hb0 hb1
  have k1 : rd l1 0 % 2 ^ a0.toNat ≤ rd l1 0 := by have := Int.emod_nonneg (rd l1 0) (b := 2 ^ a0.toNat) (by have : (0 : Int) < 2 ^ a0.toNat := Int.pow_pos (by decide); omega); have h3 := Int.mul_ediv_add_emod (rd l1 0) (2 ^ a0.toNat); have h4 : 0 ≤ 2 ^ a0.toNat * (rd l1 0 / 2 ^ a0.toNat) := Int.mul_nonneg (Int.le_of_lt (Int.pow_pos (by decide))) (Int.ediv_nonneg hb0 (Int.le_of_lt (Int.pow_pos (by decide)))); omega
  obtain ⟨M, hM⟩ : ∃ M, varint_GetPrefix.M a0 = M := ⟨_, rfl⟩
  obtain ⟨K, hK⟩ : ∃ K, rd l1 0 % 2 ^ a0.toNat = K := ⟨_, rfl⟩
  obtain ⟨B, hB⟩ : ∃ B, rd l1 0 - K = B := ⟨_, rfl⟩
  rw [hM] at e1 e2 e3 e4 m1 m2 HR hmost
  rw [hK] at e3 e4 k0 k1 HR
  rw [hB] at e4 HR
  have HMOST := Aside0.mk hmost
  have k2 : K % 256 = K := by omega
  have hB2 : (rd l1 0 - K) % 256 = B := by omega
  clear hM hK hb e1 e4 hmost
  have hd1 : decide (a0 < 1) = false := decide_eq_false (by omega)
  have hd8 : decide (8 < a0) = false := decide_eq_false (by omega)
  by_cases hKM : K < M
  · rw [if_pos hKM] at HR
    have hj := HR.out
    simp only [Prod.mk.injEq] at hj
    obtain ⟨rfl, rfl, rfl, rfl⟩ := hj
    clear HR
    go_enter Try.func26, Try.ntmps26
    go_wp2_with (go_at_call 43; refine (mailcoachref01_most.calls 20 a0 M _ HMOST.out).mono ?_; rintro e w1 ⟨rfl, hd⟩; obtain ⟨m1, rfl⟩ := hd.out)
    exact bodyPost_ret (v := .tuple #[.int .u8 B, .int .u64 K, .int .i64 1, .int .i64 0]) (by simp [results, Try.results26, go_sem]) rfl ⟨rfl, by repeat (first | exact Drawn0.refl _ | apply Drawn0.step)⟩
  · rw [if_neg hKM] at HR
    obtain ⟨t, ht⟩ : ∃ t, l1.drop 1 = t := ⟨_, rfl⟩
    have hrt : ∀ i : Nat, rd t i = rd l1 ((i : Int) + 1) := fun i => by rw [← ht]; exact varint_GetPrefix.rd_drop1 l1 i
    have hl2 : l1.length = t.length + 1 := by rw [← ht, List.length_drop]; omega
    rw [ht] at HR
    have HL2 := Aside0.mk hl2
    have HRT := Aside0.mk hrt
    clear ht hl2 hrt
    go_enter Try.func26, Try.ntmps26
    go_wp2_with (go_at_call 43; refine (mailcoachref01_most.calls 20 a0 M _ HMOST.out).mono ?_; rintro e w1 ⟨rfl, hd⟩; obtain ⟨m1, rfl⟩ := hd.out)
    clear k2 hB2 hB
    go_loop [11] (fun v11 => ∃ (i : Nat), i ≤ 10 ∧ i + 1 ≤ l1.length ∧ v11 = .int .i64 ((i : Int) + 1) ∧ Aside0 (varint_GetPrefix.S t M B (10 - i) i (varint_GetPrefix.V t i) = (R1, R2, R3, R4))) (fun v11 => 12 - (intOf v11).toNat)
    case atStart => exact ⟨0, by omega, by omega, rfl, HR⟩
    case round =>
      obtain ⟨i, hi, hi2, rfl, HS⟩ := hrel
      clear HR
      by_cases hlen : i + 1 < l1.length
      · have HLT := Aside0.mk (show i < t.length by have := HL2.out; omega)
        by_cases hi10 : i = 10
        · have hS := HS.out
          rw [varint_GetPrefix.S_end t M B _ _ _ (.inl (by omega)), if_pos (by have := HL2.out; omega)] at hS
          simp only [Prod.mk.injEq] at hS
          obtain ⟨rfl, rfl, rfl, rfl⟩ := hS
          have hge : 10 ≤ i := by omega
          have hld : decide ((i : Int) + 1 ≤ 10) = false := decide_eq_false (by omega)
          clear HS hi10
          go_wp2
          exact bodyPost_ret (v := .tuple #[.int .u8 0, .int .u64 0, .int .i64 0, .int .i64 5]) (by simp [results, Try.results26, go_sem]) rfl ⟨rfl, by repeat (first | exact Drawn0.refl _ | apply Drawn0.step)⟩
        · have hi10' : i < 10 := by omega
          clear hi10
          obtain ⟨ad2, e5, hx2⟩ := Kd.at_int HR1.out ((i : Int) + 1) (by omega) (by omega)
          cases e5
          rw [show ((i : Int) + 1).toNat = i + 1 by omega] at hx2
          have hx3 : w.cell? ⟨ad1.block, ad1.off + (i + 1), none⟩ = some (.int .u8 (rd l1 ((i : Int) + 1))) := by simpa [Addr.add] using hx2
          clear hx2
          have hcc := varint_GetPrefix.rd_bd HOK.out (i + 1) hlen
          have hc0 : 0 ≤ rd l1 ((i : Int) + 1) := hcc.1
          have hc1 : rd l1 ((i : Int) + 1) < 256 := hcc.2
          clear hcc
          obtain ⟨d, hd⟩ : ∃ d, 10 - i = d + 1 := ⟨9 - i, by omega⟩
          have hS := HS.out
          rw [hd] at hS
          simp only [varint_GetPrefix.S] at hS
          rw [if_pos HLT.out, HRT.out i] at hS
          clear HS
          have hV : varint_GetPrefix.V t i + rd l1 ((i : Int) + 1) % 128 * 2 ^ (7 * i) = varint_GetPrefix.V t (i + 1) := by simp only [varint_GetPrefix.V]; rw [HRT.out i]
          rw [hV] at hS
          have HD := Aside0.mk hd
          clear hd hV
          by_cases hl : rd l1 ((i : Int) + 1) < 128
          · rw [if_pos hl] at hS
            have HS2 := Aside0.mk hS
            clear hS
            go_wp2
            clear hx3
            go_loop [9, 12] (fun v9 v12 => ∃ (j : Nat) (n : Int), j ≤ i + 1 ∧ v12 = .int .i64 j ∧ v9 = .int .u64 n ∧ 0 ≤ n ∧ n ≤ 4611686018427387903 ∧ Aside0 (n * 2 ^ (7 * j) + varint_GetPrefix.V t j = varint_GetPrefix.V t (i + 1))) (fun _ v12 => (intOf v12).toNat)
            case atStart => exact ⟨i + 1, 0, by omega, rfl, rfl, by omega, by omega, ⟨by rw [Int.zero_mul, Int.zero_add]⟩⟩
            case round =>
              obtain ⟨j, n, hj, rfl, rfl, hn0, hn1, HV⟩ := hrel
              by_cases hj0 : j = 0
              · subst hj0
                have hnT : n = varint_GetPrefix.V t (i + 1) := by have := HV.out; simp only [varint_GetPrefix.V, Nat.mul_zero, Int.pow_zero, Int.mul_one, Int.add_zero] at this; simpa [varint_GetPrefix.V] using this
                have hS := HS2.out
                rw [← hnT] at hS
                clear HS2 hnT HV
                by_cases hg : n > 4611686018427387903 - M
                · rw [if_pos hg] at hS
                  simp only [Prod.mk.injEq] at hS
                  obtain ⟨rfl, rfl, rfl, rfl⟩ := hS
                  go_wp2
                  exact bodyPost_ret (v := .tuple #[.int .u8 0, .int .u64 0, .int .i64 0, .int .i64 3]) (by simp [results, Try.results26, go_sem]) rfl ⟨rfl, by repeat (first | exact Drawn0.refl _ | apply Drawn0.step)⟩
                · rw [if_neg hg] at hS
                  simp only [Prod.mk.injEq] at hS
                  obtain ⟨rfl, rfl, rfl, rfl⟩ := hS
                  have hi3 : (i : Int) + 1 + 1 = (i : Int) + 2 := by omega
                  go_wp2
                  exact bodyPost_ret (v := .tuple #[.int .u8 B, .int .u64 (n + M), .int .i64 ((i : Int) + 2), .int .i64 0]) (by simp [results, Try.results26, go_sem]) rfl ⟨rfl, by repeat (first | exact Drawn0.refl _ | apply Drawn0.step)⟩
              · by_cases hg : 36028797018963967 < n
                · have hT := varint_GetPrefix.V_great t j n _ hg (by omega) HV.out
                  have hS := HS2.out
                  rw [if_pos (by omega)] at hS
                  simp only [Prod.mk.injEq] at hS
                  obtain ⟨rfl, rfl, rfl, rfl⟩ := hS
                  clear HS2 hT HV
                  go_wp2
                  exact bodyPost_ret (v := .tuple #[.int .u8 0, .int .u64 0, .int .i64 0, .int .i64 3]) (by simp [results, Try.results26, go_sem]) rfl ⟨rfl, by repeat (first | exact Drawn0.refl _ | apply Drawn0.step)⟩
                · obtain ⟨m, rfl⟩ : ∃ m, j = m + 1 := ⟨j - 1, by omega⟩
                  obtain ⟨ad2, e5, hx2⟩ := Kd.at_int HR1.out ((m + 1 : Nat) : Int) (by omega) (by omega)
                  cases e5
                  rw [show ((m + 1 : Nat) : Int).toNat = m + 1 by omega, show ((m + 1 : Nat) : Int) = (m : Int) + 1 by omega] at hx2
                  have hx3 : w.cell? ⟨ad1.block, ad1.off + (m + 1), none⟩ = some (.int .u8 (rd l1 ((m : Int) + 1))) := by simpa [Addr.add] using hx2
                  clear hx2
                  have hcc := varint_GetPrefix.rd_bd HOK.out (m + 1) (by omega)
                  have hm0 : 0 ≤ rd l1 ((m : Int) + 1) := hcc.1
                  have hm1 : rd l1 ((m : Int) + 1) < 256 := hcc.2
                  clear hcc hj0
                  go_wp2
                  go_round
                  case rel => exact ⟨m, 128 * n + rd l1 ((m : Int) + 1) % 128, by omega, by go_num, rfl, by omega, by omega, ⟨by rw [← HRT.out m, varint_GetPrefix.V_down]; exact HV.out⟩⟩
                  case measure => simp [intOf]
          · rw [if_neg hl] at hS
            have HS2 := Aside0.mk hS
            clear hS
            go_wp2
            go_round
            case rel => exact ⟨i + 1, by omega, by omega, by go_num, ⟨by rw [show 10 - (i + 1) = d by have := HD.out; omega]; exact HS2.out⟩⟩
            case measure => simp [intOf]; omega
      · have hi1 : (i : Int) + 1 = l1.length := by omega
        have hS := HS.out
        rw [varint_GetPrefix.S_end t M B _ _ _ (.inr (by have := HL2.out; omega))] at hS
        clear HS
        by_cases h10 : i = 10
        · rw [if_pos (by have := HL2.out; omega)] at hS
          simp only [Prod.mk.injEq] at hS
          obtain ⟨rfl, rfl, rfl, rfl⟩ := hS
          have hge : 10 ≤ i := by omega
          clear h10 hi1
          go_wp2
          exact bodyPost_ret (v := .tuple #[.int .u8 0, .int .u64 0, .int .i64 0, .int .i64 5]) (by simp [results, Try.results26, go_sem]) rfl ⟨rfl, by repeat (first | exact Drawn0.refl _ | apply Drawn0.step)⟩
        · rw [if_neg (by have := HL2.out; omega)] at hS
          simp only [Prod.mk.injEq] at hS
          obtain ⟨rfl, rfl, rfl, rfl⟩ := hS
          have hge : i < 10 := by omega
          have heq : ((i : Int) + 1 == (l1.length : Int)) = true := by simp; omega
          clear h10 hi1
          go_wp2
          exact bodyPost_ret (v := .tuple #[.int .u8 0, .int .u64 0, .int .i64 0, .int .i64 4]) (by simp [results, Try.results26, go_sem]) rfl ⟨rfl, by repeat (first | exact Drawn0.refl _ | apply Drawn0.step)⟩
theorem mailcoachref01_GetPrefix.calls (a0 : Int) (A1 : Option Addr) (c1 : Nat) (l1 : List Int) (r1 : Int) (r2 : Int) (r3 : Int) (r4 : Int) (w : World) (hr1 : Kd.C (Kd.int .u8) w A1 l1.length l1) (hc1 : l1.length ≤ c1) (h : varint_GetPrefix.f a0 l1 = some (r1, r2, r3, r4)) :
    Calls Try.prog 26 #[.int .i64 a0, .slice A1 l1.length c1] w fun e w' => e = .returned (.tuple #[.int .u8 r1, .int .u64 r2, .int .i64 r3, .int .i64 r4]) ∧ Drawn0 w w' := by
  unfold varint_GetPrefix.f at h
  by_cases h1 : a0 < 1 ∨ 8 < a0
  · rw [if_pos h1] at h
    simp only [Option.some.injEq, Prod.mk.injEq] at h
    obtain ⟨rfl, rfl, rfl, rfl⟩ := h
    exact mailcoachref01_GetPrefix.bad A1 c1 l1 a0 w h1
  · rw [if_neg h1] at h
    by_cases hn : l1.length = 0
    · rw [if_pos hn] at h
      simp only [Option.some.injEq, Prod.mk.injEq] at h
      obtain ⟨rfl, rfl, rfl, rfl⟩ := h
      rw [hn]
      exact mailcoachref01_GetPrefix.short A1 c1 a0 w (by omega) (by omega)
    · rw [if_neg hn] at h
      by_cases hok : varint_GetPrefix.ok l1 = true
      · rw [if_pos hok] at h
        refine mailcoachref01_GetPrefix.main A1 c1 l1 a0 w (by omega) (by omega) hr1 hc1 (by omega) hok r1 r2 r3 r4 ?_
        split at h <;> rename_i hlt
        · rw [if_pos hlt]; exact Option.some.inj h
        · rw [if_neg hlt]; exact Option.some.inj h
      · rw [if_neg hok] at h
        cases h
def mailcoachref01_GetPrefix.f (a0 : Int) (l1 : List Int) : Option (Int × Int × Int × Int) := varint_GetPrefix.f a0 l1


/-! ### mailcoachlaw01_VarintReads: function 4, by hand -/
theorem mailcoachlaw01_Beyond.one (n : Nat) (hn : n ≤ 9223372036854775807) : mailcoachlaw01_Beyond.f 2 [(n : Int)] = some (decide (1048576 < n)) := by
  have e : wrap64 (0 + rd [(n : Int)] 0) = n := by simp only [rd, wrap64]; simp; omega
  unfold mailcoachlaw01_Beyond.f
  simp only [mailcoachlaw01_Beyond.l0]
  rw [if_pos (by simp), if_pos (by simp), e]
  by_cases h : 1048576 < n
  · rw [if_pos (by omega)]; simp [h]
  · rw [if_neg (by omega)]
    have e1 : wrap64 (0 + 1) = 1 := by unfold wrap64; omega
    rw [e1, if_neg (by simp)]
    simp [h]
theorem man_lit_C (W : World) (k : IntKind) (t : TypeId) (x : Int) : Kd.C (Kd.int k) (W.alloc (.cells #[.int k x] t)) (some ⟨W.heap.size, 0, none⟩) [x].length [x] := by
  have h := own_lit W W.heap.size t k [x] (Nat.le_refl _) (by simp)
  have hr := own_reads' h
  exact Kd.C_of_reads (enc := Value.int k) (d := (0 : Int)) (h1 := fun _ => rfl) hr
theorem mailcoachlaw01_Beyond.calls1 (W : World) (n : Nat) (hn : n ≤ 9223372036854775807) :
    Calls Try.prog 20 #[.slice (some ⟨W.heap.size, 0, none⟩) 1 1] (W.alloc (.cells #[.int .i64 n] 3)) fun e w' => e = .returned (.bool (decide (1048576 < n))) ∧ Drawn0 (W.alloc (.cells #[.int .i64 n] 3)) w' :=
  mailcoachlaw01_Beyond.calls 2 (some ⟨W.heap.size, 0, none⟩) 1 [(n : Int)] _ _ (man_lit_C W .i64 3 n) (Nat.le_refl _) (mailcoachlaw01_Beyond.one n hn)

def mailcoachlaw01_VarintReads.Pure : Prop := ∀ (a0 : Int) (l1 : List Int), (Lit.int .i64 a0).wf = true → l1.length ≤ 1048576 → (∀ x ∈ l1, (Lit.int .u8 x).wf = true) → ∃ r, varint_GetPrefix.f a0 l1 = some r
set_option maxHeartbeats 1600000 in
set_option maxRecDepth 100000 in
theorem mailcoachlaw01_VarintReads.walk (P : mailcoachlaw01_VarintReads.Pure) (a0 : Int) (a1 : Option Addr) (len1 cap1 : Nat) (z1 : List Int) (w : World) (w0 : (Lit.int .i64 a0).wf = true) (w1 : (a1 = none ∧ len1 = 0 ∧ cap1 = 0 ∧ z1 = []) ∨ ∃ x, a1 = some x ∧ len1 ≤ cap1 ∧ cap1 ≤ maxLen ∧ z1.length = cap1 ∧ (∀ i, i < z1.length → w.cell? (x.add i) = some (.int .u8 (z1.getD i 0))) ∧ ∀ n ∈ z1, (Lit.int .u8 n).wf = true) (y1 : len1 * 1 ≤ 140737488351232) :
    Calls Try.prog 4 #[.int .i64 a0, .slice a1 len1 cap1] w fun e w' => e = .returned (.bool true) ∧ Below w.heap.size w w' := by
  obtain ⟨l1, rfl, hr1, hm1, hw1, hc1⟩ := ReadsInt.ofRowC w1
  have HR1 := Aside0.mk (Kd.C_of_reads (enc := Value.int .u8) (d := (0 : Int)) (h1 := fun _ => rfl) hr1)
  clear hr1 w1
  by_cases hby : 1048576 < l1.length
  · have hd : decide (1048576 < l1.length) = true := by simp [hby]
    go_enter Try.func4, Try.ntmps4
    go_wp2_with (go_at_call 20; refine (mailcoachlaw01_Beyond.calls1 _ _ (by omega)).mono ?_; rintro e w' ⟨rfl, HD1⟩; rw [hd])
    go_ret
    exact ⟨rfl, below_step (below_alloc (Below.refl _ _) _) HD1.below⟩
  · have hd : decide (1048576 < l1.length) = false := by simp [hby]
    obtain ⟨⟨r1, r2, r3, r4⟩, h1⟩ := P a0 l1 w0 (by omega) hw1
    have H1 := Aside0.mk h1
    clear h1
    go_enter Try.func4, Try.ntmps4
    go_wp2_with (go_at_call 20; refine (mailcoachlaw01_Beyond.calls1 _ _ (by omega)).mono ?_; rintro e wb ⟨rfl, HD1⟩; rw [hd]; have HB1 := Aside0.mk (below_step (below_alloc (Below.refl w.heap.size w) _) HD1.below); clear HD1)
    refine (mailcoachlaw01_TwinBytes.twin a1 cap1 l1 wb (Kd.C_below HR1.out HB1.out) hc1 (by omega)).mono ?_
    rintro e w2 ⟨v, rfl, ht2, hb2⟩
    have HB2 := Aside0.mk (below_step HB1.out hb2)
    obtain ⟨A2, c2, rfl, hrt, hct, _⟩ := ht2.reads
    have HT2 := Aside0.mk ht2
    have HRT := Aside0.mk hrt
    clear ht2 hb2 hrt HB1
    go_wp2_with (fail)
    refine (varint_GetPrefix.calls a0 A2 c2 l1 r1 r2 r3 r4 w2 HRT.out (by omega) H1.out).mono ?_
    rintro e w3 ⟨rfl, hd3⟩
    have hb3 := hd3.below
    clear hd3
    have HB3 := Aside0.mk (below_step HB2.out hb3)
    have HT3 := Aside0.mk (HT2.out.below hb3)
    clear hb3 HB2 HT2 HRT
    go_wp2_with (fail)
    refine (mailcoachref01_GetPrefix.calls a0 a1 cap1 l1 r1 r2 r3 r4 w3 (Kd.C_below HR1.out HB3.out) hc1 H1.out).mono ?_
    rintro e w4 ⟨rfl, hd4⟩
    have HB4 := Aside0.mk (below_step HB3.out hd4.below)
    have HT4 := Aside0.mk (HT3.out.below hd4.below)
    clear hd4 HB3 HT3
    go_wp2_with (fail)
    refine (mailcoachlaw01_LeftBytes.twin _ _ a1 cap1 l1 w4 HT4.out (Kd.C_below HR1.out HB4.out) hc1).mono ?_
    rintro e w5 ⟨rfl, hd5⟩
    have HB5 := Aside0.mk (below_step HB4.out hd5.below)
    clear hd5
    go_wp2_with (fail)
    go_ret
    exact ⟨rfl, HB5.out⟩


end Go.Proofs.Ytmkmefdajbdceaa.PVR
