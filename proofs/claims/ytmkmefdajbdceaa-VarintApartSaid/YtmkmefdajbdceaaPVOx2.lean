-- Written by wip/mprint.py (the kit's printer, and texts of this claim's own for what it does not take). Not trusted: Lean checks it.
import Derived.Test.YtmkmefdajbdceaaPVOx0
import Derived.Test.YtmkmefdajbdceaaPVOx1
namespace Go.Proofs.Ytmkmefdajbdceaa.PVO
open Go.RowKit Go.Proofs.YtmkmefdajbdceaaW.PrintWords Go.Proofs.YtmkmefdajbdceaaW.PrintLast Go.Proofs.YtmkmefdajbdceaaW.PrintMore
attribute [local go_sem] max2_int min2_int max_two min_two max_three min_three max_four min_four   -- for this text's walks alone
set_option linter.unusedVariables false
set_option linter.unusedSimpArgs false

/-! ### varint_Get: function 22, by hand -/
theorem man_info_u8 : (Try.prog.info? 5).map (fun i => (i.zero, i.size, i.bytes)) = some (some (.int .u8 0), 1, 1) := by kernel_rfl
/-- A number's place in a list. -/
theorem man_take_snoc (l : List Int) (k : Nat) (hk : k < l.length) : l.take (k + 1) = l.take k ++ [rd l k] := by
  rw [List.take_succ_eq_append_getElem hk]
  simp [rd, List.getD_eq_getElem?_getD, List.getElem?_eq_getElem hk]
/-- A list of bytes in memory of the call's own, with the mark behind it. -/
def Twin (w : World) (base : Nat) (v : Value) (l : List Int) : Prop :=
  ∃ g cap, v = .slice (some ⟨g, 0, none⟩) l.length cap ∧ w.ownsRow base 5 1 (.slice (some ⟨g, 0, none⟩) (l.length + 1) cap) (l.length + 1) (nums .u8 (l ++ [77]))
theorem Twin.below {w w1 : World} {base : Nat} {v : Value} {l : List Int} (h : Twin w base v l) (hb : Below w.heap.size w w1) : Twin w1 base v l := by
  obtain ⟨g, cap, hv, ho⟩ := h
  exact ⟨g, cap, hv, pw_own_below ho hb⟩
theorem Twin.reads {w : World} {base : Nat} {v : Value} {l : List Int} (h : Twin w base v l) : ∃ A c, v = .slice A l.length c ∧ Kd.C (Kd.int .u8) w A l.length l ∧ l.length + 1 ≤ c ∧ Kd.C (Kd.int .u8) w A (l ++ [77]).length (l ++ [77]) := by
  obtain ⟨g, cap, rfl, ho⟩ := h
  have hr := own_reads' ho
  have hC : Kd.C (Kd.int .u8) w (some ⟨g, 0, none⟩) (l ++ [77]).length (l ++ [77]) := by
    have h := Kd.C_of_reads (enc := Value.int .u8) (d := (0 : Int)) (h1 := fun _ => rfl) hr
    rw [List.length_append]
    exact h
  refine ⟨some ⟨g, 0, none⟩, cap, rfl, ?_, own_cap ho, hC⟩
  have h2 := Kd.C_take (m := l.length) hC (by simp)
  simpa using h2

def varint_Get.st (n c : Int) : Int := Go.bits .or .u64 (IntKind.u64.wrap (n * 256)) (IntKind.u64.wrap c)
def varint_Get.lp (n : Int) (l : List Int) : Int := l.foldl varint_Get.st n
def varint_Get.sz (c : Int) : Nat := if c / 64 = 0 then 1 else if c / 64 = 1 then 2 else if c / 64 = 2 then 4 else 8
def varint_Get.f (l0 : List Int) : Option (Int × Int × Int) :=
  if l0.length = 0 then some (0, 0, 4)
  else if 0 ≤ rd l0 0 ∧ rd l0 0 < 256 then
    (if (l0.length : Int) < varint_Get.sz (rd l0 0) then some (0, 0, 4)
     else some (varint_Get.lp (rd l0 0 % 64) ((l0.take (varint_Get.sz (rd l0 0))).drop 1), varint_Get.sz (rd l0 0), 0))
  else none
theorem varint_Get.lp_snoc (n : Int) (l : List Int) (k : Nat) (hk : k < l.length) : varint_Get.lp n (l.take (k + 1)) = varint_Get.st (varint_Get.lp n (l.take k)) (rd l k) := by
  unfold varint_Get.lp
  rw [List.take_succ_eq_append_getElem hk, List.foldl_append]
  simp [rd, List.getD_eq_getElem?_getD, List.getElem?_eq_getElem hk]
theorem varint_Get.sz_cases (c : Int) (h : 0 ≤ c ∧ c < 256) : (1 ≤ varint_Get.sz c ∧ varint_Get.sz c ≤ 8) ∧ ((c / 64 = 0 ∧ varint_Get.sz c = 1) ∨ (c / 64 = 1 ∧ varint_Get.sz c = 2) ∨ (c / 64 = 2 ∧ varint_Get.sz c = 4) ∨ (c / 64 = 3 ∧ varint_Get.sz c = 8)) := by
  unfold varint_Get.sz
  split
  · exact ⟨by omega, .inl ⟨by omega, rfl⟩⟩
  · split
    · exact ⟨by omega, .inr (.inl ⟨by omega, rfl⟩)⟩
    · split
      · exact ⟨by omega, .inr (.inr (.inl ⟨by omega, rfl⟩))⟩
      · exact ⟨by omega, .inr (.inr (.inr ⟨by omega, rfl⟩))⟩
set_option maxHeartbeats 1600000 in
set_option maxRecDepth 100000 in
theorem varint_Get.some_ (A0 : Option Addr) (c0 : Nat) (l0 : List Int) (w : World) (hr0 : Kd.C (Kd.int .u8) w A0 l0.length l0) (hc0 : l0.length ≤ c0) (hn : 0 < l0.length)
    (s : Nat) (hs : 1 ≤ s ∧ s ≤ 8) (hq : (rd l0 0 / 64 = 0 ∧ s = 1) ∨ (rd l0 0 / 64 = 1 ∧ s = 2) ∨ (rd l0 0 / 64 = 2 ∧ s = 4) ∨ (rd l0 0 / 64 = 3 ∧ s = 8)) (hb : 0 ≤ rd l0 0 ∧ rd l0 0 < 256) :
    Calls Try.prog 22 #[.slice A0 l0.length c0] w fun e w' => e = .returned (.tuple (if (l0.length : Int) < s then #[.int .u64 0, .int .i64 0, .int .i64 4] else #[.int .u64 (varint_Get.lp (rd l0 0 % 64) ((l0.take s).drop 1)), .int .i64 s, .int .i64 0])) ∧ Below w.heap.size w w' := by
  have HR0 := Aside0.mk hr0
  have HC0 := Aside0.mk hc0
  clear hr0 hc0
  obtain ⟨ad101, e101, hx101_0⟩ := Kd.at_int HR0.out 0 (by omega) (by omega)
  cases e101
  have hx0 : w.cell? ad101 = some (.int .u8 (rd l0 0)) := by simpa [go_sem] using hx101_0
  clear hx101_0
  have hne : ((l0.length : Int) == 0) = false := by simp; intro h; rw [h] at hn; exact absurd hn (Nat.lt_irrefl 0)
  have hlt : 0 < (l0.length : Int) := by omega
  have hix : ∀ w, (Instr.index 61 (.agg #[.int .i64 1, .int .i64 2, .int .i64 4, .int .i64 8]) (.int .u8 (rd l0 0 / 64))).run Try.prog w = .ok (.int .i64 s) w := by
    intro w
    rcases hq with ⟨h, rfl⟩ | ⟨h, rfl⟩ | ⟨h, rfl⟩ | ⟨h, rfl⟩ <;> rw [h] <;> kernel_rfl
  clear hq
  by_cases hl : (l0.length : Int) < s
  · rw [if_pos hl]
    go_enter Try.func22, Try.ntmps22
    go_wp2
    go_region_held3 (fun w' => w'.cell? ad101 = some (.int .u8 (rd l0 0)) ∧ Below w.heap.size w w') (first | exact ⟨hx0, below_drew (Below.refl _ _)⟩ | (have hB := below_step (show _ ∧ Below w.heap.size w _ from by assumption).2 hb1; exact ⟨pw_cell_below hB hx0, hB⟩) | assumption) ((go_at_call 42; refine (varint_sizes.calls _).mono ?_; rintro e w' ⟨rfl, hb1⟩))
    have hBw := (show _ ∧ Below w.heap.size w _ from by assumption).2
    have hxw := (show _ ∧ Below w.heap.size w _ from by assumption).1
    go_wp2
    go_ret3
    exact ⟨rfl, hBw⟩
  · rw [if_neg hl]
    obtain ⟨m, hm⟩ : ∃ m, (l0.take s).drop 1 = m := ⟨_, rfl⟩
    rw [hm]
    have hml : m.length = s - 1 := by rw [← hm]; simp; omega
    have HML := Aside0.mk hml
    have HM := Aside0.mk hm
    clear hml hm
    go_enter Try.func22, Try.ntmps22
    go_wp2
    go_region_held3 (fun w' => w'.cell? ad101 = some (.int .u8 (rd l0 0)) ∧ Below w.heap.size w w') (first | exact ⟨hx0, below_drew (Below.refl _ _)⟩ | (have hB := below_step (show _ ∧ Below w.heap.size w _ from by assumption).2 hb1; exact ⟨pw_cell_below hB hx0, hB⟩) | assumption) ((go_at_call 42; refine (varint_sizes.calls _).mono ?_; rintro e w' ⟨rfl, hb1⟩))
    have hBw := (show _ ∧ Below w.heap.size w _ from by assumption).2
    have hxw := (show _ ∧ Below w.heap.size w _ from by assumption).1
    have hsl : (s : Int) ≤ l0.length := by omega
    obtain ⟨A2, hA2⟩ : ∃ A2, (if c0 = (1 : Int).toNat then some ad101 else (some ad101).map (·.add ((1 : Int).toNat * 1))) = A2 := ⟨_, rfl⟩
    have hcut := cut_mid (P := Try.prog) 22 5 .i64 .i64 Try.underlying22 (i := _) rfl 1 rfl (some ad101) l0.length c0 1 s (by omega) (by omega) hsl HC0.out
    have hC2 := Kd.C_mid (lo := 1) (hi := s) (Kd.C_below HR0.out hBw) hs.1 (by omega) HC0.out
    rw [hA2] at hcut
    have hA2' : (if c0 = 1 then some ad101 else (some ad101).map (·.add (1 * 1))) = A2 := hA2
    rw [show (Kd.int IntKind.u8).sz = 1 from rfl, hA2'] at hC2
    have HC2 := Aside0.mk hC2
    clear hC2 hA2 hA2'
    rw [HM.out] at HC2
    go_wp2
    go_loop [6, 31] (fun v6 v31 => ∃ k : Nat, k ≤ s - 1 ∧ v31 = .int .i64 k ∧ v6 = .int .u64 (varint_Get.lp (rd l0 0 % 64) (m.take k))) (fun _ v31 => s - 1 - (intOf v31).toNat)
    case atStart => exact ⟨0, by omega, rfl, rfl⟩
    case round =>
      obtain ⟨k, hk, rfl, rfl⟩ := hrel
      by_cases hk2 : k < s - 1
      · obtain ⟨ad2, e2, hx2⟩ := Kd.at_int HC2.out k (by omega) (by rw [HML.out]; omega)
        cases e2
        simp only [Int.toNat_natCast] at hx2
        go_wp2
        go_round
        case rel => exact ⟨k + 1, by omega, by go_num, by rw [varint_Get.lp_snoc _ _ _ (by rw [HML.out]; omega)]; rfl⟩
        case measure => simp [intOf]; omega
      · go_wp2
        go_ret3
        have ek : m.take k = m := List.take_of_length_le (by rw [HML.out]; omega)
        exact ⟨by rw [ek]; rfl, hBw⟩
set_option maxHeartbeats 1600000 in
set_option maxRecDepth 100000 in
theorem varint_Get.calls (A0 : Option Addr) (c0 : Nat) (l0 : List Int) (r1 : Int) (r2 : Int) (r3 : Int) (w : World) (hr0 : Kd.C (Kd.int .u8) w A0 l0.length l0) (hc0 : l0.length ≤ c0) (h : varint_Get.f l0 = some (r1, r2, r3)) :
    Calls Try.prog 22 #[.slice A0 l0.length c0] w fun e w' => e = .returned (.tuple #[.int .u64 r1, .int .i64 r2, .int .i64 r3]) ∧ Below w.heap.size w w' := by
  unfold varint_Get.f at h
  by_cases hn : l0.length = 0
  · rw [if_pos hn] at h
    simp only [Option.some.injEq, Prod.mk.injEq] at h
    obtain ⟨rfl, rfl, rfl⟩ := h
    have HN := Aside0.mk hn
    rw [hn]
    clear hr0 hc0 hn
    go_enter Try.func22, Try.ntmps22
    go_wp2
    go_ret3
    exact ⟨rfl, Below.refl _ _⟩
  · rw [if_neg hn] at h
    by_cases hb : 0 ≤ rd l0 0 ∧ rd l0 0 < 256
    · rw [if_pos hb] at h
      obtain ⟨h1, h2⟩ := varint_Get.sz_cases _ hb
      refine (varint_Get.some_ A0 c0 l0 w hr0 hc0 (by omega) _ h1 h2 hb).mono ?_
      rintro e w' ⟨rfl, hB⟩
      refine ⟨?_, hB⟩
      by_cases hl : (l0.length : Int) < varint_Get.sz (rd l0 0)
      · rw [if_pos hl] at h ⊢
        simp only [Option.some.injEq, Prod.mk.injEq] at h
        obtain ⟨rfl, rfl, rfl⟩ := h
        rfl
      · rw [if_neg hl] at h ⊢
        simp only [Option.some.injEq, Prod.mk.injEq] at h
        obtain ⟨rfl, rfl, rfl⟩ := h
        rfl
    · rw [if_neg hb] at h
      cases h


end Go.Proofs.Ytmkmefdajbdceaa.PVO
