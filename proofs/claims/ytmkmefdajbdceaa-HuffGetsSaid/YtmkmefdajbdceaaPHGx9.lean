-- Written by wip/mprint.py (the kit's printer, and texts of this claim's own for what it does not take). Not trusted: Lean checks it.
import Derived.Test.YtmkmefdajbdceaaPHGx0
import Derived.Test.YtmkmefdajbdceaaPHGx1
import Derived.Test.YtmkmefdajbdceaaPHGx4
import Derived.Test.YtmkmefdajbdceaaPHGx8
namespace Go.Proofs.Ytmkmefdajbdceaa.PHG
open Go.RowKit Go.Proofs.YtmkmefdajbdceaaW.PrintWords Go.Proofs.YtmkmefdajbdceaaW.PrintLast Go.Proofs.YtmkmefdajbdceaaW.PrintMore
attribute [local go_sem] max2_int min2_int max_two min_two max_three min_three max_four min_four   -- for this text's walks alone
set_option linter.unusedVariables false
set_option linter.unusedSimpArgs false

/-! ### mailcoachlaw10_HuffGets: function 5, by hand -/
theorem mailcoachlaw01_Beyond.one (n : Nat) (hn : n ≤ 9223372036854775807) : mailcoachlaw01_Beyond.f 2 [(n : Int)] = some (decide (1048576 < n)) := by
  have e : wrap64 (0 + rd [(n : Int)] 0) = n := by simp only [rd, wrap64]; simp; omega
  unfold mailcoachlaw01_Beyond.f
  simp only [mailcoachlaw01_Beyond.l0]
  rw [if_pos (by simp), if_pos (by simp), e]
  by_cases h : 1048576 < n
  · rw [if_pos (by omega)]; simp [h]
  · rw [if_neg (by omega)]
    have e1 : wrap64 (0 + 1) = 1 := by unfold wrap64; omega
    rw [e1, if_neg (by simp)]
    simp [h]
theorem man_lit_C (W : World) (k : IntKind) (t : TypeId) (x : Int) : Kd.C (Kd.int k) (W.alloc (.cells #[.int k x] t)) (some ⟨W.heap.size, 0, none⟩) [x].length [x] := by
  have h := own_lit W W.heap.size t k [x] (Nat.le_refl _) (by simp)
  have hr := own_reads' h
  exact Kd.C_of_reads (enc := Value.int k) (d := (0 : Int)) (h1 := fun _ => rfl) hr
theorem mailcoachlaw01_Beyond.calls1 (W : World) (n : Nat) (hn : n ≤ 9223372036854775807) :
    Calls Try.prog 20 #[.slice (some ⟨W.heap.size, 0, none⟩) 1 1] (W.alloc (.cells #[.int .i64 n] 3)) fun e w' => e = .returned (.bool (decide (1048576 < n))) ∧ Drawn0 (W.alloc (.cells #[.int .i64 n] 3)) w' :=
  mailcoachlaw01_Beyond.calls 2 (some ⟨W.heap.size, 0, none⟩) 1 [(n : Int)] _ _ (man_lit_C W .i64 3 n) (Nat.le_refl _) (mailcoachlaw01_Beyond.one n hn)

theorem mailcoachlaw01_Beyond.calls1x (W : World) (x : Int) (n : Nat) (hx : x = n) (hn : n ≤ 9223372036854775807) :
    Calls Try.prog 20 #[.slice (some ⟨W.heap.size, 0, none⟩) 1 1] (W.alloc (.cells #[.int .i64 x] 3)) fun e w' => e = .returned (.bool (decide (1048576 < n))) ∧ Drawn0 (W.alloc (.cells #[.int .i64 x] 3)) w' := by
  subst hx
  exact mailcoachlaw01_Beyond.calls1 W n hn
def mailcoachlaw10_HuffGets.Pure : Prop := ∀ (l0 : List Int), l0.length ≤ 2097153 → (∀ x ∈ l0, (Lit.int .u8 x).wf = true) → ∃ r, huff_Get.f l0 = some r ∧ mailcoachref10_Get.f l0 = some r
set_option maxHeartbeats 1600000 in
set_option maxRecDepth 100000 in
theorem mailcoachlaw10_HuffGets.walk (P : mailcoachlaw10_HuffGets.Pure) (a0 : Option Addr) (len0 cap0 : Nat) (z0 : List Int) (w : World) (w0 : (a0 = none ∧ len0 = 0 ∧ cap0 = 0 ∧ z0 = []) ∨ ∃ x, a0 = some x ∧ len0 ≤ cap0 ∧ cap0 ≤ maxLen ∧ z0.length = cap0 ∧ (∀ i, i < z0.length → w.cell? (x.add i) = some (.int .u8 (z0.getD i 0))) ∧ ∀ n ∈ z0, (Lit.int .u8 n).wf = true) (y0 : len0 * 1 ≤ 140737488351232) :
    Calls Try.prog 5 #[.slice a0 len0 cap0] w fun e w' => e = .returned (.bool true) ∧ Below w.heap.size w w' := by
  obtain ⟨l0, rfl, hr0, hm0, hw0, hc0⟩ := ReadsInt.ofRowC w0
  have HR0 := Aside0.mk (Kd.C_of_reads (enc := Value.int .u8) (d := (0 : Int)) (h1 := fun _ => rfl) hr0)
  clear hr0 w0
  by_cases hby : 1048576 < l0.length / 2
  · have hd : decide (1048576 < l0.length / 2) = true := by simp [hby]
    go_enter Try.func5, Try.ntmps5
    go_wp2_with (go_at_call 20; refine (mailcoachlaw01_Beyond.calls1x _ _ (l0.length / 2) (by omega) (by omega)).mono ?_; rintro e w' ⟨rfl, HD1⟩; rw [hd])
    go_ret
    exact ⟨rfl, below_step (below_alloc (Below.refl _ _) _) HD1.below⟩
  · have hd : decide (1048576 < l0.length / 2) = false := by simp [hby]
    obtain ⟨⟨r1, r2⟩, h1, h2⟩ := P l0 (by omega) hw0
    have H1 := Aside0.mk h1
    have H2 := Aside0.mk h2
    clear h1 h2
    go_enter Try.func5, Try.ntmps5
    go_wp2_with (go_at_call 20; refine (mailcoachlaw01_Beyond.calls1x _ _ (l0.length / 2) (by omega) (by omega)).mono ?_; rintro e w1 ⟨rfl, HD1⟩; rw [hd]; have HB1 := Aside0.mk (below_step (below_alloc (Below.refl w.heap.size w) _) HD1.below); clear HD1)
    refine (mailcoachlaw01_TwinBytes.twin a0 cap0 l0 w1 (Kd.C_below HR0.out HB1.out) hc0 (by omega)).mono ?_
    rintro e w2 ⟨v, rfl, ht2, hb2⟩
    have HB2 := Aside0.mk (below_step HB1.out hb2)
    obtain ⟨A2, c2, rfl, hrt, hct, _⟩ := ht2.reads
    have HT2 := Aside0.mk ht2
    have HRT := Aside0.mk hrt
    clear ht2 hb2 hrt HB1
    go_wp2_with (fail)
    refine (huff_Get.calls A2 c2 l0 r1 r2 w2 HRT.out (by omega) H1.out).mono ?_
    rintro e w3 ⟨rfl, hb3⟩
    have HB3 := Aside0.mk (below_step HB2.out hb3)
    have HT3 := Aside0.mk (HT2.out.below hb3)
    clear hb3 HB2 HT2 HRT
    go_wp2_with (fail)
    refine (mailcoachref10_Get.calls a0 cap0 l0 r1 r2 w3 (Kd.C_below HR0.out HB3.out) hc0 H2.out).mono ?_
    rintro e w4 ⟨rfl, hd4⟩
    have HB4 := Aside0.mk (below_step HB3.out hd4)
    have HT4 := Aside0.mk (HT3.out.below hd4)
    clear hd4 HB3 HT3
    go_wp2_with (fail)
    refine (mailcoachlaw01_LeftBytes.twin _ _ a0 cap0 l0 w4 HT4.out (Kd.C_below HR0.out HB4.out) hc0).mono ?_
    rintro e w5 ⟨rfl, hd5⟩
    have HB5 := Aside0.mk (below_step HB4.out hd5.below)
    clear hd5
    go_wp2_with (fail)
    go_ret
    exact ⟨rfl, HB5.out⟩


end Go.Proofs.Ytmkmefdajbdceaa.PHG
