-- Written by wip/mprint.py (the kit's printer, and texts of this claim's own for what it does not take). Not trusted: Lean checks it.
import Derived.Test.YtmkmefdajbdceaaDoorPVPx0
namespace Go.Proofs.YtmkmefdajbdceaaDoor.PVP
open Go.RowKit Go.Proofs.YtmkmefdajbdceaaDoorW.PrintWords Go.Proofs.YtmkmefdajbdceaaDoorW.PrintLast Go.Proofs.YtmkmefdajbdceaaDoorW.PrintMore
attribute [local go_sem] max2_int min2_int max_two min_two max_three min_three max_four min_four   -- for this text's walks alone
set_option linter.unusedVariables false
set_option linter.unusedSimpArgs false

/-! ### varint_sizes: function 18, by hand -/
theorem varint_sizes.calls (w : World) :
    Calls Tryd.prog 18 #[] w fun e w' => e = .returned (.agg #[.int .i64 1, .int .i64 2, .int .i64 4, .int .i64 8]) ∧ Below w.heap.size w w' := by
  go_enter Tryd.func18, Tryd.ntmps18
  go_wp2
  exact bodyPost_ret (v := .agg #[.int .i64 1, .int .i64 2, .int .i64 4, .int .i64 8]) (by simp [results, Tryd.results18, go_sem]) rfl ⟨rfl, below_alloc (Below.refl _ _) _⟩


/-! ### varint_Put: function 6, by hand -/
theorem man_info_u8 : (Tryd.prog.info? 5).map (fun i => (i.zero, i.size, i.bytes)) = some (some (.int .u8 0), 1, 1) := by kernel_rfl
/-- A number's place in a list. -/
theorem man_take_snoc (l : List Int) (k : Nat) (hk : k < l.length) : l.take (k + 1) = l.take k ++ [rd l k] := by
  rw [List.take_succ_eq_append_getElem hk]
  simp [rd, List.getD_eq_getElem?_getD, List.getElem?_eq_getElem hk]
/-- A list of bytes in memory of the call's own, with the mark behind it. -/
def Twin (w : World) (base : Nat) (v : Value) (l : List Int) : Prop :=
  ∃ g cap, v = .slice (some ⟨g, 0, none⟩) l.length cap ∧ w.ownsRow base 5 1 (.slice (some ⟨g, 0, none⟩) (l.length + 1) cap) (l.length + 1) (nums .u8 (l ++ [77]))
theorem Twin.below {w w1 : World} {base : Nat} {v : Value} {l : List Int} (h : Twin w base v l) (hb : Below w.heap.size w w1) : Twin w1 base v l := by
  obtain ⟨g, cap, hv, ho⟩ := h
  exact ⟨g, cap, hv, pw_own_below ho hb⟩
theorem Twin.reads {w : World} {base : Nat} {v : Value} {l : List Int} (h : Twin w base v l) : ∃ A c, v = .slice A l.length c ∧ Kd.C (Kd.int .u8) w A l.length l ∧ l.length + 1 ≤ c ∧ Kd.C (Kd.int .u8) w A (l ++ [77]).length (l ++ [77]) := by
  obtain ⟨g, cap, rfl, ho⟩ := h
  have hr := own_reads' ho
  have hC : Kd.C (Kd.int .u8) w (some ⟨g, 0, none⟩) (l ++ [77]).length (l ++ [77]) := by
    have h := Kd.C_of_reads (enc := Value.int .u8) (d := (0 : Int)) (h1 := fun _ => rfl) hr
    rw [List.length_append]
    exact h
  refine ⟨some ⟨g, 0, none⟩, cap, rfl, ?_, own_cap ho, hC⟩
  have h2 := Kd.C_take (m := l.length) hC (by simp)
  simpa using h2

theorem man_R_of_own {w : World} {base : Nat} {e : TypeId} {k : IntKind} {v : Value} {n : Nat} {xs : List Int} (h : w.ownsRow base e 1 v n (nums k xs)) : Kd.R (Kd.int k) e w base (fun _ => True) v xs := by
  have hl : xs.length = n := by have := h.1; simp [nums] at this; exact this
  subst hl
  exact Kd.R_of_own (enc := Value.int k) (h1 := fun _ => rfl) h (fun _ _ => trivial)

theorem varint_Put.or_high (b : Int) (h0 : 0 ≤ b) (h1 : b < 64) : bits .or .u8 b 64 = 64 + b ∧ bits .or .u8 b 128 = 128 + b ∧ bits .or .u8 b 192 = 192 + b ∧ bits .or .u8 b 0 = b := by
  have hb : b = ((b.toNat : Nat) : Int) := by omega
  have hl : b.toNat < 64 := by omega
  rw [hb]
  exact of_decide_eq_true (List.all_eq_true.1 (show (List.range 64).all (fun n => decide (bits .or .u8 (n : Int) 64 = 64 + (n : Int) ∧ bits .or .u8 (n : Int) 128 = 128 + (n : Int) ∧ bits .or .u8 (n : Int) 192 = 192 + (n : Int) ∧ bits .or .u8 (n : Int) 0 = (n : Int))) = true by decide +kernel) _ (List.mem_range.2 hl))
set_option maxHeartbeats 3200000 in
set_option maxRecDepth 100000 in
theorem varint_Put.one (n : Int) (w : World) (h0 : 0 ≤ n) (h1 : n < 64) :
    Calls Tryd.prog 6 #[.int .u64 n] w fun e w' => ∃ v, e = .returned (.tuple #[v, .int .i64 0]) ∧ w'.ownsRow w.heap.size 5 1 v 1 (nums .u8 [n]) ∧ Below w.heap.size w w' := by
  have i0 : ∀ w, (Instr.index 51 (.agg #[.int .i64 1, .int .i64 2, .int .i64 4, .int .i64 8]) (.int .i64 0)).run Tryd.prog w = .ok (.int .i64 1) w := fun _ => by kernel_rfl
  have i1 : ∀ w, (Instr.index 51 (.agg #[.int .i64 1, .int .i64 2, .int .i64 4, .int .i64 8]) (.int .i64 1)).run Tryd.prog w = .ok (.int .i64 2) w := fun _ => by kernel_rfl
  have i2 : ∀ w, (Instr.index 51 (.agg #[.int .i64 1, .int .i64 2, .int .i64 4, .int .i64 8]) (.int .i64 2)).run Tryd.prog w = .ok (.int .i64 4) w := fun _ => by kernel_rfl
  have i3 : ∀ w, (Instr.index 51 (.agg #[.int .i64 1, .int .i64 2, .int .i64 4, .int .i64 8]) (.int .i64 3)).run Tryd.prog w = .ok (.int .i64 8) w := fun _ => by kernel_rfl
  have hmk : ∀ w : World, (Instr.makeSlice 23 (.int .i64 1) (.int .i64 1)).run Tryd.prog w = .ok (.slice (some ⟨w.heap.size, 0, none⟩) 1 1) (w.alloc (.cells #[.int .u8 0] 5)) := fun _ => by kernel_rfl
  have hz : n / 64 = 0 := by omega
  obtain ⟨_o1, _o2, _o3, _o4⟩ := varint_Put.or_high (n) (by omega) (by omega)
  go_enter Tryd.func6, Tryd.ntmps6
  go_wp2_with (go_at_call 18; refine (varint_sizes.calls _).mono ?_; rintro e w1 ⟨rfl, hb1⟩)
  refine wp_loop_rounds 5 ?_
  rw [rounds_succ]
  go_wp2
  refine wp_loop_rounds 2 ?_
  rw [rounds_succ]
  go_wp2
  rw [rounds_succ]
  go_wp2
  go_ret2
  exact ⟨_, rfl, own_lit w1 w.heap.size 5 .u8 [n] hb1.size (by simp), below_alloc hb1 _⟩
set_option maxHeartbeats 3200000 in
set_option maxRecDepth 100000 in
theorem varint_Put.two (n : Int) (w : World) (h0 : 64 ≤ n) (h1 : n < 16384) :
    Calls Tryd.prog 6 #[.int .u64 n] w fun e w' => ∃ v, e = .returned (.tuple #[v, .int .i64 0]) ∧ w'.ownsRow w.heap.size 5 1 v 2 (nums .u8 [64 + n / 256, n % 256]) ∧ Below w.heap.size w w' := by
  have i0 : ∀ w, (Instr.index 51 (.agg #[.int .i64 1, .int .i64 2, .int .i64 4, .int .i64 8]) (.int .i64 0)).run Tryd.prog w = .ok (.int .i64 1) w := fun _ => by kernel_rfl
  have i1 : ∀ w, (Instr.index 51 (.agg #[.int .i64 1, .int .i64 2, .int .i64 4, .int .i64 8]) (.int .i64 1)).run Tryd.prog w = .ok (.int .i64 2) w := fun _ => by kernel_rfl
  have i2 : ∀ w, (Instr.index 51 (.agg #[.int .i64 1, .int .i64 2, .int .i64 4, .int .i64 8]) (.int .i64 2)).run Tryd.prog w = .ok (.int .i64 4) w := fun _ => by kernel_rfl
  have i3 : ∀ w, (Instr.index 51 (.agg #[.int .i64 1, .int .i64 2, .int .i64 4, .int .i64 8]) (.int .i64 3)).run Tryd.prog w = .ok (.int .i64 8) w := fun _ => by kernel_rfl
  have hmk : ∀ w : World, (Instr.makeSlice 23 (.int .i64 2) (.int .i64 2)).run Tryd.prog w = .ok (.slice (some ⟨w.heap.size, 0, none⟩) 2 2) (w.alloc (.cells #[.int .u8 0, .int .u8 0] 5)) := fun _ => by kernel_rfl
  have hp0 : 1 ≤ n / 64 := by omega
  have hz : n / 16384 = 0 := by omega
  obtain ⟨_o1, _o2, _o3, _o4⟩ := varint_Put.or_high (n / 256) (by omega) (by omega)
  go_enter Tryd.func6, Tryd.ntmps6
  go_wp2_with (go_at_call 18; refine (varint_sizes.calls _).mono ?_; rintro e w1 ⟨rfl, hb1⟩)
  refine wp_loop_rounds 5 ?_
  rw [rounds_succ]
  go_wp2
  rw [rounds_succ]
  go_wp2
  refine wp_loop_rounds 3 ?_
  rw [rounds_succ]
  go_wp2
  rw [rounds_succ]
  go_wp2
  rw [rounds_succ]
  go_wp2
  go_ret2
  exact ⟨_, rfl, own_lit w1 w.heap.size 5 .u8 [64 + n / 256, n % 256] hb1.size (by simp), below_alloc hb1 _⟩
set_option maxHeartbeats 3200000 in
set_option maxRecDepth 100000 in
theorem varint_Put.four (n : Int) (w : World) (h0 : 16384 ≤ n) (h1 : n < 1073741824) :
    Calls Tryd.prog 6 #[.int .u64 n] w fun e w' => ∃ v, e = .returned (.tuple #[v, .int .i64 0]) ∧ w'.ownsRow w.heap.size 5 1 v 4 (nums .u8 [128 + n / 16777216, n / 65536 % 256, n / 256 % 256, n % 256]) ∧ Below w.heap.size w w' := by
  have i0 : ∀ w, (Instr.index 51 (.agg #[.int .i64 1, .int .i64 2, .int .i64 4, .int .i64 8]) (.int .i64 0)).run Tryd.prog w = .ok (.int .i64 1) w := fun _ => by kernel_rfl
  have i1 : ∀ w, (Instr.index 51 (.agg #[.int .i64 1, .int .i64 2, .int .i64 4, .int .i64 8]) (.int .i64 1)).run Tryd.prog w = .ok (.int .i64 2) w := fun _ => by kernel_rfl
  have i2 : ∀ w, (Instr.index 51 (.agg #[.int .i64 1, .int .i64 2, .int .i64 4, .int .i64 8]) (.int .i64 2)).run Tryd.prog w = .ok (.int .i64 4) w := fun _ => by kernel_rfl
  have i3 : ∀ w, (Instr.index 51 (.agg #[.int .i64 1, .int .i64 2, .int .i64 4, .int .i64 8]) (.int .i64 3)).run Tryd.prog w = .ok (.int .i64 8) w := fun _ => by kernel_rfl
  have hmk : ∀ w : World, (Instr.makeSlice 23 (.int .i64 4) (.int .i64 4)).run Tryd.prog w = .ok (.slice (some ⟨w.heap.size, 0, none⟩) 4 4) (w.alloc (.cells #[.int .u8 0, .int .u8 0, .int .u8 0, .int .u8 0] 5)) := fun _ => by kernel_rfl
  have hp0 : 1 ≤ n / 64 := by omega
  have hp1 : 1 ≤ n / 16384 := by omega
  have hz : n / 1073741824 = 0 := by omega
  obtain ⟨_o1, _o2, _o3, _o4⟩ := varint_Put.or_high (n / 16777216) (by omega) (by omega)
  go_enter Tryd.func6, Tryd.ntmps6
  go_wp2_with (go_at_call 18; refine (varint_sizes.calls _).mono ?_; rintro e w1 ⟨rfl, hb1⟩)
  refine wp_loop_rounds 5 ?_
  rw [rounds_succ]
  go_wp2
  rw [rounds_succ]
  go_wp2
  rw [rounds_succ]
  go_wp2
  refine wp_loop_rounds 5 ?_
  rw [rounds_succ]
  go_wp2
  rw [rounds_succ]
  go_wp2
  rw [rounds_succ]
  go_wp2
  rw [rounds_succ]
  go_wp2
  rw [rounds_succ]
  go_wp2
  go_ret2
  exact ⟨_, rfl, own_lit w1 w.heap.size 5 .u8 [128 + n / 16777216, n / 65536 % 256, n / 256 % 256, n % 256] hb1.size (by simp), below_alloc hb1 _⟩
set_option maxHeartbeats 3200000 in
set_option maxRecDepth 100000 in
theorem varint_Put.eight (n : Int) (w : World) (h0 : 1073741824 ≤ n) (h1 : n < 4611686018427387904) :
    Calls Tryd.prog 6 #[.int .u64 n] w fun e w' => ∃ v, e = .returned (.tuple #[v, .int .i64 0]) ∧ w'.ownsRow w.heap.size 5 1 v 8 (nums .u8 [192 + n / 72057594037927936, n / 281474976710656 % 256, n / 1099511627776 % 256, n / 4294967296 % 256, n / 16777216 % 256, n / 65536 % 256, n / 256 % 256, n % 256]) ∧ Below w.heap.size w w' := by
  have i0 : ∀ w, (Instr.index 51 (.agg #[.int .i64 1, .int .i64 2, .int .i64 4, .int .i64 8]) (.int .i64 0)).run Tryd.prog w = .ok (.int .i64 1) w := fun _ => by kernel_rfl
  have i1 : ∀ w, (Instr.index 51 (.agg #[.int .i64 1, .int .i64 2, .int .i64 4, .int .i64 8]) (.int .i64 1)).run Tryd.prog w = .ok (.int .i64 2) w := fun _ => by kernel_rfl
  have i2 : ∀ w, (Instr.index 51 (.agg #[.int .i64 1, .int .i64 2, .int .i64 4, .int .i64 8]) (.int .i64 2)).run Tryd.prog w = .ok (.int .i64 4) w := fun _ => by kernel_rfl
  have i3 : ∀ w, (Instr.index 51 (.agg #[.int .i64 1, .int .i64 2, .int .i64 4, .int .i64 8]) (.int .i64 3)).run Tryd.prog w = .ok (.int .i64 8) w := fun _ => by kernel_rfl
  have hmk : ∀ w : World, (Instr.makeSlice 23 (.int .i64 8) (.int .i64 8)).run Tryd.prog w = .ok (.slice (some ⟨w.heap.size, 0, none⟩) 8 8) (w.alloc (.cells #[.int .u8 0, .int .u8 0, .int .u8 0, .int .u8 0, .int .u8 0, .int .u8 0, .int .u8 0, .int .u8 0] 5)) := fun _ => by kernel_rfl
  have hp0 : 1 ≤ n / 64 := by omega
  have hp1 : 1 ≤ n / 16384 := by omega
  have hp2 : 1 ≤ n / 1073741824 := by omega
  have hz : n / 4611686018427387904 = 0 := by omega
  obtain ⟨_o1, _o2, _o3, _o4⟩ := varint_Put.or_high (n / 72057594037927936) (by omega) (by omega)
  go_enter Tryd.func6, Tryd.ntmps6
  go_wp2_with (go_at_call 18; refine (varint_sizes.calls _).mono ?_; rintro e w1 ⟨rfl, hb1⟩)
  refine wp_loop_rounds 5 ?_
  rw [rounds_succ]
  go_wp2
  rw [rounds_succ]
  go_wp2
  rw [rounds_succ]
  go_wp2
  rw [rounds_succ]
  go_wp2
  refine wp_loop_rounds 9 ?_
  rw [rounds_succ]
  go_wp2
  rw [rounds_succ]
  go_wp2
  rw [rounds_succ]
  go_wp2
  rw [rounds_succ]
  go_wp2
  rw [rounds_succ]
  go_wp2
  rw [rounds_succ]
  go_wp2
  rw [rounds_succ]
  go_wp2
  rw [rounds_succ]
  go_wp2
  rw [rounds_succ]
  go_wp2
  go_ret2
  exact ⟨_, rfl, own_lit w1 w.heap.size 5 .u8 [192 + n / 72057594037927936, n / 281474976710656 % 256, n / 1099511627776 % 256, n / 4294967296 % 256, n / 16777216 % 256, n / 65536 % 256, n / 256 % 256, n % 256] hb1.size (by simp), below_alloc hb1 _⟩
def varint_Put.f (n : Int) : Option (List Int × Int) :=
  if 4611686018427387903 < n then some ([], 1)
  else if n < 0 then none
  else if n < 64 then some ([n], 0)
  else if n < 16384 then some ([64 + n / 256, n % 256], 0)
  else if n < 1073741824 then some ([128 + n / 16777216, n / 65536 % 256, n / 256 % 256, n % 256], 0)
  else some ([192 + n / 72057594037927936, n / 281474976710656 % 256, n / 1099511627776 % 256, n / 4294967296 % 256, n / 16777216 % 256, n / 65536 % 256, n / 256 % 256, n % 256], 0)
theorem varint_Put.great (n : Int) (w : World) (h : 4611686018427387903 < n) :
    Calls Tryd.prog 6 #[.int .u64 n] w fun e w' => ∃ v, e = .returned (.tuple #[v, .int .i64 1]) ∧ w'.ownsRow w.heap.size 5 1 v 0 (nums .u8 []) ∧ Below w.heap.size w w' := by
  go_enter Tryd.func6, Tryd.ntmps6
  go_wp2
  go_ret2
  exact ⟨_, rfl, own_nil _ _ _ _, Below.refl _ _⟩
theorem varint_Put.calls (a0 : Int) (r1 : List Int) (r2 : Int) (w : World) (h : varint_Put.f a0 = some (r1, r2)) :
    Calls Tryd.prog 6 #[.int .u64 a0] w fun e w' => ∃ v0_ : Value, e = .returned (.tuple #[v0_, .int .i64 r2]) ∧ Kd.R (Kd.int .u8) 5 w' w.heap.size (fun _ => True) v0_ r1 ∧ Below w.heap.size w w' := by
  unfold varint_Put.f at h
  split at h
  · simp only [Option.some.injEq, Prod.mk.injEq] at h
    obtain ⟨rfl, rfl⟩ := h
    exact (varint_Put.great a0 w (by assumption)).mono fun e w' ⟨v, he, ho, hb⟩ => ⟨v, he, man_R_of_own ho, hb⟩
  · split at h
    · cases h
    · split at h
      · simp only [Option.some.injEq, Prod.mk.injEq] at h
        obtain ⟨rfl, rfl⟩ := h
        exact (varint_Put.one a0 w (by omega) (by omega)).mono fun e w' ⟨v, he, ho, hb⟩ => ⟨v, he, man_R_of_own ho, hb⟩
      · split at h
        · simp only [Option.some.injEq, Prod.mk.injEq] at h
          obtain ⟨rfl, rfl⟩ := h
          exact (varint_Put.two a0 w (by omega) (by omega)).mono fun e w' ⟨v, he, ho, hb⟩ => ⟨v, he, man_R_of_own ho, hb⟩
        · split at h
          · simp only [Option.some.injEq, Prod.mk.injEq] at h
            obtain ⟨rfl, rfl⟩ := h
            exact (varint_Put.four a0 w (by omega) (by omega)).mono fun e w' ⟨v, he, ho, hb⟩ => ⟨v, he, man_R_of_own ho, hb⟩
          · simp only [Option.some.injEq, Prod.mk.injEq] at h
            obtain ⟨rfl, rfl⟩ := h
            exact (varint_Put.eight a0 w (by omega) (by omega)).mono fun e w' ⟨v, he, ho, hb⟩ => ⟨v, he, man_R_of_own ho, hb⟩


end Go.Proofs.YtmkmefdajbdceaaDoor.PVP
