-- Written by wip/mprint.py (the kit's printer, and texts of this claim's own for what it does not take). Not trusted: Lean checks it.
import Derived.Test.YtjjignoocaejiaaDoorPPRx0
import Derived.Test.YtjjignoocaejiaaDoorPPRx11
namespace Go.Proofs.YtjjignoocaejiaaDoor.PPR
open Go.RowKit Go.Proofs.YtjjignoocaejiaaDoorW.PrintWords Go.Proofs.YtjjignoocaejiaaDoorW.PrintLast Go.Proofs.YtjjignoocaejiaaDoorW.PrintMore
attribute [local go_sem] max2_int min2_int max_two min_two max_three min_three max_four min_four   -- for this text's walks alone
set_option linter.unusedVariables false
set_option linter.unusedSimpArgs false

/-! ### mailcoachref23_less: function 26, by hand -/
/-! ### mailcoachref23.rank, mailcoachref23.less -/
def prio_less3 (a0 a1 a2 b0 b1 b2 : Int) : Bool := if a0 = b0 then (if a1 = b1 then (if a2 = b2 then false else decide (a2 < b2)) else decide (a1 < b1)) else decide (a0 < b0)
set_option maxHeartbeats 800000 in
set_option maxRecDepth 100000 in
theorem ref_rank.calls (id u : Int) (sh : Bool) (last : Int) (w : World) :
    Calls Tryd.prog 27 #[.agg #[.int .u64 id, .int .i64 u, .bool sh], .int .u64 last] w fun e w' => e = .returned (.agg #[.int .u64 (prio_word u), .int .u64 (prio_turn id sh last), .int .u64 id]) ∧ Below w.heap.size w w' := by
  cases sh with
  | false =>
    go_enter Tryd.func27, Tryd.ntmps27
    go_wp2
    refine bodyPost_ret (v := .agg #[.int .u64 (prio_word u), .int .u64 (prio_turn id false last), .int .u64 id]) (by simp [results, Tryd.results27, go_sem, prio_word, prio_turn]) rfl ⟨rfl, ?_⟩
    repeat (first | exact Below.refl _ _ | refine Below.setCell ?_ (by simp; try omega) _ | refine Below.alloc ?_ (by simp; try omega) _)
  | true =>
    by_cases h : last < id
    · have hd : decide (id ≤ last) = false := decide_eq_false (by omega)
      go_enter Tryd.func27, Tryd.ntmps27
      go_wp2
      refine bodyPost_ret (v := .agg #[.int .u64 (prio_word u), .int .u64 (prio_turn id true last), .int .u64 id]) (by simp [results, Tryd.results27, go_sem, prio_word, prio_turn, h]) rfl ⟨rfl, ?_⟩
      repeat (first | exact Below.refl _ _ | refine Below.setCell ?_ (by simp; try omega) _ | refine Below.alloc ?_ (by simp; try omega) _)
    · have hd : decide (id ≤ last) = true := decide_eq_true (by omega)
      go_enter Tryd.func27, Tryd.ntmps27
      go_wp2
      refine bodyPost_ret (v := .agg #[.int .u64 (prio_word u), .int .u64 (prio_turn id true last), .int .u64 id]) (by simp [results, Tryd.results27, go_sem, prio_word, prio_turn, h]) rfl ⟨rfl, ?_⟩
      repeat (first | exact Below.refl _ _ | refine Below.setCell ?_ (by simp; try omega) _ | refine Below.alloc ?_ (by simp; try omega) _)
set_option maxHeartbeats 1600000 in
set_option maxRecDepth 100000 in
theorem ref_less.zero (a0 a1 a2 b0 b1 b2 : Int) (w : World) (h0 : a0 ≠ b0) :
    Calls Tryd.prog 26 #[.agg #[.int .u64 a0, .int .u64 a1, .int .u64 a2], .agg #[.int .u64 b0, .int .u64 b1, .int .u64 b2]] w fun e w' => e = .returned (.bool (decide (a0 < b0))) ∧ Below w.heap.size w w' := by
  have q0 : (a0 != b0) = true := by simpa using h0
  clear h0
  go_enter Tryd.func26, Tryd.ntmps26
  go_wp2
  obtain ⟨W, hW⟩ : ∃ W, (w.alloc (.cells #[.int .u64 a0, .int .u64 a1, .int .u64 a2] 57)).alloc (.cells #[.int .u64 b0, .int .u64 b1, .int .u64 b2] 57) = W := ⟨_, rfl⟩
  have hB := Aside0.mk (show Below w.heap.size w W from by rw [← hW]; exact ((Below.refl _ _).alloc (Nat.le_refl _) _).alloc (by simp) _)
  have ca0 : W.cell? ⟨w.heap.size, 0, none⟩ = some (.int .u64 a0) := by rw [← hW]; simp [go_sem]
  have ca1 : W.cell? ⟨w.heap.size, 1, none⟩ = some (.int .u64 a1) := by rw [← hW]; simp [go_sem]
  have ca2 : W.cell? ⟨w.heap.size, 2, none⟩ = some (.int .u64 a2) := by rw [← hW]; simp [go_sem]
  have cb0 : W.cell? ⟨w.heap.size + 1, 0, none⟩ = some (.int .u64 b0) := by rw [← hW]; simp [go_sem]
  have cb1 : W.cell? ⟨w.heap.size + 1, 1, none⟩ = some (.int .u64 b1) := by rw [← hW]; simp [go_sem]
  have cb2 : W.cell? ⟨w.heap.size + 1, 2, none⟩ = some (.int .u64 b2) := by rw [← hW]; simp [go_sem]
  rw [hW]
  clear hW
  refine wp_loop_rounds 4 ?_
  rw [rounds_succ]
  go_wp2
  go_quiet (fail)
  go_wp2
  go_quiet (fail)
  go_wp2
  go_ret
  exact ⟨rfl, by repeat (first | exact hB.out | apply pw_below_drewN)⟩
set_option maxHeartbeats 1600000 in
set_option maxRecDepth 100000 in
theorem ref_less.one (a0 a1 a2 b0 b1 b2 : Int) (w : World) (h0 : a0 = b0) (h1 : a1 ≠ b1) :
    Calls Tryd.prog 26 #[.agg #[.int .u64 a0, .int .u64 a1, .int .u64 a2], .agg #[.int .u64 b0, .int .u64 b1, .int .u64 b2]] w fun e w' => e = .returned (.bool (decide (a1 < b1))) ∧ Below w.heap.size w w' := by
  have q0 : (a0 != b0) = false := by simpa using h0
  have q1 : (a1 != b1) = true := by simpa using h1
  clear h0 h1
  go_enter Tryd.func26, Tryd.ntmps26
  go_wp2
  obtain ⟨W, hW⟩ : ∃ W, (w.alloc (.cells #[.int .u64 a0, .int .u64 a1, .int .u64 a2] 57)).alloc (.cells #[.int .u64 b0, .int .u64 b1, .int .u64 b2] 57) = W := ⟨_, rfl⟩
  have hB := Aside0.mk (show Below w.heap.size w W from by rw [← hW]; exact ((Below.refl _ _).alloc (Nat.le_refl _) _).alloc (by simp) _)
  have ca0 : W.cell? ⟨w.heap.size, 0, none⟩ = some (.int .u64 a0) := by rw [← hW]; simp [go_sem]
  have ca1 : W.cell? ⟨w.heap.size, 1, none⟩ = some (.int .u64 a1) := by rw [← hW]; simp [go_sem]
  have ca2 : W.cell? ⟨w.heap.size, 2, none⟩ = some (.int .u64 a2) := by rw [← hW]; simp [go_sem]
  have cb0 : W.cell? ⟨w.heap.size + 1, 0, none⟩ = some (.int .u64 b0) := by rw [← hW]; simp [go_sem]
  have cb1 : W.cell? ⟨w.heap.size + 1, 1, none⟩ = some (.int .u64 b1) := by rw [← hW]; simp [go_sem]
  have cb2 : W.cell? ⟨w.heap.size + 1, 2, none⟩ = some (.int .u64 b2) := by rw [← hW]; simp [go_sem]
  rw [hW]
  clear hW
  refine wp_loop_rounds 4 ?_
  rw [rounds_succ]
  go_wp2
  go_quiet (fail)
  go_wp2
  rw [rounds_succ]
  go_wp2
  go_quiet (fail)
  go_wp2
  go_quiet (fail)
  go_wp2
  go_ret
  exact ⟨rfl, by repeat (first | exact hB.out | apply pw_below_drewN)⟩
set_option maxHeartbeats 1600000 in
set_option maxRecDepth 100000 in
theorem ref_less.two (a0 a1 a2 b0 b1 b2 : Int) (w : World) (h0 : a0 = b0) (h1 : a1 = b1) (h2 : a2 ≠ b2) :
    Calls Tryd.prog 26 #[.agg #[.int .u64 a0, .int .u64 a1, .int .u64 a2], .agg #[.int .u64 b0, .int .u64 b1, .int .u64 b2]] w fun e w' => e = .returned (.bool (decide (a2 < b2))) ∧ Below w.heap.size w w' := by
  have q0 : (a0 != b0) = false := by simpa using h0
  have q1 : (a1 != b1) = false := by simpa using h1
  have q2 : (a2 != b2) = true := by simpa using h2
  clear h0 h1 h2
  go_enter Tryd.func26, Tryd.ntmps26
  go_wp2
  obtain ⟨W, hW⟩ : ∃ W, (w.alloc (.cells #[.int .u64 a0, .int .u64 a1, .int .u64 a2] 57)).alloc (.cells #[.int .u64 b0, .int .u64 b1, .int .u64 b2] 57) = W := ⟨_, rfl⟩
  have hB := Aside0.mk (show Below w.heap.size w W from by rw [← hW]; exact ((Below.refl _ _).alloc (Nat.le_refl _) _).alloc (by simp) _)
  have ca0 : W.cell? ⟨w.heap.size, 0, none⟩ = some (.int .u64 a0) := by rw [← hW]; simp [go_sem]
  have ca1 : W.cell? ⟨w.heap.size, 1, none⟩ = some (.int .u64 a1) := by rw [← hW]; simp [go_sem]
  have ca2 : W.cell? ⟨w.heap.size, 2, none⟩ = some (.int .u64 a2) := by rw [← hW]; simp [go_sem]
  have cb0 : W.cell? ⟨w.heap.size + 1, 0, none⟩ = some (.int .u64 b0) := by rw [← hW]; simp [go_sem]
  have cb1 : W.cell? ⟨w.heap.size + 1, 1, none⟩ = some (.int .u64 b1) := by rw [← hW]; simp [go_sem]
  have cb2 : W.cell? ⟨w.heap.size + 1, 2, none⟩ = some (.int .u64 b2) := by rw [← hW]; simp [go_sem]
  rw [hW]
  clear hW
  refine wp_loop_rounds 4 ?_
  rw [rounds_succ]
  go_wp2
  go_quiet (fail)
  go_wp2
  rw [rounds_succ]
  go_wp2
  go_quiet (fail)
  go_wp2
  rw [rounds_succ]
  go_wp2
  go_quiet (fail)
  go_wp2
  go_quiet (fail)
  go_wp2
  go_ret
  exact ⟨rfl, by repeat (first | exact hB.out | apply pw_below_drewN)⟩
set_option maxHeartbeats 1600000 in
set_option maxRecDepth 100000 in
theorem ref_less.three (a0 a1 a2 b0 b1 b2 : Int) (w : World) (h0 : a0 = b0) (h1 : a1 = b1) (h2 : a2 = b2) :
    Calls Tryd.prog 26 #[.agg #[.int .u64 a0, .int .u64 a1, .int .u64 a2], .agg #[.int .u64 b0, .int .u64 b1, .int .u64 b2]] w fun e w' => e = .returned (.bool (false)) ∧ Below w.heap.size w w' := by
  have q0 : (a0 != b0) = false := by simpa using h0
  have q1 : (a1 != b1) = false := by simpa using h1
  have q2 : (a2 != b2) = false := by simpa using h2
  clear h0 h1 h2
  go_enter Tryd.func26, Tryd.ntmps26
  go_wp2
  obtain ⟨W, hW⟩ : ∃ W, (w.alloc (.cells #[.int .u64 a0, .int .u64 a1, .int .u64 a2] 57)).alloc (.cells #[.int .u64 b0, .int .u64 b1, .int .u64 b2] 57) = W := ⟨_, rfl⟩
  have hB := Aside0.mk (show Below w.heap.size w W from by rw [← hW]; exact ((Below.refl _ _).alloc (Nat.le_refl _) _).alloc (by simp) _)
  have ca0 : W.cell? ⟨w.heap.size, 0, none⟩ = some (.int .u64 a0) := by rw [← hW]; simp [go_sem]
  have ca1 : W.cell? ⟨w.heap.size, 1, none⟩ = some (.int .u64 a1) := by rw [← hW]; simp [go_sem]
  have ca2 : W.cell? ⟨w.heap.size, 2, none⟩ = some (.int .u64 a2) := by rw [← hW]; simp [go_sem]
  have cb0 : W.cell? ⟨w.heap.size + 1, 0, none⟩ = some (.int .u64 b0) := by rw [← hW]; simp [go_sem]
  have cb1 : W.cell? ⟨w.heap.size + 1, 1, none⟩ = some (.int .u64 b1) := by rw [← hW]; simp [go_sem]
  have cb2 : W.cell? ⟨w.heap.size + 1, 2, none⟩ = some (.int .u64 b2) := by rw [← hW]; simp [go_sem]
  rw [hW]
  clear hW
  refine wp_loop_rounds 4 ?_
  rw [rounds_succ]
  go_wp2
  go_quiet (fail)
  go_wp2
  rw [rounds_succ]
  go_wp2
  go_quiet (fail)
  go_wp2
  rw [rounds_succ]
  go_wp2
  go_quiet (fail)
  go_wp2
  rw [rounds_succ]
  go_wp2
  go_ret
  exact ⟨rfl, by repeat (first | exact hB.out | apply pw_below_drewN)⟩
theorem ref_less.calls (a0 a1 a2 b0 b1 b2 : Int) (w : World) :
    Calls Tryd.prog 26 #[.agg #[.int .u64 a0, .int .u64 a1, .int .u64 a2], .agg #[.int .u64 b0, .int .u64 b1, .int .u64 b2]] w fun e w' => e = .returned (.bool (prio_less3 a0 a1 a2 b0 b1 b2)) ∧ Below w.heap.size w w' := by
  unfold prio_less3
  by_cases h0 : a0 = b0
  · rw [if_pos h0]
    by_cases h1 : a1 = b1
    · rw [if_pos h1]
      by_cases h2 : a2 = b2
      · rw [if_pos h2]; exact ref_less.three _ _ _ _ _ _ w h0 h1 h2
      · rw [if_neg h2]; exact ref_less.two _ _ _ _ _ _ w h0 h1 h2
    · rw [if_neg h1]; exact ref_less.one _ _ _ _ _ _ w h0 h1
  · rw [if_neg h0]; exact ref_less.zero _ _ _ _ _ _ w h0


/-! ### mailcoachref23_rank: function 27, by hand -/

end Go.Proofs.YtjjignoocaejiaaDoor.PPR
