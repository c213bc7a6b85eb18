-- Written by wip/mprint.py (the kit's printer, and texts of this claim's own for what it does not take). Not trusted: Lean checks it.
import Derived.Test.YtmkmefdajbdceaaPTXx0
import Derived.Test.YtmkmefdajbdceaaPTXx3
import Derived.Test.YtmkmefdajbdceaaPTXx5
namespace Go.Proofs.Ytmkmefdajbdceaa.PTX
open Go.RowKit Go.Proofs.YtmkmefdajbdceaaW.PrintWords Go.Proofs.YtmkmefdajbdceaaW.PrintLast Go.Proofs.YtmkmefdajbdceaaW.PrintMore
attribute [local go_sem] max2_int min2_int max_two min_two max_three min_three max_four min_four   -- for this text's walks alone
set_option linter.unusedVariables false
set_option linter.unusedSimpArgs false

/-! ### mailcoachref10_Lengths: function 54, by hand -/
def mailcoachref10_Lengths.f : Option (List Int) := some huff_lens
theorem mailcoachref10_Lengths.info : (Try.prog.info? 3).map (fun i => (i.zero, i.size)) = some (some (.int .i64 0), 1) := by kernel_rfl
theorem mailcoachref10_Lengths.infoS : (Try.prog.info? 3).map (·.size) = some 1 := by
  have h := mailcoachref10_Lengths.info
  cases hi : Try.prog.info? 3 with
  | none => rw [hi] at h; cases h
  | some i => rw [hi] at h; simp only [Option.map_some, Option.some.injEq, Prod.mk.injEq] at h; rw [Option.map_some, h.2]
theorem mailcoachref10_Lengths.infoZ : ((Try.prog.info? 3).bind (·.zero)).isSome = true := by
  have h := mailcoachref10_Lengths.info
  cases hi : Try.prog.info? 3 with
  | none => rw [hi] at h; cases h
  | some i => rw [hi] at h; simp only [Option.map_some, Option.some.injEq, Prod.mk.injEq] at h; rw [Option.bind_some, h.1]; rfl
set_option maxHeartbeats 1600000 in
set_option maxRecDepth 100000 in
theorem mailcoachref10_Lengths.calls (r1 : List Int) (w : World) (h : mailcoachref10_Lengths.f = some r1) :
    Calls Try.prog 54 #[] w fun e w' => ∃ v0_ : Value, e = .returned v0_ ∧ Kd.R (Kd.int .i64) 3 w' w.heap.size (fun _ => True) v0_ r1 ∧ Below w.heap.size w w' := by
  obtain rfl : huff_lens = r1 := by simpa [mailcoachref10_Lengths.f] using h
  clear h
  go_enter Try.func54, Try.ntmps54
  go_upto_region 1 with (fail)
  rename_i Q' K hK
  refine wp_region_list ?_
  refine wpList_buildFlat rfl 60 3 257 _ rfl .i64 huff_lens Try.underlying60 mailcoachref10_Lengths.infoS mailcoachref10_Lengths.infoZ huff_lens_length.symm (by decide) (by decide) (by kernel_rfl) ?_
  refine Great.wpList_runTo rfl (some 0) rfl (.slice (some ⟨w.heap.size, 0, none⟩) 257 257) _ rfl ?_
  refine hK _ _ (wp_ret (bodyPost_ret (v := .slice (some ⟨w.heap.size, 0, none⟩) 257 257) ((results_tmp Try.results54 _ _ _).trans rfl) rfl ⟨_, rfl, man_R_of_own (n := 257) ?_, below_alloc (Below.refl _ _) _⟩))
  refine ⟨by rw [nums, List.length_map, huff_lens_length], .inr ⟨w.heap.size, 257, _, rfl, Nat.le_refl _, man_alloc_block _ _ _, Nat.le_refl _, by decide, by rw [List.size_toArray, List.length_map, huff_lens_length], ?_⟩⟩
  show (huff_lens.map (Value.int .i64)).take 257 = _
  rw [List.take_of_length_le (by rw [List.length_map, huff_lens_length]; exact Nat.le_refl _)]
  rfl


end Go.Proofs.Ytmkmefdajbdceaa.PTX
