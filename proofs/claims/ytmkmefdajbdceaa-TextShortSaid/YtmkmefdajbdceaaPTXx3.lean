-- Written by wip/mprint.py (the kit's printer, and texts of this claim's own for what it does not take). Not trusted: Lean checks it.
import Derived.Test.YtmkmefdajbdceaaPTXx0
namespace Go.Proofs.Ytmkmefdajbdceaa.PTX
open Go.RowKit Go.Proofs.YtmkmefdajbdceaaW.PrintWords Go.Proofs.YtmkmefdajbdceaaW.PrintLast Go.Proofs.YtmkmefdajbdceaaW.PrintMore
attribute [local go_sem] max2_int min2_int max_two min_two max_three min_three max_four min_four   -- for this text's walks alone
set_option linter.unusedVariables false
set_option linter.unusedSimpArgs false

/-! ### huff_lengths: function 50, by hand -/
theorem man_below_setRow {w w1 : World} (h : Below w.heap.size w w1) (g : Nat) (cs : Array Value) (hg : w.heap.size ≤ g) : Below w.heap.size w (w1.setRow g cs) :=
  ⟨h.os, h.tape, h.output, by rw [setRow_size]; exact h.size, fun k hk => by rw [setRow_other _ _ _ _ (by omega)]; exact h.block k hk⟩
theorem man_alloc_block (w : World) (cs : Array Value) (t : TypeId) : (w.alloc (.cells cs t)).heap[w.heap.size]? = some (.cells cs t (0, 0)) := by unfold World.alloc; exact Array.getElem?_push_size
/-- The zero value of a type, out of the table of types. -/
theorem man_zero {P : Program} (t : TypeId) (z : Value) (h : (P.info? t).bind (·.zero) = some z) (w : World) : (zeroValue t).run P w = .ok z w := by
  cases hi : P.info? t with
  | none => simp [hi] at h
  | some i =>
    have hz : i.zero = some z := by simpa [hi] using h
    simp [zeroValue, typeInfo, hi, hz]
theorem man_results_cell {P : Program} {fn : Func} {a : Array Value} {w : World} {s : Tmp} {t : TypeId} {x : Addr} {v : Value} (hr : fn.results = #[.cell s t]) (hs : a.getD s undef = .pointer (some x)) (hl : (loadVar t x).run P w = .ok v w) : (results fn a).run P w = .ok v w := by
  unfold results
  rw [hr]
  simp only [Array.mapM_eq_mapM_toList, List.mapM_cons, List.mapM_nil, hs]
  simp [asAddr, Sem.run_bind, hl]

/-- How many bits each word has. -/
def huff_lens : List Int := [13, 23, 28, 28, 28, 28, 28, 28, 28, 24, 30, 28, 28, 30, 28, 28, 28, 28, 28, 28, 28, 28, 30, 28, 28, 28, 28, 28, 28, 28, 28, 28, 6, 10, 10, 12, 13, 6, 8, 11, 10, 10, 8, 11, 8, 6, 6, 6, 5, 5, 5, 6, 6, 6, 6, 6, 6, 6, 7, 8, 15, 6, 12, 10, 13, 6, 7, 7, 7, 7, 7, 7, 7, 7, 7, 7, 7, 7, 7, 7, 7, 7, 7, 7, 7, 7, 7, 7, 8, 7, 8, 13, 19, 13, 14, 6, 15, 5, 6, 5, 6, 5, 6, 6, 6, 5, 7, 7, 6, 6, 6, 5, 6, 7, 6, 5, 5, 6, 7, 7, 7, 7, 7, 15, 11, 14, 13, 28, 20, 22, 20, 20, 22, 22, 22, 23, 22, 23, 23, 23, 23, 23, 24, 23, 24, 24, 22, 23, 24, 23, 23, 23, 23, 21, 22, 23, 22, 23, 23, 24, 22, 21, 20, 22, 22, 23, 23, 21, 23, 22, 22, 24, 21, 22, 23, 23, 21, 21, 22, 21, 23, 22, 23, 23, 20, 22, 22, 22, 23, 22, 22, 23, 26, 26, 20, 19, 22, 23, 22, 25, 26, 26, 26, 27, 27, 26, 24, 25, 19, 21, 26, 27, 27, 26, 27, 24, 21, 21, 26, 26, 28, 27, 27, 27, 20, 24, 20, 21, 22, 21, 21, 23, 22, 22, 25, 25, 24, 24, 26, 23, 26, 27, 26, 26, 27, 27, 27, 27, 27, 28, 27, 27, 27, 27, 27, 26, 30]
theorem huff_lens_length : huff_lens.length = 257 := by decide +kernel

theorem huff_lengths.info : (Try.prog.info? 81).map (fun i => (i.zero, i.size)) = some (some (.agg (List.replicate 257 (Value.int .u8 0)).toArray), 257) := by kernel_rfl
theorem huff_lengths.info1 : (Try.prog.info? 5).map (·.size) = some 1 := by kernel_rfl
theorem huff_lens_size : (huff_lens.map (Value.int .u8)).toArray.size = 257 := by rw [List.size_toArray, List.length_map, huff_lens_length]
theorem huff_lengths.zero (w : World) : (zeroValue 81).run Try.prog w = .ok (.agg (List.replicate 257 (Value.int .u8 0)).toArray) w := by
  refine man_zero _ _ ?_ w
  have h := huff_lengths.info
  cases hi : Try.prog.info? 81 with
  | none => rw [hi] at h; cases h
  | some i => rw [hi] at h; simp only [Option.map_some, Option.some.injEq, Prod.mk.injEq] at h; exact h.1
theorem huff_lengths.size : (Try.prog.info? 81).map (·.size) = some 257 := by
  have h := huff_lengths.info
  cases hi : Try.prog.info? 81 with
  | none => rw [hi] at h; cases h
  | some i => rw [hi] at h; simp only [Option.map_some, Option.some.injEq, Prod.mk.injEq] at h; rw [Option.map_some, h.2]
theorem huff_lengths.zsize : ((Try.prog.info? 81).bind (·.zero)).map (·.cells.size) = some huff_lens.length := by
  have h := huff_lengths.info
  cases hi : Try.prog.info? 81 with
  | none => rw [hi] at h; cases h
  | some i =>
    rw [hi] at h
    simp only [Option.map_some, Option.some.injEq, Prod.mk.injEq] at h
    rw [Option.bind_some, h.1, Option.map_some, huff_lens_length]
    show some ((List.replicate 257 (Value.int .u8 0)).toArray.size) = _
    rw [List.size_toArray, List.length_replicate]
set_option maxHeartbeats 1600000 in
set_option maxRecDepth 100000 in
theorem huff_lengths.calls (w : World) :
    Calls Try.prog 50 #[] w fun e w' => e = .returned (.agg (huff_lens.map (Value.int .u8)).toArray) ∧ Below w.heap.size w w' := by
  have hz := huff_lengths.zero
  obtain ⟨Z, hZ⟩ : ∃ Z : Array Value, Z = (List.replicate 257 (Value.int .u8 0)).toArray := ⟨_, rfl⟩
  have hZs : Z.size = 257 := by rw [hZ, List.size_toArray, List.length_replicate]
  rw [← hZ] at hz
  clear hZ
  have HZs := Aside0.mk hZs
  have hb0 := man_alloc_block w Z 81
  have HB0 := Aside0.mk hb0
  clear hb0 hZs
  go_enter Try.func50, Try.ntmps50
  go_upto_region 1 with (fail)
  rename_i Q' K hK
  refine wp_region_list ?_
  refine wpList_buildFlatArr rfl 81 5 257 _ rfl .u8 huff_lens Try.underlying81 huff_lengths.info1 huff_lengths.zsize (by kernel_rfl) ?_
  refine wpList_store_row rfl 81 _ _ rfl w.heap.size (huff_lens.map (Value.int .u8)).toArray rfl rfl 81 Z HB0.out (by rw [huff_lens_size]; exact huff_lengths.size) (by rw [huff_lens_size]; exact HZs.out) (by rw [List.all_toArray]; exact List.all_eq_true.2 fun x hx => by obtain ⟨n, _, rfl⟩ := List.mem_map.1 hx; rfl) ?_
  have hb1 := setRow_heap _ w.heap.size _ (huff_lens.map (Value.int .u8)).toArray _ _ HB0.out
  have hl := run_loadVar_row (P := Try.prog) _ w.heap.size 81 81 _ (0, 0) _ hb1 Try.underlying81 rfl (by rw [huff_lens_size]; exact huff_lengths.size)
  have hbe := man_below_setRow (below_alloc (Below.refl w.heap.size w) (.cells Z 81)) w.heap.size (huff_lens.map (Value.int .u8)).toArray (Nat.le_refl _)
  exact hK _ _ (wp_ret (bodyPost_ret (v := .agg (huff_lens.map (Value.int .u8)).toArray) (man_results_cell (Try.results50) rfl hl) rfl ⟨rfl, hbe⟩))


end Go.Proofs.Ytmkmefdajbdceaa.PTX
