-- Written by wip/mprint.py (the kit's printer, and texts of this claim's own for what it does not take). Not trusted: Lean checks it.
import Derived.Test.YtmkmefdajbdceaaDoorPHQx0
namespace Go.Proofs.YtmkmefdajbdceaaDoor.PHQ
open Go.RowKit Go.Proofs.YtmkmefdajbdceaaDoorW.PrintWords Go.Proofs.YtmkmefdajbdceaaDoorW.PrintLast Go.Proofs.YtmkmefdajbdceaaDoorW.PrintMore
attribute [local go_sem] max2_int min2_int max_two min_two max_three min_three max_four min_four   -- for this text's walks alone
set_option linter.unusedVariables false
set_option linter.unusedSimpArgs false

/-! ### huff_bits: function 59, by hand -/
theorem man_info_u8 : (Tryd.prog.info? 5).map (fun i => (i.zero, i.size, i.bytes)) = some (some (.int .u8 0), 1, 1) := by kernel_rfl
/-- A number's place in a list. -/
theorem man_take_snoc (l : List Int) (k : Nat) (hk : k < l.length) : l.take (k + 1) = l.take k ++ [rd l k] := by
  rw [List.take_succ_eq_append_getElem hk]
  simp [rd, List.getD_eq_getElem?_getD, List.getElem?_eq_getElem hk]
/-- A list of bytes in memory of the call's own, with the mark behind it. -/
def Twin (w : World) (base : Nat) (v : Value) (l : List Int) : Prop :=
  ∃ g cap, v = .slice (some ⟨g, 0, none⟩) l.length cap ∧ w.ownsRow base 5 1 (.slice (some ⟨g, 0, none⟩) (l.length + 1) cap) (l.length + 1) (nums .u8 (l ++ [77]))
theorem Twin.below {w w1 : World} {base : Nat} {v : Value} {l : List Int} (h : Twin w base v l) (hb : Below w.heap.size w w1) : Twin w1 base v l := by
  obtain ⟨g, cap, hv, ho⟩ := h
  exact ⟨g, cap, hv, pw_own_below ho hb⟩
theorem Twin.reads {w : World} {base : Nat} {v : Value} {l : List Int} (h : Twin w base v l) : ∃ A c, v = .slice A l.length c ∧ Kd.C (Kd.int .u8) w A l.length l ∧ l.length + 1 ≤ c ∧ Kd.C (Kd.int .u8) w A (l ++ [77]).length (l ++ [77]) := by
  obtain ⟨g, cap, rfl, ho⟩ := h
  have hr := own_reads' ho
  have hC : Kd.C (Kd.int .u8) w (some ⟨g, 0, none⟩) (l ++ [77]).length (l ++ [77]) := by
    have h := Kd.C_of_reads (enc := Value.int .u8) (d := (0 : Int)) (h1 := fun _ => rfl) hr
    rw [List.length_append]
    exact h
  refine ⟨some ⟨g, 0, none⟩, cap, rfl, ?_, own_cap ho, hC⟩
  have h2 := Kd.C_take (m := l.length) hC (by simp)
  simpa using h2

theorem man_R_of_own {w : World} {base : Nat} {e : TypeId} {k : IntKind} {v : Value} {n : Nat} {xs : List Int} (h : w.ownsRow base e 1 v n (nums k xs)) : Kd.R (Kd.int k) e w base (fun _ => True) v xs := by
  have hl : xs.length = n := by have := h.1; simp [nums] at this; exact this
  subst hl
  exact Kd.R_of_own (enc := Value.int k) (h1 := fun _ => rfl) h (fun _ _ => trivial)

theorem man_below_setRow {w w1 : World} (h : Below w.heap.size w w1) (g : Nat) (cs : Array Value) (hg : w.heap.size ≤ g) : Below w.heap.size w (w1.setRow g cs) :=
  ⟨h.os, h.tape, h.output, by rw [setRow_size]; exact h.size, fun k hk => by rw [setRow_other _ _ _ _ (by omega)]; exact h.block k hk⟩
theorem man_alloc_block (w : World) (cs : Array Value) (t : TypeId) : (w.alloc (.cells cs t)).heap[w.heap.size]? = some (.cells cs t (0, 0)) := by unfold World.alloc; exact Array.getElem?_push_size
/-- The zero value of a type, out of the table of types. -/
theorem man_zero {P : Program} (t : TypeId) (z : Value) (h : (P.info? t).bind (·.zero) = some z) (w : World) : (zeroValue t).run P w = .ok z w := by
  cases hi : P.info? t with
  | none => simp [hi] at h
  | some i =>
    have hz : i.zero = some z := by simpa [hi] using h
    simp [zeroValue, typeInfo, hi, hz]
theorem man_results_cell {P : Program} {fn : Func} {a : Array Value} {w : World} {s : Tmp} {t : TypeId} {x : Addr} {v : Value} (hr : fn.results = #[.cell s t]) (hs : a.getD s undef = .pointer (some x)) (hl : (loadVar t x).run P w = .ok v w) : (results fn a).run P w = .ok v w := by
  unfold results
  rw [hr]
  simp only [Array.mapM_eq_mapM_toList, List.mapM_cons, List.mapM_nil, hs]
  simp [asAddr, Sem.run_bind, hl]

/-- How many bits each word has. -/
def huff_lens : List Int := [13, 23, 28, 28, 28, 28, 28, 28, 28, 24, 30, 28, 28, 30, 28, 28, 28, 28, 28, 28, 28, 28, 30, 28, 28, 28, 28, 28, 28, 28, 28, 28, 6, 10, 10, 12, 13, 6, 8, 11, 10, 10, 8, 11, 8, 6, 6, 6, 5, 5, 5, 6, 6, 6, 6, 6, 6, 6, 7, 8, 15, 6, 12, 10, 13, 6, 7, 7, 7, 7, 7, 7, 7, 7, 7, 7, 7, 7, 7, 7, 7, 7, 7, 7, 7, 7, 7, 7, 8, 7, 8, 13, 19, 13, 14, 6, 15, 5, 6, 5, 6, 5, 6, 6, 6, 5, 7, 7, 6, 6, 6, 5, 6, 7, 6, 5, 5, 6, 7, 7, 7, 7, 7, 15, 11, 14, 13, 28, 20, 22, 20, 20, 22, 22, 22, 23, 22, 23, 23, 23, 23, 23, 24, 23, 24, 24, 22, 23, 24, 23, 23, 23, 23, 21, 22, 23, 22, 23, 23, 24, 22, 21, 20, 22, 22, 23, 23, 21, 23, 22, 22, 24, 21, 22, 23, 23, 21, 21, 22, 21, 23, 22, 23, 23, 20, 22, 22, 22, 23, 22, 22, 23, 26, 26, 20, 19, 22, 23, 22, 25, 26, 26, 26, 27, 27, 26, 24, 25, 19, 21, 26, 27, 27, 26, 27, 24, 21, 21, 26, 26, 28, 27, 27, 27, 20, 24, 20, 21, 22, 21, 21, 23, 22, 22, 25, 25, 24, 24, 26, 23, 26, 27, 26, 26, 27, 27, 27, 27, 27, 28, 27, 27, 27, 27, 27, 26, 30]
theorem huff_lens_length : huff_lens.length = 257 := by decide +kernel

theorem huff_lengths.info : (Tryd.prog.info? 66).map (fun i => (i.zero, i.size)) = some (some (.agg (List.replicate 257 (Value.int .u8 0)).toArray), 257) := by kernel_rfl
theorem huff_lengths.info1 : (Tryd.prog.info? 5).map (·.size) = some 1 := by kernel_rfl
theorem huff_lens_size : (huff_lens.map (Value.int .u8)).toArray.size = 257 := by rw [List.size_toArray, List.length_map, huff_lens_length]
theorem huff_lengths.zero (w : World) : (zeroValue 66).run Tryd.prog w = .ok (.agg (List.replicate 257 (Value.int .u8 0)).toArray) w := by
  refine man_zero _ _ ?_ w
  have h := huff_lengths.info
  cases hi : Tryd.prog.info? 66 with
  | none => rw [hi] at h; cases h
  | some i => rw [hi] at h; simp only [Option.map_some, Option.some.injEq, Prod.mk.injEq] at h; exact h.1
theorem huff_lengths.size : (Tryd.prog.info? 66).map (·.size) = some 257 := by
  have h := huff_lengths.info
  cases hi : Tryd.prog.info? 66 with
  | none => rw [hi] at h; cases h
  | some i => rw [hi] at h; simp only [Option.map_some, Option.some.injEq, Prod.mk.injEq] at h; rw [Option.map_some, h.2]
theorem huff_lengths.zsize : ((Tryd.prog.info? 66).bind (·.zero)).map (·.cells.size) = some huff_lens.length := by
  have h := huff_lengths.info
  cases hi : Tryd.prog.info? 66 with
  | none => rw [hi] at h; cases h
  | some i =>
    rw [hi] at h
    simp only [Option.map_some, Option.some.injEq, Prod.mk.injEq] at h
    rw [Option.bind_some, h.1, Option.map_some, huff_lens_length]
    show some ((List.replicate 257 (Value.int .u8 0)).toArray.size) = _
    rw [List.size_toArray, List.length_replicate]
set_option maxHeartbeats 1600000 in
set_option maxRecDepth 100000 in
theorem huff_lengths.calls (w : World) :
    Calls Tryd.prog 62 #[] w fun e w' => e = .returned (.agg (huff_lens.map (Value.int .u8)).toArray) ∧ Below w.heap.size w w' := by
  have hz := huff_lengths.zero
  obtain ⟨Z, hZ⟩ : ∃ Z : Array Value, Z = (List.replicate 257 (Value.int .u8 0)).toArray := ⟨_, rfl⟩
  have hZs : Z.size = 257 := by rw [hZ, List.size_toArray, List.length_replicate]
  rw [← hZ] at hz
  clear hZ
  have HZs := Aside0.mk hZs
  have hb0 := man_alloc_block w Z 66
  have HB0 := Aside0.mk hb0
  clear hb0 hZs
  go_enter Tryd.func62, Tryd.ntmps62
  go_upto_region 1 with (fail)
  rename_i Q' K hK
  refine wp_region_list ?_
  refine wpList_buildFlatArr rfl 66 5 257 _ rfl .u8 huff_lens Tryd.underlying66 huff_lengths.info1 huff_lengths.zsize (by kernel_rfl) ?_
  refine wpList_store_row rfl 66 _ _ rfl w.heap.size (huff_lens.map (Value.int .u8)).toArray rfl rfl 66 Z HB0.out (by rw [huff_lens_size]; exact huff_lengths.size) (by rw [huff_lens_size]; exact HZs.out) (by rw [List.all_toArray]; exact List.all_eq_true.2 fun x hx => by obtain ⟨n, _, rfl⟩ := List.mem_map.1 hx; rfl) ?_
  have hb1 := setRow_heap _ w.heap.size _ (huff_lens.map (Value.int .u8)).toArray _ _ HB0.out
  have hl := run_loadVar_row (P := Tryd.prog) _ w.heap.size 66 66 _ (0, 0) _ hb1 Tryd.underlying66 rfl (by rw [huff_lens_size]; exact huff_lengths.size)
  have hbe := man_below_setRow (below_alloc (Below.refl w.heap.size w) (.cells Z 66)) w.heap.size (huff_lens.map (Value.int .u8)).toArray (Nat.le_refl _)
  exact hK _ _ (wp_ret (bodyPost_ret (v := .agg (huff_lens.map (Value.int .u8)).toArray) (man_results_cell (Tryd.results62) rfl hl) rfl ⟨rfl, hbe⟩))

/-- The words of the code: bits, how many. -/
def huff_words : List (Int × Int) := [(8184, 13), (8388568, 23), (268435426, 28), (268435427, 28), (268435428, 28), (268435429, 28), (268435430, 28), (268435431, 28), (268435432, 28), (16777194, 24), (1073741820, 30), (268435433, 28), (268435434, 28), (1073741821, 30), (268435435, 28), (268435436, 28), (268435437, 28), (268435438, 28), (268435439, 28), (268435440, 28), (268435441, 28), (268435442, 28), (1073741822, 30), (268435443, 28), (268435444, 28), (268435445, 28), (268435446, 28), (268435447, 28), (268435448, 28), (268435449, 28), (268435450, 28), (268435451, 28), (20, 6), (1016, 10), (1017, 10), (4090, 12), (8185, 13), (21, 6), (248, 8), (2042, 11), (1018, 10), (1019, 10), (249, 8), (2043, 11), (250, 8), (22, 6), (23, 6), (24, 6), (0, 5), (1, 5), (2, 5), (25, 6), (26, 6), (27, 6), (28, 6), (29, 6), (30, 6), (31, 6), (92, 7), (251, 8), (32764, 15), (32, 6), (4091, 12), (1020, 10), (8186, 13), (33, 6), (93, 7), (94, 7), (95, 7), (96, 7), (97, 7), (98, 7), (99, 7), (100, 7), (101, 7), (102, 7), (103, 7), (104, 7), (105, 7), (106, 7), (107, 7), (108, 7), (109, 7), (110, 7), (111, 7), (112, 7), (113, 7), (114, 7), (252, 8), (115, 7), (253, 8), (8187, 13), (524272, 19), (8188, 13), (16380, 14), (34, 6), (32765, 15), (3, 5), (35, 6), (4, 5), (36, 6), (5, 5), (37, 6), (38, 6), (39, 6), (6, 5), (116, 7), (117, 7), (40, 6), (41, 6), (42, 6), (7, 5), (43, 6), (118, 7), (44, 6), (8, 5), (9, 5), (45, 6), (119, 7), (120, 7), (121, 7), (122, 7), (123, 7), (32766, 15), (2044, 11), (16381, 14), (8189, 13), (268435452, 28), (1048550, 20), (4194258, 22), (1048551, 20), (1048552, 20), (4194259, 22), (4194260, 22), (4194261, 22), (8388569, 23), (4194262, 22), (8388570, 23), (8388571, 23), (8388572, 23), (8388573, 23), (8388574, 23), (16777195, 24), (8388575, 23), (16777196, 24), (16777197, 24), (4194263, 22), (8388576, 23), (16777198, 24), (8388577, 23), (8388578, 23), (8388579, 23), (8388580, 23), (2097116, 21), (4194264, 22), (8388581, 23), (4194265, 22), (8388582, 23), (8388583, 23), (16777199, 24), (4194266, 22), (2097117, 21), (1048553, 20), (4194267, 22), (4194268, 22), (8388584, 23), (8388585, 23), (2097118, 21), (8388586, 23), (4194269, 22), (4194270, 22), (16777200, 24), (2097119, 21), (4194271, 22), (8388587, 23), (8388588, 23), (2097120, 21), (2097121, 21), (4194272, 22), (2097122, 21), (8388589, 23), (4194273, 22), (8388590, 23), (8388591, 23), (1048554, 20), (4194274, 22), (4194275, 22), (4194276, 22), (8388592, 23), (4194277, 22), (4194278, 22), (8388593, 23), (67108832, 26), (67108833, 26), (1048555, 20), (524273, 19), (4194279, 22), (8388594, 23), (4194280, 22), (33554412, 25), (67108834, 26), (67108835, 26), (67108836, 26), (134217694, 27), (134217695, 27), (67108837, 26), (16777201, 24), (33554413, 25), (524274, 19), (2097123, 21), (67108838, 26), (134217696, 27), (134217697, 27), (67108839, 26), (134217698, 27), (16777202, 24), (2097124, 21), (2097125, 21), (67108840, 26), (67108841, 26), (268435453, 28), (134217699, 27), (134217700, 27), (134217701, 27), (1048556, 20), (16777203, 24), (1048557, 20), (2097126, 21), (4194281, 22), (2097127, 21), (2097128, 21), (8388595, 23), (4194282, 22), (4194283, 22), (33554414, 25), (33554415, 25), (16777204, 24), (16777205, 24), (67108842, 26), (8388596, 23), (67108843, 26), (134217702, 27), (67108844, 26), (67108845, 26), (134217703, 27), (134217704, 27), (134217705, 27), (134217706, 27), (134217707, 27), (268435454, 28), (134217708, 27), (134217709, 27), (134217710, 27), (134217711, 27), (134217712, 27), (67108846, 26), (1073741823, 30)]
def huff_flat : List (Int × Int) → List Value
  | [] => []
  | p :: r => .int .u32 p.1 :: .int .u8 p.2 :: huff_flat r
theorem huff_flat_length : ∀ l, (huff_flat l).length = 2 * l.length
  | [] => rfl
  | p :: r => by simp [huff_flat, huff_flat_length r]; omega
theorem huff_flat_set : ∀ (l : List (Int × Int)) (i : Nat) (p : Int × Int), huff_flat (l.set i p) = ((huff_flat l).set (2 * i) (.int .u32 p.1)).set (2 * i + 1) (.int .u8 p.2)
  | [], _, _ => rfl
  | q :: r, 0, p => rfl
  | q :: r, i + 1, p => by
    rw [show 2 * (i + 1) = (2 * i + 1) + 1 by omega]
    simp only [List.set_cons_succ, huff_flat, huff_flat_set r i p]
/-- One round over all words: those of n bits. -/
def huff_inner (n : Int) : List Int → Nat → Int → List (Int × Int) → Int × List (Int × Int)
  | [], _, x, cs => (x, cs)
  | m :: ms, i, x, cs => if m = n then huff_inner n ms (i + 1) ((x + 1) % 4294967296) (cs.set i (x, n)) else huff_inner n ms (i + 1) x cs
def huff_outer : Nat → Int → Int → List (Int × Int) → List (Int × Int)
  | 0, _, _, cs => cs
  | k + 1, n, x, cs => huff_outer k (n + 1) (huff_inner n huff_lens 0 (x * 2 % 4294967296) cs).1 (huff_inner n huff_lens 0 (x * 2 % 4294967296) cs).2
set_option maxRecDepth 100000 in
theorem huff_words_made : huff_outer 30 1 0 (List.replicate 257 (0, 0)) = huff_words := by decide +kernel
theorem huff_words_length : huff_words.length = 257 := by decide +kernel

theorem huff_code.info : (Tryd.prog.info? 146).map (fun i => (i.zero, i.size)) = some (some (.agg (huff_flat (List.replicate 257 (0, 0))).toArray), 514) := by kernel_rfl
theorem huff_code.zero (w : World) : (zeroValue 146).run Tryd.prog w = .ok (.agg (huff_flat (List.replicate 257 (0, 0))).toArray) w := by
  refine man_zero _ _ ?_ w
  have h := huff_code.info
  cases hi : Tryd.prog.info? 146 with
  | none => rw [hi] at h; cases h
  | some i => rw [hi] at h; simp only [Option.map_some, Option.some.injEq, Prod.mk.injEq] at h; exact h.1
theorem huff_code.size : (Tryd.prog.info? 146).map (·.size) = some 514 := by
  have h := huff_code.info
  cases hi : Tryd.prog.info? 146 with
  | none => rw [hi] at h; cases h
  | some i => rw [hi] at h; simp only [Option.map_some, Option.some.injEq, Prod.mk.injEq] at h; rw [Option.map_some, h.2]
theorem man_setCells2 (w : World) (g o : Nat) (t : TypeId) (cs : List Value) (a b : Value) (hg : w.heap[g]? = some (.cells cs.toArray t (0, 0))) : (w.setCells g o [a, b]).heap[g]? = some (.cells ((cs.set o a).set (o + 1) b).toArray t (0, 0)) := by
  unfold World.setCells World.setCells World.setCells
  rw [setCell_eq_setRow _ _ _ _ _ _ _ hg]
  have h1 := setRow_heap w g _ (cs.toArray.setIfInBounds o a) _ _ hg
  rw [setCell_eq_setRow _ _ _ _ _ _ _ h1]
  have h2 := setRow_heap _ g _ ((cs.toArray.setIfInBounds o a).setIfInBounds (o + 1) b) _ _ h1
  rw [h2]
  simp
theorem man_setCells2_other (w : World) (g o : Nat) (t : TypeId) (cs : List Value) (a b : Value) (hg : w.heap[g]? = some (.cells cs.toArray t (0, 0))) (k : Nat) (hk : k ≠ g) : (w.setCells g o [a, b]).heap[k]? = w.heap[k]? := by
  unfold World.setCells World.setCells World.setCells
  rw [setCell_eq_setRow _ _ _ _ _ _ _ hg]
  have h1 := setRow_heap w g _ (cs.toArray.setIfInBounds o a) _ _ hg
  rw [setCell_eq_setRow _ _ _ _ _ _ _ h1, setRow_other _ _ _ _ hk, setRow_other _ _ _ _ hk]
theorem man_setCells2_below {w w1 : World} (h : Below w.heap.size w w1) (g o : Nat) (t : TypeId) (cs : List Value) (a b : Value) (hg : w1.heap[g]? = some (.cells cs.toArray t (0, 0))) (hb : w.heap.size ≤ g) : Below w.heap.size w (w1.setCells g o [a, b]) := by
  have h1 := setRow_heap w1 g _ (cs.toArray.setIfInBounds o a) _ _ hg
  unfold World.setCells World.setCells World.setCells
  rw [setCell_eq_setRow _ _ _ _ _ _ _ hg, setCell_eq_setRow _ _ _ _ _ _ _ h1]
  exact man_below_setRow (man_below_setRow h g _ hb) g _ hb
theorem man_there {w : World} {g : Nat} {t : TypeId} {cs : Array Value} (hg : w.heap[g]? = some (.cells cs t (0, 0))) (o n : Nat) (h : o + n ≤ cs.size) : w.there g o n := by
  intro j hj
  refine ⟨?_, by simp [World.frozen?, hg]⟩
  rw [cell_of_row w g _ cs t (0, 0) hg, Array.getElem?_eq_getElem (by omega)]
  rfl
theorem huff_code.index (L : Array Value) (hL : L = (huff_lens.map (Value.int .u8)).toArray) (i : Nat) (hi : i < 257) (w : World) : (Instr.index 66 (.agg L) (.int .i64 (i : Int))).run Tryd.prog w = .ok (.int .u8 (rd huff_lens i)) w := by
  have hs : ∀ w, (sizeOf 5).run Tryd.prog w = .ok 1 w := by
    intro w
    obtain ⟨i0, hinf, _, h2, _⟩ := info_parts man_info_u8
    simp [sizeOf, typeInfo, hinf, h2]
  have ha : ∀ w, (isAgg 5).run Tryd.prog w = .ok false w := by
    intro w
    unfold isAgg
    rw [Sem.run_bind, run_underlying Tryd.underlying5 w]
    rfl
  have hc : L[i]? = some (.int .u8 (rd huff_lens i)) := by
    rw [hL, List.getElem?_toArray, List.getElem?_map, List.getElem?_eq_getElem (by rw [huff_lens_length]; exact hi)]
    simp [rd, List.getD_eq_getElem?_getD, List.getElem?_eq_getElem (show i < huff_lens.length by rw [huff_lens_length]; exact hi)]
  simp [Instr.index, asIntOf, run_underlying Tryd.underlying66, part, Sem.run_bind, hs, ha, hc, hi]
theorem huff_flat_at : ∀ (l : List (Int × Int)) (i : Nat) (hi : i < l.length), ((huff_flat l).drop (i * 2)).take 2 = [.int .u32 (l.getD i (0, 0)).1, .int .u8 (l.getD i (0, 0)).2]
  | p :: r, 0, _ => by simp [huff_flat]
  | p :: r, i + 1, hi => by
    have ih := huff_flat_at r i (by simpa using hi)
    rw [show (i + 1) * 2 = i * 2 + 1 + 1 by omega]
    simpa [huff_flat] using ih

theorem man_two_one (k k' : IntKind) (a b : Int) : (#[Value.int k a, Value.int k' b] : Array Value).all (·.oneCell') = true := by simp [Value.oneCell']
theorem huff_code.word : (Tryd.prog.info? 145).map (·.size) = some 2 := by kernel_rfl
theorem huff_outer_step (k : Nat) (hk : k ≠ 0) (n x : Int) (cs : List (Int × Int)) : huff_outer k n x cs = huff_outer (k - 1) (n + 1) (huff_inner n huff_lens 0 (x * 2 % 4294967296) cs).1 (huff_inner n huff_lens 0 (x * 2 % 4294967296) cs).2 := by
  cases k with
  | zero => exact absurd rfl hk
  | succ k => rfl
theorem huff_flat_one : ∀ l, (huff_flat l).toArray.all (·.oneCell') = true := by
  intro l
  rw [List.all_toArray]
  induction l with
  | nil => rfl
  | cons p r ih => simp only [huff_flat, List.all_cons, ih]; rfl
set_option maxHeartbeats 3200000 in
set_option maxRecDepth 100000 in
theorem huff_code.calls (w : World) :
    Calls Tryd.prog 89 #[] w fun e w' => e = .returned (.agg (huff_flat huff_words).toArray) ∧ Below w.heap.size w w' := by
  have hz := huff_code.zero
  have hz8 := huff_lengths.zero
  obtain ⟨Z, hZ⟩ : ∃ Z : List Value, Z = huff_flat (List.replicate 257 (0, 0)) := ⟨_, rfl⟩
  obtain ⟨Z8, hZ8⟩ : ∃ Z : Array Value, Z = (List.replicate 257 (Value.int .u8 0)).toArray := ⟨_, rfl⟩
  have hZ8s : Z8.size = 257 := by rw [hZ8, List.size_toArray, List.length_replicate]
  rw [← hZ] at hz
  rw [← hZ8] at hz8
  have HZ := Aside0.mk hZ
  have HZ8s := Aside0.mk hZ8s
  obtain ⟨L, hL⟩ : ∃ L, L = (huff_lens.map (Value.int .u8)).toArray := ⟨_, rfl⟩
  have hcall : ∀ w, Calls Tryd.prog 62 #[] w fun e w' => e = .returned (.agg L) ∧ Below w.heap.size w w' := by rw [hL]; exact huff_lengths.calls
  have HIX := Aside0.mk (huff_code.index L hL)
  have HLs := Aside0.mk (show L.size = 257 by rw [hL]; exact huff_lens_size)
  have HCALL := Aside0.mk hcall
  have HL1 := Aside0.mk (show L.all (·.oneCell') = true by rw [hL, List.all_toArray]; exact List.all_eq_true.2 fun x hx => by obtain ⟨n, _, rfl⟩ := List.mem_map.1 hx; rfl)
  clear hZ hZ8 hL hcall hZ8s
  go_enter Tryd.func89, Tryd.ntmps89
  go_upto_region 2 with (fail)
  go_wp2_with (first | (go_at_call 62; refine (HCALL.out _).mono ?_; rintro e w1 ⟨rfl, hb⟩; have B1 := Aside0.mk (below_step (below_alloc (Below.refl w.heap.size w) _) hb); have G1 := Aside0.mk ((hb.block w.heap.size (by rw [World.alloc]; simp)).trans (man_alloc_block _ _ _)); clear hb) | (refine wpList_store_row rfl 66 _ _ rfl w1.heap.size L rfl rfl 66 Z8 (man_alloc_block _ _ _) (by rw [HLs.out]; exact huff_lengths.size) (by rw [HLs.out]; exact HZ8s.out) HL1.out ?_))
  obtain ⟨B8, hB8⟩ : ∃ n, n = w1.heap.size := ⟨_, rfl⟩
  have hlt : w.heap.size < B8 := by rw [hB8]; have := (Array.getElem?_eq_some_iff.1 G1.out).1; exact this
  have G2 : ((w1.alloc (Obj.cells Z8 66)).setRow B8 L).heap[w.heap.size]? = some (.cells Z.toArray 146 (0, 0)) := by
    rw [setRow_other _ _ _ _ (by omega)]
    exact (heap_alloc_old _ _ (by rw [← hB8]; exact hlt)).trans G1.out
  have G8 : ((w1.alloc (Obj.cells Z8 66)).setRow B8 L).heap[B8]? = some (.cells L 66 (0, 0)) := by
    have := man_alloc_block w1 Z8 66
    rw [← hB8] at this
    exact setRow_heap _ _ _ _ _ _ this
  have B2 : Below w.heap.size w ((w1.alloc (Obj.cells Z8 66)).setRow B8 L) := man_below_setRow (below_alloc B1.out _) _ _ (by omega)
  rw [← hB8]
  rw [HZ.out] at G2
  have HG2 := Aside0.mk G2
  have HG8 := Aside0.mk G8
  have HB2 := Aside0.mk B2
  clear G2 G8 B2 G1 B1 hB8
  generalize (w1.alloc (Obj.cells Z8 66)).setRow B8 L = w2 at HG2 HG8 HB2 ⊢
  clear hz hz8
  go_loopw [1, 3] (fun v1 v3 wr => ∃ (k : Nat) (x : Int) (cs : List (Int × Int)), k ≤ 30 ∧ v1 = .int .u32 x ∧ v3 = .int .u8 (31 - (k : Int)) ∧ Aside0 (cs.length = 257) ∧ Aside0 (huff_outer k (31 - (k : Int)) x cs = huff_words) ∧ Aside0 (wr.heap[w.heap.size]? = some (.cells (huff_flat cs).toArray 146 (0, 0))) ∧ Aside0 (wr.heap[B8]? = some (.cells L 66 (0, 0))) ∧ Aside0 (Below w.heap.size w wr)) (fun _ v3 _ => 31 - (intOf v3).toNat)
  case atStart => exact ⟨30, 0, List.replicate 257 (0, 0), by omega, rfl, rfl, ⟨by simp⟩, ⟨huff_words_made⟩, HG2, HG8, HB2⟩
  case round =>
    obtain ⟨k, x, cs, hk, rfl, rfl, HCS, HO, HG, HG8, HB⟩ := hrel
    by_cases hk0 : k = 0
    · subst hk0
      have hcs : cs = huff_words := HO.out
      subst hcs
      clear HO
      obtain ⟨F, hF⟩ : ∃ F, F = (huff_flat huff_words).toArray := ⟨_, rfl⟩
      have hG := HG.out
      rw [← hF] at hG
      have HF := Aside0.mk hF
      have HFs := Aside0.mk (show F.size = 514 by rw [hF, List.size_toArray, huff_flat_length, huff_words_length])
      have HF1 := Aside0.mk (show F.all (·.oneCell') = true by rw [hF]; exact huff_flat_one huff_words)
      have HG := Aside0.mk hG
      clear hF hG
      go_upto_region 14 with (fail)
      rename_i Q' K hK
      refine wp_region_list ?_
      refine wpList_load_row rfl 146 _ rfl w.heap.size rfl 146 F (0, 0) _ HG.out Tryd.underlying146 rfl (by rw [HFs.out]; exact huff_code.size) ?_
      refine wpList_store_row rfl 146 _ _ rfl w.heap.size F rfl rfl 146 F HG.out (by rw [HFs.out]; exact huff_code.size) rfl HF1.out ?_
      have hb1 := setRow_heap _ w.heap.size _ F _ _ HG.out
      have hl := run_loadVar_row (P := Tryd.prog) _ w.heap.size 146 146 _ (0, 0) _ hb1 Tryd.underlying146 rfl (by rw [HFs.out]; exact huff_code.size)
      have hbe := man_below_setRow HB.out w.heap.size F (Nat.le_refl _)
      exact hK _ _ (wp_ret (bodyPost_ret (v := .agg F) (man_results_cell (Tryd.results89) rfl hl) rfl ⟨by rw [HF.out], hbe⟩))
    · go_upto_region 7 with (fail)
      rename_i K hK
      obtain ⟨X, CS, hin⟩ : ∃ X CS, huff_inner (31 - (k : Int)) huff_lens 0 (x * 2 % 4294967296) cs = (X, CS) := ⟨_, _, rfl⟩
      have HIN := Aside0.mk hin
      clear hin
      refine wp_region_list ?_
      refine wpList_load_row rfl 66 _ rfl B8 rfl 66 L (0, 0) _ HG8.out Tryd.underlying66 rfl (by rw [HLs.out]; exact huff_lengths.size) ?_
      go_wp2_with (fail)
      go_loopw [1, 14] (fun v1 v14 wr => ∃ (i : Nat) (x' : Int) (cs' : List (Int × Int)), i ≤ 257 ∧ v1 = .int .u32 x' ∧ v14 = .int .i64 i ∧ Aside0 (cs'.length = 257) ∧ Aside0 (huff_inner (31 - (k : Int)) (huff_lens.drop i) i x' cs' = (X, CS)) ∧ Aside0 (wr.heap[w.heap.size]? = some (.cells (huff_flat cs').toArray 146 (0, 0))) ∧ Aside0 (wr.heap[B8]? = some (.cells L 66 (0, 0))) ∧ Aside0 (Below w.heap.size w wr)) (fun _ v14 _ => 257 - (intOf v14).toNat)
      case atStart => exact ⟨0, _, cs, by omega, rfl, rfl, HCS, ⟨HIN.out⟩, HG, HG8, HB⟩
      case round =>
        obtain ⟨i, x', cs', hi, rfl, rfl, HCS, HI, HG, HG8, HB⟩ := hrel
        by_cases hi2 : i < 257
        · have hix := HIX.out i hi2
          have hdrop : huff_lens.drop i = rd huff_lens i :: huff_lens.drop (i + 1) := by
            rw [List.drop_eq_getElem_cons (by rw [huff_lens_length]; exact hi2)]
            simp [rd, List.getD_eq_getElem?_getD, List.getElem?_eq_getElem (show i < huff_lens.length by rw [huff_lens_length]; exact hi2)]
          have hI := HI.out
          rw [hdrop] at hI
          have HI2 := Aside0.mk hI
          clear hI hdrop HI
          obtain ⟨m, hm⟩ : ∃ m, rd huff_lens i = m := ⟨_, rfl⟩
          rw [hm] at hix HI2
          clear hm
          by_cases hmk : m = 31 - (k : Int)
          · have HI3 : huff_inner (31 - (k : Int)) (huff_lens.drop (i + 1)) (i + 1) ((x' + 1) % 4294967296) (cs'.set i (x', 31 - (k : Int))) = (X, CS) := by have := HI2.out; rwa [huff_inner, if_pos hmk] at this
            have HI4 := Aside0.mk HI3
            clear HI3 HI2
            subst hmk
            have hsz : i * 2 + 2 ≤ (huff_flat cs').toArray.size := by rw [List.size_toArray, huff_flat_length, HCS.out]; omega
            have HSZ := Aside0.mk hsz
            clear hsz
            go_wp2_with (refine wpList_store_mid rfl 145 _ _ rfl w.heap.size (i * 2) #[.int .u32 x', .int .u8 (31 - (k : Int))] rfl rfl (man_there HG.out (i * 2) 2 HSZ.out) huff_code.word (man_two_one _ _ _ _) ?_)
            go_roundw
            case rel => exact ⟨i + 1, _, cs'.set i (x', 31 - (k : Int)), by omega, rfl, by go_num, ⟨by rw [List.length_set]; exact HCS.out⟩, HI4, ⟨by rw [huff_flat_set, Nat.mul_comm]; exact man_setCells2 _ _ _ _ _ _ _ HG.out⟩, ⟨(man_setCells2_other _ _ _ _ _ _ _ HG.out _ (by omega)).trans HG8.out⟩, ⟨man_setCells2_below HB.out _ _ _ _ _ _ HG.out (Nat.le_refl _)⟩⟩
            case measure => simp [intOf]; omega
          · have HI3 : huff_inner (31 - (k : Int)) (huff_lens.drop (i + 1)) (i + 1) x' cs' = (X, CS) := by have := HI2.out; rwa [huff_inner, if_neg hmk] at this
            have HI4 := Aside0.mk HI3
            clear HI3
            have hmk0 : (m == 31 - (k : Int)) = false := beq_eq_false_iff_ne.mpr hmk
            go_wp2_with (fail)
            go_roundw
            case rel => exact ⟨i + 1, x', cs', by omega, rfl, by go_num, HCS, HI4, HG, HG8, HB⟩
            case measure => simp [intOf]; omega
        · obtain rfl : i = 257 := by omega
          have hI := HI.out
          rw [List.drop_eq_nil_of_le (by rw [huff_lens_length]; exact Nat.le_refl _)] at hI
          obtain ⟨rfl, rfl⟩ : x' = X ∧ cs' = CS := by simpa [huff_inner] using hI
          clear hI
          go_wp2_with (fail)
          go_roundw
          case rel => exact ⟨k - 1, x', cs', by omega, rfl, congrArg (Value.int .u8) (by omega), HCS, ⟨by have h1 := HO.out; rw [huff_outer_step k hk0, HIN.out] at h1; rw [show (31 : Int) - ((k - 1 : Nat) : Int) = 31 - (k : Int) + 1 by omega]; exact h1⟩, HG, HG8, HB⟩
          case measure => simp [intOf]; omega

theorem huff_law : Maps.Keyed Tryd.prog 145 :=
  Maps.Keyed.of_law (deep_law_gate (by kernel_rfl) (of_decide_eq_true (by kernel_rfl)) (of_decide_eq_true (by kernel_rfl)) (by kernel_rfl) (by rw [Tryd.underlying145]))
theorem huff_keyOf (x n : Int) (hx : (Lit.int .u32 x).wf = true) (hn : (Lit.int .u8 n).wf = true) : (keyOf Tryd.prog 145 (.agg #[.int .u32 x, .int .u8 n])).isSome = true := by
  have h1 : Tryd.prog.keyType 145 = true := by kernel_rfl
  have h2 : Tryd.prog.cellsOf 145 = 2 := by kernel_rfl
  have h3 : Tryd.prog.cellsOf 65 = 1 := by kernel_rfl
  have h4 : Tryd.prog.cellsOf 5 = 1 := by kernel_rfl
  have h5 : (Value.agg #[.int .u32 x, .int .u8 n]).formed Tryd.prog 145 = true := by simp [Value.formed, Tryd.underlying145, h2]
  obtain ⟨d, hd⟩ : ∃ d, Tryd.prog.types.size + 1 = d + 2 := ⟨Tryd.prog.types.size - 1, by have : 1 ≤ Tryd.prog.types.size := of_decide_eq_true (by kernel_rfl); omega⟩
  unfold keyOf
  rw [Tryd.underlying145]
  simp only [h1, h5, Bool.and_self, if_true, Value.cells]
  rw [hd]
  simp [Program.keyLits, Tryd.underlying145, Tryd.underlying65, Tryd.underlying5, h2, h3, h4, hx, hn]
/-- What a word reads as, as a key. -/
noncomputable def huff_kl (p : Int × Int) : Lit := (keyOf Tryd.prog 145 (.agg #[.int .u32 p.1, .int .u8 p.2])).getD (.bool true)
def huff_wf (p : Int × Int) : Prop := (Lit.int .u32 p.1).wf = true ∧ (Lit.int .u8 p.2).wf = true
theorem huff_kl_of (p : Int × Int) (h : huff_wf p) : keyOf Tryd.prog 145 (.agg #[.int .u32 p.1, .int .u8 p.2]) = some (huff_kl p) := by
  have := huff_keyOf p.1 p.2 h.1 h.2
  unfold huff_kl
  cases hk : keyOf Tryd.prog 145 (.agg #[.int .u32 p.1, .int .u8 p.2]) with
  | none => rw [hk] at this; cases this
  | some l => rfl
theorem huff_kl_inj (p q : Int × Int) (hp : huff_wf p) (hq : huff_wf q) (h : huff_kl p = huff_kl q) : p = q := by
  have h1 := huff_kl_of p hp
  have h2 := huff_kl_of q hq
  rw [← h] at h2
  have := huff_law.inj h1 h2
  simp only [Value.agg.injEq, Array.mk.injEq, List.cons.injEq, Value.int.injEq, true_and, and_true] at this
  exact Prod.ext this.1 this.2
/-- The map of the first k words. -/
noncomputable def huff_D : Nat → DataW Unit
  | 0 => .map []
  | k + 1 => (huff_D k).put (huff_kl (huff_words.getD k (0, 0))) (.lit (.int .i64 k))
/-- At which place a word stands among the first k. -/
def huff_find : Nat → Int × Int → Option Nat
  | 0, _ => none
  | k + 1, p => if huff_words.getD k (0, 0) = p then some k else huff_find k p
theorem huff_D_map : ∀ k, Maps.IsMap (huff_D k)
  | 0 => Maps.isMap_empty
  | k + 1 => (huff_D_map k).put _ _
theorem huff_words_wf : ∀ p ∈ huff_words, huff_wf p := by
  have h : huff_words.all (fun p => (Lit.int .u32 p.1).wf && (Lit.int .u8 p.2).wf) = true := by decide +kernel
  intro p hp
  have := List.all_eq_true.1 h p hp
  simpa [huff_wf] using this
theorem huff_word_wf (k : Nat) : huff_wf (huff_words.getD k (0, 0)) := by
  by_cases hk : k < huff_words.length
  · have : huff_words.getD k (0, 0) = huff_words[k] := by simp [List.getD_eq_getElem?_getD, List.getElem?_eq_getElem hk]
    rw [this]
    exact huff_words_wf _ (List.getElem_mem hk)
  · have : huff_words.getD k (0, 0) = (0, 0) := by rw [List.getD_eq_getElem?_getD, List.getElem?_eq_none (by omega)]; rfl
    rw [this]
    exact ⟨by decide, by decide⟩
set_option maxRecDepth 100000 in
theorem huff_D_at (p : Int × Int) (hp : huff_wf p) : ∀ k, Maps.has (huff_D k) (huff_kl p) = (huff_find k p).isSome ∧ (huff_D k).atKey (huff_kl p) (.lit (.int .i64 0)) = .lit (.int .i64 ((huff_find k p).getD 0 : Nat))
  | 0 => ⟨rfl, rfl⟩
  | k + 1 => by
    have ih := huff_D_at p hp k
    have hw := huff_word_wf k
    unfold huff_D huff_find
    by_cases h : huff_words.getD k (0, 0) = p
    · rw [if_pos h, h]
      have hkey := huff_law.key (huff_kl_of p hp)
      exact ⟨Maps.has_put_same (huff_D_map k) hkey _, Maps.atKey_put_same (huff_D_map k) hkey _ _⟩
    · rw [if_neg h]
      have hne : huff_kl p ≠ huff_kl (huff_words.getD k (0, 0)) := fun e => h (huff_kl_inj _ _ hp hw e).symm
      rw [Maps.has_put_other hne, Maps.atKey_put_other hne]
      exact ih

/-- The lowest j bits of a byte, the highest one first. -/
def huff_low (c : Int) : Nat → List Int
  | 0 => []
  | j + 1 => c % 4294967296 / 2 ^ j % 2 :: huff_low c j
def huff_bits8 (l : List Int) : List Int := l.flatMap fun c => huff_low c 8
/-- One bit: the word that is begun (its bits, how many), were all its bits ones, the text so far. -/
def huff_step (b x n : Int) (ones : Bool) (out : List Int) : Option (Int × Int × Bool × List Int) :=
  match huff_find 257 (x * 2 % 4294967296 + b, (n + 1) % 256) with
  | none => some (x * 2 % 4294967296 + b, (n + 1) % 256, ones && b == 1, out)
  | some i => if i = 256 then none else some (0, 0, true, out ++ [(i : Int) % 256])
def huff_go : List Int → Int → Int → Bool → List Int → Option (Int × Int × Bool × List Int)
  | [], x, n, ones, out => some (x, n, ones, out)
  | b :: bs, x, n, ones, out => (huff_step b x n ones out).bind fun r => huff_go bs r.1 r.2.1 r.2.2.1 r.2.2.2
def huff_Get.f (l : List Int) : Option (ByteArray × Int) :=
  if (1048576 : Int) < l.length then some (⟨#[]⟩, 3)
  else match huff_go (huff_bits8 l) 0 0 true [] with
    | none => some (⟨#[]⟩, 5)
    | some (_, n, ones, out) => if 8 ≤ n ∨ ones = false then some (⟨#[]⟩, 5) else some (strOfNums out, 0)
theorem man_ownsMap_heap {H : Type} {P : Program} {k : TypeId} {R : Value → Option (DataW H × List MemPlace)} {w w' : World} {b n : Nat} {D : DataW H} (h : w.ownsMap P k R b n D) (he : w'.heap[b]? = w.heap[b]?) : w'.ownsMap P k R b n D := by
  obtain ⟨es, c, hb, r⟩ := h
  exact ⟨es, c, he.trans hb, r⟩
theorem man_ownsRow_heap {w w' : World} {base : Nat} {e : TypeId} {size : Nat} {v : Value} {n : Nat} {xs : List Value} (h : w.ownsRow base e size v n xs) (he : ∀ g, v.ownBlock = some g → w'.heap[g]? = w.heap[g]?) : w'.ownsRow base e size v n xs := by
  refine ⟨h.1, ?_⟩
  rcases h.2 with hn | ⟨g, cap, cur, rfl, hb, hg, rest⟩
  · exact .inl hn
  · exact .inr ⟨g, cap, cur, rfl, hb, (he g rfl).trans hg, rest⟩
theorem huff_or (x b : Int) (hb : b = 0 ∨ b = 1) : bits .or .u32 (x * 2 % 4294967296) b = x * 2 % 4294967296 + b := by
  obtain ⟨y, hy, hy1, hy2⟩ : ∃ y : Int, x * 2 % 4294967296 = 2 * y ∧ 0 ≤ y ∧ y < 2147483648 := ⟨x % 2147483648, by omega, by omega, by omega⟩
  rw [hy, u32_or _ _ (by omega) (by omega) (by omega) (by omega)]
  obtain ⟨z, rfl⟩ := Int.eq_ofNat_of_zero_le hy1
  rcases hb with rfl | rfl
  · simp; omega
  · have e : ((2 * (z : Int)).toNat ||| (1 : Int).toNat) = 2 ^ 1 * z + 1 := by
      rw [show (2 * (z : Int)).toNat = 2 ^ 1 * z by omega, Nat.two_pow_add_eq_or_of_lt (by decide : 1 < 2 ^ 1)]
      rfl
    rw [e]
    omega
theorem man_wraps_u32 (n : Int) (h₀ : 0 ≤ n) (h₁ : n < 2 ^ 32) : IntKind.u32.wrap n = n := by rw [IntKind.wrap_u32]; omega
theorem huff_and (y : Int) (h0 : 0 ≤ y) (h1 : y < 4294967296) : bits .and .u32 y 1 = y % 2 := bits_mask .u32 32 (by decide) man_wraps_u32 1 (by decide) y h0 h1
theorem huff_go_cons (b x n : Int) (ones : Bool) (out bs : List Int) : huff_go (b :: bs) x n ones out = match huff_find 257 (x * 2 % 4294967296 + b, (n + 1) % 256) with
    | none => huff_go bs (x * 2 % 4294967296 + b) ((n + 1) % 256) (ones && b == 1) out
    | some i => if i = 256 then none else huff_go bs 0 0 true (out ++ [(i : Int) % 256]) := by
  rw [huff_go, huff_step]
  cases huff_find 257 (x * 2 % 4294967296 + b, (n + 1) % 256) with
  | none => rfl
  | some i =>
    by_cases h : i = 256
    · simp [h]
    · simp [h]
theorem huff_zeroInt (w : World) : (zeroValue 3).run Tryd.prog w = .ok (.int .i64 0) w := by kernel_rfl
theorem huff_bit_bd (y : Int) : y % 2 = 0 ∨ y % 2 = 1 := by omega
theorem huff_quo_bd (c : Int) (k : Nat) : 0 ≤ c % 4294967296 / 2 ^ k ∧ c % 4294967296 / 2 ^ k < 4294967296 := by
  have h0 : 0 ≤ c % 4294967296 := by omega
  have hp : (0 : Int) < 2 ^ k := Int.pow_pos (by decide)
  refine ⟨Int.ediv_nonneg h0 (Int.le_of_lt hp), Int.lt_of_le_of_lt (Int.ediv_le_self _ h0) (by omega)⟩

/-- How many bits a text has. -/
def huff_sum : List Int → Int
  | [] => 0
  | c :: r => rd huff_lens c + huff_sum r
theorem huff_sum_append : ∀ a b, huff_sum (a ++ b) = huff_sum a + huff_sum b
  | [], b => by simp [huff_sum]
  | c :: r, b => by simp only [List.cons_append, huff_sum, huff_sum_append r b]; omega
theorem huff_len_bd : ∀ n : Nat, n < 257 → 5 ≤ rd huff_lens n ∧ rd huff_lens n ≤ 30 := by
  have h : (List.range 257).all (fun n => decide (5 ≤ rd huff_lens n) && decide (rd huff_lens n ≤ 30)) = true := by decide +kernel
  intro n hn
  have := List.all_eq_true.1 h n (List.mem_range.2 hn)
  simpa using this
theorem huff_sum_bd : ∀ l : List Int, (∀ c ∈ l, 0 ≤ c ∧ c < 256) → 5 * (l.length : Int) ≤ huff_sum l ∧ huff_sum l ≤ 30 * l.length
  | [], _ => by simp [huff_sum]
  | c :: r, h => by
    have ih := huff_sum_bd r (fun x hx => h x (List.mem_cons_of_mem _ hx))
    have hc := h c List.mem_cons_self
    have h1 := huff_len_bd c.toNat (by omega)
    rw [show ((c.toNat : Nat) : Int) = c by omega] at h1
    simp only [huff_sum, List.length_cons]
    omega
theorem man_bytesOf_bd (s : ByteArray) : ∀ c ∈ bytesOf s, 0 ≤ c ∧ c < 256 := by
  intro c hc
  obtain ⟨b, _, rfl⟩ := List.mem_map.1 hc
  have := b.toNat_lt
  omega
theorem man_bytesOf_length (s : ByteArray) : (bytesOf s).length = s.size := by unfold bytesOf; rw [List.length_map, Array.length_toList]; rfl
theorem man_bytesOf_take (s : ByteArray) (k : Nat) (hk : k < s.size) : (bytesOf s).take (k + 1) = (bytesOf s).take k ++ [(s[k].toNat : Int)] := by
  rw [List.take_succ_eq_append_getElem (by rw [man_bytesOf_length]; exact hk)]
  congr 2
  simp [bytesOf]
  rfl
theorem man_bytesOf_drop (s : ByteArray) (k : Nat) (hk : k < s.size) : (bytesOf s).drop k = (s[k].toNat : Int) :: (bytesOf s).drop (k + 1) := by
  rw [List.drop_eq_getElem_cons (by rw [man_bytesOf_length]; exact hk)]
  congr 1
  simp [bytesOf]
  rfl
def huff_Len.f (a0 : ByteArray) : Option Int := if a0.size ≤ 140737488351232 then some ((huff_sum (bytesOf a0) + 7) / 8) else none
set_option maxHeartbeats 3200000 in
set_option maxRecDepth 100000 in
theorem huff_Len.calls (a0 : ByteArray) (r : Int) (w : World) (h : huff_Len.f a0 = some r) :
    Calls Tryd.prog 16 #[.string a0] w fun e w' => e = .returned (.int .i64 r) ∧ Below w.heap.size w w' := by
  unfold huff_Len.f at h
  by_cases hsz : a0.size ≤ 140737488351232
  · rw [if_pos hsz] at h
    have HH := Aside0.mk (Option.some.inj h)
    clear h
    have hz8 := huff_lengths.zero
    obtain ⟨Z8, hZ8⟩ : ∃ Z : Array Value, Z = (List.replicate 257 (Value.int .u8 0)).toArray := ⟨_, rfl⟩
    have hZ8s : Z8.size = 257 := by rw [hZ8, List.size_toArray, List.length_replicate]
    rw [← hZ8] at hz8
    have HZ8s := Aside0.mk hZ8s
    obtain ⟨L, hL⟩ : ∃ L, L = (huff_lens.map (Value.int .u8)).toArray := ⟨_, rfl⟩
    have hcall : ∀ w, Calls Tryd.prog 62 #[] w fun e w' => e = .returned (.agg L) ∧ Below w.heap.size w w' := by rw [hL]; exact huff_lengths.calls
    have HLs := Aside0.mk (show L.size = 257 by rw [hL]; exact huff_lens_size)
    have HCALL := Aside0.mk hcall
    have HL1 := Aside0.mk (show L.all (·.oneCell') = true by rw [hL, List.all_toArray]; exact List.all_eq_true.2 fun x hx => by obtain ⟨n, _, rfl⟩ := List.mem_map.1 hx; rfl)
    have HL := Aside0.mk hL
    clear hZ8 hL hcall hZ8s
    go_enter Tryd.func16, Tryd.ntmps16
    go_upto_region 2 with (first | (go_at_call 62; refine (HCALL.out _).mono ?_; rintro e w1 ⟨rfl, hb⟩; have B1 := Aside0.mk hb; clear hb) | (refine wpList_store_row rfl 66 _ _ rfl w1.heap.size L rfl rfl 66 Z8 (man_alloc_block _ _ _) (by rw [HLs.out]; exact huff_lengths.size) (by rw [HLs.out]; exact HZ8s.out) HL1.out ?_))
    obtain ⟨B8, hB8⟩ : ∃ n, n = w1.heap.size := ⟨_, rfl⟩
    have G8 : ((w1.alloc (Obj.cells Z8 66)).setRow B8 L).heap[B8]? = some (.cells L 66 (0, 0)) := by
      have := man_alloc_block w1 Z8 66
      rw [← hB8] at this
      exact setRow_heap _ _ _ _ _ _ this
    have B2 : Below w.heap.size w ((w1.alloc (Obj.cells Z8 66)).setRow B8 L) := man_below_setRow (below_alloc B1.out _) _ _ (by have := B1.out.size; omega)
    rw [← hB8]
    have HG8 := Aside0.mk G8
    have HB2 := Aside0.mk B2
    clear G8 B2 B1 hB8 hz8
    generalize (w1.alloc (Obj.cells Z8 66)).setRow B8 L = w2 at HG8 HB2 ⊢
    have HCELL : Aside0 (∀ n : Nat, n < 257 → w2.cell? ⟨B8, n, none⟩ = some (.int .u8 (rd huff_lens n))) := ⟨fun n hn => by
      refine (blk_cell HG8.out n).trans ?_
      rw [HL.out, List.getElem?_toArray, List.getElem?_map, List.getElem?_eq_getElem (by rw [huff_lens_length]; exact hn)]
      simp [rd, List.getD_eq_getElem?_getD, List.getElem?_eq_getElem (show n < huff_lens.length by rw [huff_lens_length]; exact hn)]⟩
    go_wp2_with (fail)
    go_loop [3, 9] (fun v3 v9 => ∃ k : Nat, k ≤ a0.size ∧ v9 = .int .i64 k ∧ v3 = .int .i64 (huff_sum ((bytesOf a0).take k))) (fun _ v9 => a0.size - (intOf v9).toNat)
    case atStart => exact ⟨0, by omega, rfl, rfl⟩
    case round =>
      obtain ⟨k, hk, rfl, rfl⟩ := hrel
      have hbd := huff_sum_bd ((bytesOf a0).take k) (fun c hc => man_bytesOf_bd a0 c (List.mem_of_mem_take hc))
      have hlk : ((bytesOf a0).take k).length ≤ k := List.length_take_le _ _
      by_cases hlt : k < a0.size
      · have hsn := congrArg huff_sum (man_bytesOf_take a0 k hlt)
        rw [huff_sum_append] at hsn
        have HSN := Aside0.mk hsn
        clear hsn
        have hcb : a0[k].toNat < 256 := a0[k].toNat_lt
        have hcell := HCELL.out a0[k].toNat (by omega)
        have hmb := huff_len_bd a0[k].toNat (by omega)
        obtain ⟨m, hm⟩ : ∃ m, rd huff_lens (a0[k].toNat : Nat) = m := ⟨_, rfl⟩
        rw [hm] at hcell hmb
        have HM := Aside0.mk hm
        clear hm
        obtain ⟨S, hS⟩ : ∃ S, huff_sum ((bytesOf a0).take k) = S := ⟨_, rfl⟩
        rw [hS] at hbd ⊢
        have HS := Aside0.mk hS
        clear hS
        go_wp2_with (fail)
        go_round
        case rel => exact ⟨k + 1, by omega, by go_num, by rw [HSN.out, HS.out]; simp only [huff_sum]; rw [HM.out]; simp⟩
        case measure => simp [intOf]; omega
      · obtain rfl : k = a0.size := by omega
        rw [List.take_of_length_le (by rw [man_bytesOf_length]; exact Nat.le_refl _)] at hbd hlk ⊢
        rw [man_bytesOf_length] at hbd
        have hh := HH.out
        obtain ⟨S, hS⟩ : ∃ S, huff_sum (bytesOf a0) = S := ⟨_, rfl⟩
        rw [hS] at hbd hh ⊢
        subst hh
        clear hS
        go_wp2_with (fail)
        go_ret
        exact ⟨rfl, HB2.out⟩
  · rw [if_neg hsz] at h
    cases h

/-! ### A range over a function whose iterator may write a variable of its own (block Bn), and whose rounds all go on -/
section
variable {F : Fence} {n : Nat} {P : Program}
/-- What an iterator may do beside its rounds: lay blocks; write block Bn. -/
def StepsOf {β : Type} (Bn : Nat) (tn : TypeId) (J : β → World → Prop) : Prop :=
  ∀ s W W' (row : Option Nat), J s W → W.grownBy W' row → (∀ r, row = some r → r = Bn ∧ ∃ u, Boxed W' Bn tn u) → J s W'
/-- The iterator's contract: it hands the rounds just xs, one by one. Kp: what each round keeps. -/
def SeqRuns {α : Type} (F : Fence) (n : Nat) (P : Program) (g : Nat) (lb : Array Value) (encs : α → Array Value) (Bn : Nat) (tn : TypeId) (Kp : World → World → Prop) (xs : List α) (w : World) : Prop :=
  ∀ (l : Nat) (J : List α → World → Prop) (W : World), Below w.heap.size w W → StepsOf Bn tn J →
    (∀ pre x rest W1, xs = pre ++ x :: rest → J pre W1 → YieldAt F (n - 1) P l (encs x) W1 fun e W' => e = .returned (.bool true) ∧ J (pre ++ [x]) W' ∧ Kp W1 W') →
    J [] W → CallsIn F n P g (#[.func (.yield l) #[] #[]] ++ lb) W fun e W' => (∃ v, e = .returned v) ∧ J xs W'
/-- How a round's body is left: off its end. -/
def roundGoes {α : Type} (Kp : World → World → Prop) (I : List α → World → Prop) (xs : List α) (W : World) : Exit → Act → World → Prop
  | .normal, _, W' => KeepsOthers W W' ∧ Kp W W' ∧ I xs W'
  | _, _, _ => False
theorem wpIn_runs {α : Type} {g : Operand} {ps : Array Tmp} {assign body : Code} {Q : Exit → Act → World → Prop} {a : Act} {w : World}
    (hro : F.round = none) (h1 : 1 ≤ n) {gf : Nat} {lb : Array Value} (hg : a.eval g = .func (.func gf) #[] lb) (hFg : F.fn gf) (eg : ∀ args w, (callFunc gf args).run P w = .ok (.enter gf args) w)
    {encs : α → Array Value} {Bn : Nat} {tn : TypeId} {Kp : World → World → Prop} {xs : List α} (hseq : SeqRuns F (n - 1) P gf lb encs Bn tn Kp xs w) (hBn : Bn < w.heap.size)
    (hKt : ∀ {A B C : World}, Kp A B → Kp B C → Kp A C) (hKb : ∀ (W : World) (l : Nat) (o : Obj), w.heap.size ≤ l → Kp W (W.putObj l o)) (hps : ∀ x, (encs x).size = ps.size)
    (I : List α → World → Prop) (hI : ∀ s W W' (row : Option Nat), I s W → W.grownBy W' row → (∀ r, row = some r → (r = Bn ∧ ∃ u, Boxed W' Bn tn u) ∨ (w.heap.size ≤ r ∧ ∃ o : Obj, W.heap[r]? = some o ∧ o.isCells = false)) → I s W')
    (h0 : I [] w) (a₁ : α → Act)
    (hassign : ∀ (l : Nat) (x : α) (W : World) (K : Act → World → Prop), K (a₁ x) W → assign.wpIn (F.inRound l) (n - 1 - 1) P (Exit.then K (fun _ _ _ => False)) { tmps := (ps.zip (encs x)).foldl (fun t (p, v) => t.setIfInBounds p v) a.tmps, defers := [] } W)
    (hbody : ∀ (l : Nat) (pre : List α) (x : α) (rest : List α) (W : World), xs = pre ++ x :: rest → w.heap.size ≤ l → I pre W → body.wpIn (F.inRound l) (n - 1 - 1) P (roundGoes Kp I (pre ++ [x]) W) (a₁ x) W)
    (hdone : ∀ (D : Nat) (W : World), w.heap.size ≤ D → I xs W → W.heap[D]? = some (.deferred (some [])) → Q .normal { a with defers := { target := .collected D, args := #[] } :: a.defers } W) :
    (Code.rangeFunc g ps assign body).wpIn F n P Q a w := by
  refine wpIn_rangeFunc ?_
  intro fn hfn
  rw [hro]
  obtain ⟨rec, hrec⟩ : ∃ rec : LoopState → Option Code → Loop, rec = fun st pe => { state := st, pending := pe, fn, tmps := a.tmps, params := ps, assign, body, defers := w.heap.size } := ⟨_, rfl⟩
  obtain ⟨W1, hW1⟩ : ∃ W1, (w.alloc (.deferred (some []))).alloc (.loop (rec .ready none)) = W1 := ⟨_, rfl⟩
  have hL1 : W1.heap[w.heap.size + 1]? = some (.loop (rec .ready none)) := by
    rw [← hW1]; have := World.alloc_heap_new (w.alloc (.deferred (some []))) (.loop (rec .ready none)); rwa [World.size_alloc] at this
  have hK1 : W1.heap[w.heap.size]? = some (.deferred (some [])) := by
    rw [← hW1]; exact (Below.heap_alloc _ _ _ (by simp)).trans (World.alloc_heap_new w _)
  have hI1 : I [] W1 := by
    rw [← hW1]
    exact hI _ _ _ none (hI _ _ _ none h0 (World.grownBy_alloc w _ none) (by simp)) (World.grownBy_alloc _ _ none) (by simp)
  have hb1 : Below w.heap.size w W1 := by rw [← hW1]; exact ((Below.refl _ w).alloc (Nat.le_refl _) _).alloc (by simp) _
  have put_I : ∀ (s : List α) (W : World) (o o' : Obj), I s W → W.heap[w.heap.size + 1]? = some o → o.isCells = false → I s (W.putObj (w.heap.size + 1) o') := fun s W o o' hs hl ho =>
    hI s W _ (some (w.heap.size + 1)) hs (grownBy_putObj' W _ o') (fun r e => by cases e; exact .inr ⟨by omega, o, hl, ho⟩)
  refine ⟨w.heap.size + 1, [{ target := .collected w.heap.size, args := #[] }], W1, { target := .fn (.func gf) lb, args := #[.func (.yield (w.heap.size + 1)) #[] #[]] }, W1, gf,
    #[.func (.yield (w.heap.size + 1)) #[] #[]] ++ lb, W1, ?_, ?_, ?_, ?_, fun _ => h1, ?_⟩
  · rw [← hW1, hrec]; exact run_enterLoop_outer _ _ _ _ _
  · simp only [resolve, hg]
    simp [go_sem]
  · intro f' hf'; simp [Target.leads] at hf'; subst hf'; exact hFg
  · simp [invoke, go_sem, eg]
  · refine (hseq (w.heap.size + 1) (fun pre W => I pre W ∧ W.heap[w.heap.size + 1]? = some (.loop (rec .ready none)) ∧ W.heap[w.heap.size]? = some (.deferred (some []))) W1 hb1 ?_ ?_ ⟨hI1, hL1, hK1⟩).mono ?_
    · intro s A B row hs hg' hr
      refine ⟨hI s A B row hs.1 hg' (fun r e => .inl (hr r e)), ?_, ?_⟩
      · exact (hg'.block _ (Array.getElem?_eq_some_iff.1 hs.2.1).1 (fun e => by have := (hr _ e.symm).1; omega)).trans hs.2.1
      · exact (hg'.block _ (Array.getElem?_eq_some_iff.1 hs.2.2).1 (fun e => by have := (hr _ e.symm).1; omega)).trans hs.2.2
    · rintro pre x rest W hx ⟨hi, hl, hk⟩
      have hlt : w.heap.size + 1 < W.heap.size := (Array.getElem?_eq_some_iff.1 hl).1
      have hy := run_yield (P := P) (args := encs x) hl (by rw [hrec]; exact hps x)
      rw [hrec] at hy
      refine ⟨fn, _, assign, body, hy, roundIn_of_wpIn hfn (hassign _ x W _ ?_)⟩
      clear hy
      refine ⟨_, run_beginRound hl (by rw [hrec]), ?_⟩
      have hl2 : (W.putObj (w.heap.size + 1) (.loop { rec .ready none with state := .busy })).heap[w.heap.size + 1]? = some (.loop { rec .ready none with state := .busy }) := World.putObj_heap_same hlt
      have hk2 : (W.putObj (w.heap.size + 1) (.loop { rec .ready none with state := .busy })).heap[w.heap.size]? = some (.deferred (some [])) := (World.putObj_heap_other (by omega)).trans hk
      have hw2 : Kp W (W.putObj (w.heap.size + 1) (.loop { rec .ready none with state := .busy })) := hKb _ _ _ (by omega)
      refine wpIn_mono (hbody _ pre x rest _ hx (by omega) (put_I _ _ _ _ hi hl rfl)) ?_
      rintro e a3 W3 hp
      cases e with
      | normal =>
        obtain ⟨hk3, hkp3, hi3⟩ := hp
        have hl3 := hk3.same _ _ hl2 rfl
        have hr := run_endRound (P := P) none hl3
        rw [hrec] at hr hl3
        refine ⟨_, _, hr, rfl, ⟨put_I _ _ _ _ hi3 hl3 rfl, ?_, ?_⟩, hKt hw2 (hKt hkp3 (hKb _ _ _ (by omega)))⟩
        · rw [hrec]; exact World.putObj_heap_same (Array.getElem?_eq_some_iff.1 hl3).1
        · exact (World.putObj_heap_other (by omega)).trans (hk3.same _ _ hk2 rfl)
      | ret => exact hp.elim
      | exit id => exact hp.elim
      | goto t => exact hp.elim
      | panic ch => exact hp.elim
      | outgrown => exact hp.elim
    · rintro e W2 ⟨⟨v, rfl⟩, hi, hl, hk⟩
      have he := run_endLoop (P := P) hl (by rw [hrec]; simp)
      rw [hrec] at he
      exact ⟨none, _, he, hdone _ _ (Nat.le_refl _) (put_I _ _ _ _ hi hl rfl) ((World.putObj_heap_other (by omega)).trans hk)⟩
end

/-! ### The same, where a round keeps what it keeps of a loop's own block alone -/
section
variable {F : Fence} {n : Nat} {P : Program}
theorem wpIn_runs2 {α : Type} {g : Operand} {ps : Array Tmp} {assign body : Code} {Q : Exit → Act → World → Prop} {a : Act} {w : World}
    (hro : F.round = none) (h1 : 1 ≤ n) {gf : Nat} {lb : Array Value} (hg : a.eval g = .func (.func gf) #[] lb) (hFg : F.fn gf) (eg : ∀ args w, (callFunc gf args).run P w = .ok (.enter gf args) w)
    {encs : α → Array Value} {Bn : Nat} {tn : TypeId} {Kp : World → World → Prop} {xs : List α} (hseq : SeqRuns F (n - 1) P gf lb encs Bn tn Kp xs w) (hBn : Bn < w.heap.size)
    (hKt : ∀ {A B C : World}, Kp A B → Kp B C → Kp A C) (hKb : ∀ (W : World) (l : Nat) (o o' : Obj), W.heap[l]? = some o → o.isCells = false → Kp W (W.putObj l o')) (hps : ∀ x, (encs x).size = ps.size)
    (I : List α → World → Prop) (hI : ∀ s W W' (row : Option Nat), I s W → W.grownBy W' row → (∀ r, row = some r → (r = Bn ∧ ∃ u, Boxed W' Bn tn u) ∨ (w.heap.size ≤ r ∧ ∃ o : Obj, W.heap[r]? = some o ∧ o.isCells = false)) → I s W')
    (h0 : I [] w) (a₁ : α → Act)
    (hassign : ∀ (l : Nat) (x : α) (W : World) (K : Act → World → Prop), K (a₁ x) W → assign.wpIn (F.inRound l) (n - 1 - 1) P (Exit.then K (fun _ _ _ => False)) { tmps := (ps.zip (encs x)).foldl (fun t (p, v) => t.setIfInBounds p v) a.tmps, defers := [] } W)
    (hbody : ∀ (l : Nat) (pre : List α) (x : α) (rest : List α) (W : World), xs = pre ++ x :: rest → w.heap.size ≤ l → I pre W → body.wpIn (F.inRound l) (n - 1 - 1) P (roundGoes Kp I (pre ++ [x]) W) (a₁ x) W)
    (hdone : ∀ (D : Nat) (W : World), w.heap.size ≤ D → I xs W → W.heap[D]? = some (.deferred (some [])) → Q .normal { a with defers := { target := .collected D, args := #[] } :: a.defers } W) :
    (Code.rangeFunc g ps assign body).wpIn F n P Q a w := by
  refine wpIn_rangeFunc ?_
  intro fn hfn
  rw [hro]
  obtain ⟨rec, hrec⟩ : ∃ rec : LoopState → Option Code → Loop, rec = fun st pe => { state := st, pending := pe, fn, tmps := a.tmps, params := ps, assign, body, defers := w.heap.size } := ⟨_, rfl⟩
  obtain ⟨W1, hW1⟩ : ∃ W1, (w.alloc (.deferred (some []))).alloc (.loop (rec .ready none)) = W1 := ⟨_, rfl⟩
  have hL1 : W1.heap[w.heap.size + 1]? = some (.loop (rec .ready none)) := by
    rw [← hW1]; have := World.alloc_heap_new (w.alloc (.deferred (some []))) (.loop (rec .ready none)); rwa [World.size_alloc] at this
  have hK1 : W1.heap[w.heap.size]? = some (.deferred (some [])) := by
    rw [← hW1]; exact (Below.heap_alloc _ _ _ (by simp)).trans (World.alloc_heap_new w _)
  have hI1 : I [] W1 := by
    rw [← hW1]
    exact hI _ _ _ none (hI _ _ _ none h0 (World.grownBy_alloc w _ none) (by simp)) (World.grownBy_alloc _ _ none) (by simp)
  have hb1 : Below w.heap.size w W1 := by rw [← hW1]; exact ((Below.refl _ w).alloc (Nat.le_refl _) _).alloc (by simp) _
  have put_I : ∀ (s : List α) (W : World) (o o' : Obj), I s W → W.heap[w.heap.size + 1]? = some o → o.isCells = false → I s (W.putObj (w.heap.size + 1) o') := fun s W o o' hs hl ho =>
    hI s W _ (some (w.heap.size + 1)) hs (grownBy_putObj' W _ o') (fun r e => by cases e; exact .inr ⟨by omega, o, hl, ho⟩)
  refine ⟨w.heap.size + 1, [{ target := .collected w.heap.size, args := #[] }], W1, { target := .fn (.func gf) lb, args := #[.func (.yield (w.heap.size + 1)) #[] #[]] }, W1, gf,
    #[.func (.yield (w.heap.size + 1)) #[] #[]] ++ lb, W1, ?_, ?_, ?_, ?_, fun _ => h1, ?_⟩
  · rw [← hW1, hrec]; exact run_enterLoop_outer _ _ _ _ _
  · simp only [resolve, hg]
    simp [go_sem]
  · intro f' hf'; simp [Target.leads] at hf'; subst hf'; exact hFg
  · simp [invoke, go_sem, eg]
  · refine (hseq (w.heap.size + 1) (fun pre W => I pre W ∧ W.heap[w.heap.size + 1]? = some (.loop (rec .ready none)) ∧ W.heap[w.heap.size]? = some (.deferred (some []))) W1 hb1 ?_ ?_ ⟨hI1, hL1, hK1⟩).mono ?_
    · intro s A B row hs hg' hr
      refine ⟨hI s A B row hs.1 hg' (fun r e => .inl (hr r e)), ?_, ?_⟩
      · exact (hg'.block _ (Array.getElem?_eq_some_iff.1 hs.2.1).1 (fun e => by have := (hr _ e.symm).1; omega)).trans hs.2.1
      · exact (hg'.block _ (Array.getElem?_eq_some_iff.1 hs.2.2).1 (fun e => by have := (hr _ e.symm).1; omega)).trans hs.2.2
    · rintro pre x rest W hx ⟨hi, hl, hk⟩
      have hlt : w.heap.size + 1 < W.heap.size := (Array.getElem?_eq_some_iff.1 hl).1
      have hy := run_yield (P := P) (args := encs x) hl (by rw [hrec]; exact hps x)
      rw [hrec] at hy
      refine ⟨fn, _, assign, body, hy, roundIn_of_wpIn hfn (hassign _ x W _ ?_)⟩
      clear hy
      refine ⟨_, run_beginRound hl (by rw [hrec]), ?_⟩
      have hl2 : (W.putObj (w.heap.size + 1) (.loop { rec .ready none with state := .busy })).heap[w.heap.size + 1]? = some (.loop { rec .ready none with state := .busy }) := World.putObj_heap_same hlt
      have hk2 : (W.putObj (w.heap.size + 1) (.loop { rec .ready none with state := .busy })).heap[w.heap.size]? = some (.deferred (some [])) := (World.putObj_heap_other (by omega)).trans hk
      have hw2 : Kp W (W.putObj (w.heap.size + 1) (.loop { rec .ready none with state := .busy })) := hKb _ _ _ _ hl rfl
      refine wpIn_mono (hbody _ pre x rest _ hx (by omega) (put_I _ _ _ _ hi hl rfl)) ?_
      rintro e a3 W3 hp
      cases e with
      | normal =>
        obtain ⟨hk3, hkp3, hi3⟩ := hp
        have hl3 := hk3.same _ _ hl2 rfl
        have hr := run_endRound (P := P) none hl3
        rw [hrec] at hr hl3
        refine ⟨_, _, hr, rfl, ⟨put_I _ _ _ _ hi3 hl3 rfl, ?_, ?_⟩, hKt hw2 (hKt hkp3 (hKb _ _ _ _ hl3 rfl))⟩
        · rw [hrec]; exact World.putObj_heap_same (Array.getElem?_eq_some_iff.1 hl3).1
        · exact (World.putObj_heap_other (by omega)).trans (hk3.same _ _ hk2 rfl)
      | ret => exact hp.elim
      | exit id => exact hp.elim
      | goto t => exact hp.elim
      | panic ch => exact hp.elim
      | outgrown => exact hp.elim
    · rintro e W2 ⟨⟨v, rfl⟩, hi, hl, hk⟩
      have he := run_endLoop (P := P) hl (by rw [hrec]; simp)
      rw [hrec] at he
      exact ⟨none, _, he, hdone _ _ (Nat.le_refl _) (put_I _ _ _ _ hi hl rfl) ((World.putObj_heap_other (by omega)).trans hk)⟩
end

theorem manIn_store_row {F : Fence} {n : Nat} {P : Program} {ops : Array Oper} {rest : List Oper} {o : Oper} {a : Act} {w : World} {Q : Exit → Act → World → Prop} (hgd : o.guard = none) (ty : TypeId) (x y : Operand) (ho : o.op = .store ty x y)
    (g : Nat) (cells : Array Value) (hx : a.eval x = .pointer (some ⟨g, 0, none⟩)) (hy : a.eval y = .agg cells)
    (t : TypeId) (old : Array Value) (hg : w.heap[g]? = some (.cells old t (0, 0))) (hi : (P.info? ty).map (·.size) = some cells.size)
    (hold : old.size = cells.size) (h1 : cells.all (·.oneCell') = true)
    (h : wpListIn F n P ops Q rest (a.put o.dst undef) (w.setRow g cells)) : wpListIn F n P ops Q (o :: rest) a w := by
  refine wpListIn_plain hgd fun K hK' => ?_
  have hrun := run_storeVar_row (P := P) w g t ty old cells hg hi hold h1
  unfold Oper.wpIn
  refine ⟨by simp [Oper.about, ho], ?_⟩
  rw [Oper.semAt_plain F _ _ (by rw [ho]; intro c hc'; cases hc')]
  simp only [execOp, ho, hx, hy, Instr.storeAt, Instr.sureAddr, Sem.run_bind, Sem.run_pure, Result.andThen_ok, hrun]
  exact hK' _ _ h
/-- A byte's word. -/
def huff_w (c : Int) : Int × Int := huff_words.getD c.toNat (0, 0)
/-- The bits of a text. -/
def huff_enc : List Int → List Int
  | [] => []
  | c :: r => huff_low (huff_w c).1 (huff_w c).2.toNat ++ huff_enc r
theorem huff_bits.calls (s : ByteArray) (w : World) :
    Calls Tryd.prog 59 #[.string s] w fun e w' => e = .returned (.func (.func 88) #[] #[.pointer (some ⟨w.heap.size, 0, none⟩)]) ∧ w' = w.alloc (.cells #[.string s] 9) := by
  go_enter Tryd.func59, Tryd.ntmps59
  go_wp2
  go_ret
  exact ⟨rfl, rfl⟩
/-- What each round over a text's bits keeps. -/
def huff_Kp (W W' : World) : Prop := ∀ (g : Nat) (cs : Array Value) (t : TypeId) (fr : Nat × Nat), (t = 9 ∨ t = 145 ∨ t = 146) → W.heap[g]? = some (.cells cs t fr) → W'.heap[g]? = some (.cells cs t fr)
theorem huff_w_bd : ∀ n : Nat, n < 257 → 0 ≤ (huff_w n).1 ∧ (huff_w n).1 < 4294967296 ∧ 5 ≤ (huff_w n).2 ∧ (huff_w n).2 ≤ 30 := by
  have h : (List.range 257).all (fun n => decide (0 ≤ (huff_w n).1) && decide ((huff_w n).1 < 4294967296) && decide (5 ≤ (huff_w n).2) && decide ((huff_w n).2 ≤ 30)) = true := by decide +kernel
  intro n hn
  have := List.all_eq_true.1 h n (List.mem_range.2 hn)
  simp only [Bool.and_eq_true, decide_eq_true_eq] at this
  exact ⟨this.1.1.1, this.1.1.2, this.1.2, this.2⟩
set_option maxHeartbeats 3200000 in
set_option maxRecDepth 100000 in
theorem huff_bits.runs (N : Nat) (hN : 1 ≤ N) (Bn : Nat) (s : ByteArray) (hs : s.size ≤ 140737488351232) (w : World) (hb : Boxed w Bn 9 (.string s)) :
    SeqRuns Fence.wide N Tryd.prog 88 #[.pointer (some ⟨Bn, 0, none⟩)] (fun x => #[.bool (x == 1)]) Bn 9 huff_Kp (huff_enc (bytesOf s)) w := by
  have hro : Fence.wide.round = none := rfl
  intro l J W hW hJ hY hJ0
  have hbW : Boxed W Bn 9 (.string s) := (hW.block Bn hb.lt).trans hb
  have HBOX := Aside0.mk hbW
  have HY := Aside0.mk hY
  have HJ := Aside0.mk hJ
  have HJ0 := Aside0.mk hJ0
  clear hY hJ hbW hJ0 hb
  have hz := huff_code.zero
  obtain ⟨Z, hZ⟩ : ∃ Z : Array Value, Z = (huff_flat (List.replicate 257 (0, 0))).toArray := ⟨_, rfl⟩
  have hZs : Z.size = 514 := by rw [hZ, List.size_toArray, huff_flat_length, List.length_replicate]
  rw [← hZ] at hz
  obtain ⟨F, hF⟩ : ∃ F, F = (huff_flat huff_words).toArray := ⟨_, rfl⟩
  have hcall : ∀ w, Calls Tryd.prog 89 #[] w fun e w' => e = .returned (.agg F) ∧ Below w.heap.size w w' := by rw [hF]; exact huff_code.calls
  have HCALL := Aside0.mk hcall
  have HFs := Aside0.mk (show F.size = 514 by rw [hF, List.size_toArray, huff_flat_length, huff_words_length])
  have HF1 := Aside0.mk (show F.all (·.oneCell') = true by rw [hF]; exact huff_flat_one huff_words)
  have HZs := Aside0.mk hZs
  have HF := Aside0.mk hF
  clear hcall hF hZ hZs
  refine callsIn_of_wp Tryd.func88 rfl trivial ?_ hro
  simp only [Tryd.ntmps88, List.size_toArray, List.length_cons, List.length_nil, Nat.reduceAdd, Nat.reduceSub, Array.replicate_succ, Array.replicate_zero, List.push_toArray, List.append_toArray, List.nil_append, List.cons_append]
  gi_wp2
  refine ⟨trivial, (callsIn_wide.2 (HCALL.out _)).mono ?_⟩
  rintro e w1 ⟨rfl, hb1⟩
  have B1 := Aside0.mk hb1
  clear hb1
  gi_upto_region 1 with (refine manIn_store_row rfl 146 _ _ rfl w1.heap.size F rfl rfl 146 Z (man_alloc_block _ _ _) (by rw [HFs.out]; exact huff_code.size) (by rw [HFs.out]; exact HZs.out) HF1.out ?_)
  obtain ⟨B3, hB3⟩ : ∃ n, n = w1.heap.size := ⟨_, rfl⟩
  have G3 : ((w1.alloc (Obj.cells Z 146)).setRow B3 F).heap[B3]? = some (.cells F 146 (0, 0)) := by
    have := man_alloc_block w1 Z 146
    rw [← hB3] at this
    exact setRow_heap _ _ _ _ _ _ this
  have B2 : Below W.heap.size W ((w1.alloc (Obj.cells Z 146)).setRow B3 F) := man_below_setRow (below_alloc B1.out _) _ _ (by have := B1.out.size; omega)
  rw [← hB3]
  clear B1 hB3 hz
  generalize (w1.alloc (Obj.cells Z 146)).setRow B3 F = w2 at G3 B2 ⊢
  have HG3 := Aside0.mk G3
  have HBX := Aside0.mk (show Boxed w2 Bn 9 (.string s) from (B2.block Bn HBOX.out.lt).trans HBOX.out)
  have HJ2 := Aside0.mk (HJ.out [] W w2 none HJ0.out ⟨B2.os, B2.tape, B2.output, B2.size, fun i hi _ => B2.block i hi⟩ (fun r e => by cases e))
  clear G3 B2 HJ0 HBOX
  have hc := HBX.out.cell
  gi_wp2
  clear hc
  gi_loopw [10] (fun v10 wr => ∃ (k : Nat) (pre : List Int), k ≤ s.size ∧ v10 = .int .i64 k ∧ Aside0 (huff_enc (bytesOf s) = pre ++ huff_enc ((bytesOf s).drop k)) ∧ Aside0 (J pre wr) ∧ Aside0 (Boxed wr Bn 9 (.string s)) ∧ Aside0 (wr.heap[B3]? = some (.cells F 146 (0, 0)))) (fun v10 _ => s.size - (intOf v10).toNat)
  case atStart => exact ⟨0, [], by omega, rfl, ⟨rfl⟩, HJ2, HBX, HG3⟩
  case round =>
    clear HJ2 HBX HG3
    obtain ⟨k, pre, hk, rfl, HE, HJ2, HBX, HG3⟩ := hrel
    have hc := HBX.out.cell
    by_cases hlt : k < s.size
    · have hcb : s[k].toNat < 256 := s[k].toNat_lt
      have he := HE.out
      rw [man_bytesOf_drop s k hlt, huff_enc] at he
      obtain ⟨x, n, hxn⟩ : ∃ x n, huff_w (s[k].toNat : Nat) = (x, n) := ⟨_, _, rfl⟩
      have hbd := huff_w_bd s[k].toNat (by omega)
      rw [hxn] at he hbd
      simp only at he hbd
      have hp : F.extract (s[k].toNat * 2) (s[k].toNat * 2 + 2) = #[.int .u32 x, .int .u8 n] := by
        rw [HF.out, List.extract_toArray, List.extract_eq_take_drop]
        rw [show s[k].toNat * 2 + 2 - s[k].toNat * 2 = 2 by omega, huff_flat_at _ _ (by rw [huff_words_length]; omega)]
        have e : huff_words.getD s[k].toNat (0, 0) = (x, n) := by rw [← hxn]; unfold huff_w; rw [Int.toNat_natCast]
        rw [e]
      have hx0 : wr.cell? ⟨B3, s[k].toNat * 2, none⟩ = some (.int .u32 x) := by
        refine (blk_cell HG3.out _).trans ?_
        have := congrArg (fun A : Array Value => A[0]?) hp
        simp only [Array.getElem?_extract] at this
        rw [if_pos (by rw [HFs.out]; omega)] at this
        exact this
      have hx1 : wr.cell? ⟨B3, s[k].toNat * 2 + 1, none⟩ = some (.int .u8 n) := by
        refine (blk_cell HG3.out _).trans ?_
        have := congrArg (fun A : Array Value => A[1]?) hp
        simp only [Array.getElem?_extract] at this
        rw [if_pos (by rw [HFs.out]; omega)] at this
        exact this
      have HE := Aside0.mk he
      clear he hp hxn
      have hcb2 : (s[k].toNat : Int) < 257 := by omega
      gi_wp2
      obtain ⟨B5, hB5⟩ : ∃ g, g = wr.heap.size := ⟨_, rfl⟩
      have G5 := man_alloc_block wr #[Value.int IntKind.u32 x, Value.int IntKind.u8 n] 145
      rw [← hB5] at G5 ⊢
      have HG5 := Aside0.mk G5
      have HBX := Aside0.mk (HBX.out.alloc (.cells #[Value.int IntKind.u32 x, Value.int IntKind.u8 n] 145))
      have HG3 := Aside0.mk ((heap_alloc_old wr (.cells #[Value.int IntKind.u32 x, Value.int IntKind.u8 n] 145) (Array.getElem?_eq_some_iff.1 HG3.out).1).trans HG3.out)
      have HJ2 := Aside0.mk (HJ.out pre wr _ none HJ2.out (World.grownBy_alloc wr (.cells #[Value.int IntKind.u32 x, Value.int IntKind.u8 n] 145) none) (fun r e => by cases e))
      clear G5 hB5 hc hx0 hx1 hcb hcb2
      generalize wr.alloc (.cells #[Value.int IntKind.u32 x, Value.int IntKind.u8 n] 145) = w5 at HG5 HBX HG3 HJ2 ⊢
      obtain ⟨m, rfl⟩ := Int.eq_ofNat_of_zero_le (show 0 ≤ n by omega)
      rw [Int.toNat_natCast] at HE
      gi_loopw [6] (fun v6 wr => ∃ (j : Nat) (pre : List Int), j ≤ 30 ∧ v6 = .int .u8 j ∧ Aside0 (huff_enc (bytesOf s) = pre ++ (huff_low x j ++ huff_enc ((bytesOf s).drop (k + 1)))) ∧ Aside0 (J pre wr) ∧ Aside0 (Boxed wr Bn 9 (.string s)) ∧ Aside0 (wr.heap[B3]? = some (.cells F 146 (0, 0))) ∧ Aside0 (wr.heap[B5]? = some (.cells #[.int .u32 x, .int .u8 m] 145 (0, 0)))) (fun v6 _ => (intOf v6).toNat)
      case atStart => exact ⟨m, pre, by omega, rfl, HE, HJ2, HBX, HG3, HG5⟩
      case round =>
        clear HE HJ2 HBX HG3 HG5
        obtain ⟨j, pre, hj, rfl, HE, HJ2, HBX, HG3, HG5⟩ := hrel
        by_cases hj0 : j = 0
        · subst hj0
          have he := HE.out
          rw [huff_low, List.nil_append] at he
          have HE := Aside0.mk he
          clear he
          gi_wp2
          go_roundw
          case rel => exact ⟨k + 1, pre, by omega, by go_num, HE, HJ2, HBX, HG3⟩
          case measure => simp [intOf]; omega
        · obtain ⟨i, rfl⟩ : ∃ i, j = i + 1 := ⟨j - 1, by omega⟩
          have he := HE.out
          rw [huff_low, List.cons_append, Int.emod_eq_of_lt hbd.1 hbd.2.1] at he
          have hq : 0 ≤ x / 2 ^ i ∧ x / 2 ^ i < 4294967296 := by
            have := huff_quo_bd x i
            rwa [Int.emod_eq_of_lt hbd.1 hbd.2.1] at this
          have hand := huff_and (x / 2 ^ i) hq.1 hq.2
          obtain ⟨b, hb⟩ : ∃ b, x / 2 ^ i % 2 = b := ⟨_, rfl⟩
          rw [hb] at he hand
          have HE := Aside0.mk he
          have hx0 : wr.cell? ⟨B5, 0, none⟩ = some (.int .u32 x) := (blk_cell HG5.out 0).trans rfl
          obtain ⟨fn, tmps, assign, body, hy, hR⟩ := HY.out pre b _ wr HE.out HJ2.out
          clear he hb hq
          gi_wp2
          refine hR.mono ?_
          rintro e W3 ⟨rfl, hJ3, hk3⟩
          have HJ3 := Aside0.mk hJ3
          have HBX3 := Aside0.mk (show Boxed W3 Bn 9 (.string s) from hk3 _ _ _ _ (.inl rfl) HBX.out)
          have HG33 := Aside0.mk (hk3 _ _ _ _ (.inr (.inr rfl)) HG3.out)
          have HG53 := Aside0.mk (hk3 _ _ _ _ (.inr (.inl rfl)) HG5.out)
          clear hJ3 hk3 hR hy hx0
          gi_wp2
          go_roundw
          case rel => exact ⟨i, pre ++ [b], by omega, by go_num, ⟨by rw [HE.out]; simp⟩, HJ3, HBX3, HG33, HG53⟩
          case measure => simp [intOf]
    · obtain rfl : k = s.size := by omega
      have he := HE.out
      rw [List.drop_eq_nil_of_le (by rw [man_bytesOf_length]; exact Nat.le_refl _), huff_enc, List.append_nil] at he
      have HE := Aside0.mk he
      clear he
      gi_wp2
      go_end0
      exact ⟨⟨_, rfl⟩, by rw [HE.out]; exact HJ2.out⟩


end Go.Proofs.YtmkmefdajbdceaaDoor.PHQ
