-- Written by wip/mprint.py (the kit's printer, and texts of this claim's own for what it does not take). Not trusted: Lean checks it.
import Derived.Test.YtmkmefdajbdceaaPTXx0
import Derived.Test.YtmkmefdajbdceaaPTXx1
import Derived.Test.YtmkmefdajbdceaaPTXx3
namespace Go.Proofs.Ytmkmefdajbdceaa.PTX
open Go.RowKit Go.Proofs.YtmkmefdajbdceaaW.PrintWords Go.Proofs.YtmkmefdajbdceaaW.PrintLast Go.Proofs.YtmkmefdajbdceaaW.PrintMore
attribute [local go_sem] max2_int min2_int max_two min_two max_three min_three max_four min_four   -- for this text's walks alone
set_option linter.unusedVariables false
set_option linter.unusedSimpArgs false

/-! ### huff_code: function 44, by hand -/
/-- The words of the code: bits, how many. -/
def huff_words : List (Int × Int) := [(8184, 13), (8388568, 23), (268435426, 28), (268435427, 28), (268435428, 28), (268435429, 28), (268435430, 28), (268435431, 28), (268435432, 28), (16777194, 24), (1073741820, 30), (268435433, 28), (268435434, 28), (1073741821, 30), (268435435, 28), (268435436, 28), (268435437, 28), (268435438, 28), (268435439, 28), (268435440, 28), (268435441, 28), (268435442, 28), (1073741822, 30), (268435443, 28), (268435444, 28), (268435445, 28), (268435446, 28), (268435447, 28), (268435448, 28), (268435449, 28), (268435450, 28), (268435451, 28), (20, 6), (1016, 10), (1017, 10), (4090, 12), (8185, 13), (21, 6), (248, 8), (2042, 11), (1018, 10), (1019, 10), (249, 8), (2043, 11), (250, 8), (22, 6), (23, 6), (24, 6), (0, 5), (1, 5), (2, 5), (25, 6), (26, 6), (27, 6), (28, 6), (29, 6), (30, 6), (31, 6), (92, 7), (251, 8), (32764, 15), (32, 6), (4091, 12), (1020, 10), (8186, 13), (33, 6), (93, 7), (94, 7), (95, 7), (96, 7), (97, 7), (98, 7), (99, 7), (100, 7), (101, 7), (102, 7), (103, 7), (104, 7), (105, 7), (106, 7), (107, 7), (108, 7), (109, 7), (110, 7), (111, 7), (112, 7), (113, 7), (114, 7), (252, 8), (115, 7), (253, 8), (8187, 13), (524272, 19), (8188, 13), (16380, 14), (34, 6), (32765, 15), (3, 5), (35, 6), (4, 5), (36, 6), (5, 5), (37, 6), (38, 6), (39, 6), (6, 5), (116, 7), (117, 7), (40, 6), (41, 6), (42, 6), (7, 5), (43, 6), (118, 7), (44, 6), (8, 5), (9, 5), (45, 6), (119, 7), (120, 7), (121, 7), (122, 7), (123, 7), (32766, 15), (2044, 11), (16381, 14), (8189, 13), (268435452, 28), (1048550, 20), (4194258, 22), (1048551, 20), (1048552, 20), (4194259, 22), (4194260, 22), (4194261, 22), (8388569, 23), (4194262, 22), (8388570, 23), (8388571, 23), (8388572, 23), (8388573, 23), (8388574, 23), (16777195, 24), (8388575, 23), (16777196, 24), (16777197, 24), (4194263, 22), (8388576, 23), (16777198, 24), (8388577, 23), (8388578, 23), (8388579, 23), (8388580, 23), (2097116, 21), (4194264, 22), (8388581, 23), (4194265, 22), (8388582, 23), (8388583, 23), (16777199, 24), (4194266, 22), (2097117, 21), (1048553, 20), (4194267, 22), (4194268, 22), (8388584, 23), (8388585, 23), (2097118, 21), (8388586, 23), (4194269, 22), (4194270, 22), (16777200, 24), (2097119, 21), (4194271, 22), (8388587, 23), (8388588, 23), (2097120, 21), (2097121, 21), (4194272, 22), (2097122, 21), (8388589, 23), (4194273, 22), (8388590, 23), (8388591, 23), (1048554, 20), (4194274, 22), (4194275, 22), (4194276, 22), (8388592, 23), (4194277, 22), (4194278, 22), (8388593, 23), (67108832, 26), (67108833, 26), (1048555, 20), (524273, 19), (4194279, 22), (8388594, 23), (4194280, 22), (33554412, 25), (67108834, 26), (67108835, 26), (67108836, 26), (134217694, 27), (134217695, 27), (67108837, 26), (16777201, 24), (33554413, 25), (524274, 19), (2097123, 21), (67108838, 26), (134217696, 27), (134217697, 27), (67108839, 26), (134217698, 27), (16777202, 24), (2097124, 21), (2097125, 21), (67108840, 26), (67108841, 26), (268435453, 28), (134217699, 27), (134217700, 27), (134217701, 27), (1048556, 20), (16777203, 24), (1048557, 20), (2097126, 21), (4194281, 22), (2097127, 21), (2097128, 21), (8388595, 23), (4194282, 22), (4194283, 22), (33554414, 25), (33554415, 25), (16777204, 24), (16777205, 24), (67108842, 26), (8388596, 23), (67108843, 26), (134217702, 27), (67108844, 26), (67108845, 26), (134217703, 27), (134217704, 27), (134217705, 27), (134217706, 27), (134217707, 27), (268435454, 28), (134217708, 27), (134217709, 27), (134217710, 27), (134217711, 27), (134217712, 27), (67108846, 26), (1073741823, 30)]
def huff_flat : List (Int × Int) → List Value
  | [] => []
  | p :: r => .int .u32 p.1 :: .int .u8 p.2 :: huff_flat r
theorem huff_flat_length : ∀ l, (huff_flat l).length = 2 * l.length
  | [] => rfl
  | p :: r => by simp [huff_flat, huff_flat_length r]; omega
theorem huff_flat_set : ∀ (l : List (Int × Int)) (i : Nat) (p : Int × Int), huff_flat (l.set i p) = ((huff_flat l).set (2 * i) (.int .u32 p.1)).set (2 * i + 1) (.int .u8 p.2)
  | [], _, _ => rfl
  | q :: r, 0, p => rfl
  | q :: r, i + 1, p => by
    rw [show 2 * (i + 1) = (2 * i + 1) + 1 by omega]
    simp only [List.set_cons_succ, huff_flat, huff_flat_set r i p]
/-- One round over all words: those of n bits. -/
def huff_inner (n : Int) : List Int → Nat → Int → List (Int × Int) → Int × List (Int × Int)
  | [], _, x, cs => (x, cs)
  | m :: ms, i, x, cs => if m = n then huff_inner n ms (i + 1) ((x + 1) % 4294967296) (cs.set i (x, n)) else huff_inner n ms (i + 1) x cs
def huff_outer : Nat → Int → Int → List (Int × Int) → List (Int × Int)
  | 0, _, _, cs => cs
  | k + 1, n, x, cs => huff_outer k (n + 1) (huff_inner n huff_lens 0 (x * 2 % 4294967296) cs).1 (huff_inner n huff_lens 0 (x * 2 % 4294967296) cs).2
set_option maxRecDepth 100000 in
theorem huff_words_made : huff_outer 30 1 0 (List.replicate 257 (0, 0)) = huff_words := by decide +kernel
theorem huff_words_length : huff_words.length = 257 := by decide +kernel

theorem huff_code.info : (Try.prog.info? 68).map (fun i => (i.zero, i.size)) = some (some (.agg (huff_flat (List.replicate 257 (0, 0))).toArray), 514) := by kernel_rfl
theorem huff_code.zero (w : World) : (zeroValue 68).run Try.prog w = .ok (.agg (huff_flat (List.replicate 257 (0, 0))).toArray) w := by
  refine man_zero _ _ ?_ w
  have h := huff_code.info
  cases hi : Try.prog.info? 68 with
  | none => rw [hi] at h; cases h
  | some i => rw [hi] at h; simp only [Option.map_some, Option.some.injEq, Prod.mk.injEq] at h; exact h.1
theorem huff_code.size : (Try.prog.info? 68).map (·.size) = some 514 := by
  have h := huff_code.info
  cases hi : Try.prog.info? 68 with
  | none => rw [hi] at h; cases h
  | some i => rw [hi] at h; simp only [Option.map_some, Option.some.injEq, Prod.mk.injEq] at h; rw [Option.map_some, h.2]
theorem man_setCells2 (w : World) (g o : Nat) (t : TypeId) (cs : List Value) (a b : Value) (hg : w.heap[g]? = some (.cells cs.toArray t (0, 0))) : (w.setCells g o [a, b]).heap[g]? = some (.cells ((cs.set o a).set (o + 1) b).toArray t (0, 0)) := by
  unfold World.setCells World.setCells World.setCells
  rw [setCell_eq_setRow _ _ _ _ _ _ _ hg]
  have h1 := setRow_heap w g _ (cs.toArray.setIfInBounds o a) _ _ hg
  rw [setCell_eq_setRow _ _ _ _ _ _ _ h1]
  have h2 := setRow_heap _ g _ ((cs.toArray.setIfInBounds o a).setIfInBounds (o + 1) b) _ _ h1
  rw [h2]
  simp
theorem man_setCells2_other (w : World) (g o : Nat) (t : TypeId) (cs : List Value) (a b : Value) (hg : w.heap[g]? = some (.cells cs.toArray t (0, 0))) (k : Nat) (hk : k ≠ g) : (w.setCells g o [a, b]).heap[k]? = w.heap[k]? := by
  unfold World.setCells World.setCells World.setCells
  rw [setCell_eq_setRow _ _ _ _ _ _ _ hg]
  have h1 := setRow_heap w g _ (cs.toArray.setIfInBounds o a) _ _ hg
  rw [setCell_eq_setRow _ _ _ _ _ _ _ h1, setRow_other _ _ _ _ hk, setRow_other _ _ _ _ hk]
theorem man_setCells2_below {w w1 : World} (h : Below w.heap.size w w1) (g o : Nat) (t : TypeId) (cs : List Value) (a b : Value) (hg : w1.heap[g]? = some (.cells cs.toArray t (0, 0))) (hb : w.heap.size ≤ g) : Below w.heap.size w (w1.setCells g o [a, b]) := by
  have h1 := setRow_heap w1 g _ (cs.toArray.setIfInBounds o a) _ _ hg
  unfold World.setCells World.setCells World.setCells
  rw [setCell_eq_setRow _ _ _ _ _ _ _ hg, setCell_eq_setRow _ _ _ _ _ _ _ h1]
  exact man_below_setRow (man_below_setRow h g _ hb) g _ hb
theorem man_there {w : World} {g : Nat} {t : TypeId} {cs : Array Value} (hg : w.heap[g]? = some (.cells cs t (0, 0))) (o n : Nat) (h : o + n ≤ cs.size) : w.there g o n := by
  intro j hj
  refine ⟨?_, by simp [World.frozen?, hg]⟩
  rw [cell_of_row w g _ cs t (0, 0) hg, Array.getElem?_eq_getElem (by omega)]
  rfl
theorem huff_code.index (L : Array Value) (hL : L = (huff_lens.map (Value.int .u8)).toArray) (i : Nat) (hi : i < 257) (w : World) : (Instr.index 81 (.agg L) (.int .i64 (i : Int))).run Try.prog w = .ok (.int .u8 (rd huff_lens i)) w := by
  have hs : ∀ w, (sizeOf 5).run Try.prog w = .ok 1 w := by
    intro w
    obtain ⟨i0, hinf, _, h2, _⟩ := info_parts man_info_u8
    simp [sizeOf, typeInfo, hinf, h2]
  have ha : ∀ w, (isAgg 5).run Try.prog w = .ok false w := by
    intro w
    unfold isAgg
    rw [Sem.run_bind, run_underlying Try.underlying5 w]
    rfl
  have hc : L[i]? = some (.int .u8 (rd huff_lens i)) := by
    rw [hL, List.getElem?_toArray, List.getElem?_map, List.getElem?_eq_getElem (by rw [huff_lens_length]; exact hi)]
    simp [rd, List.getD_eq_getElem?_getD, List.getElem?_eq_getElem (show i < huff_lens.length by rw [huff_lens_length]; exact hi)]
  simp [Instr.index, asIntOf, run_underlying Try.underlying81, part, Sem.run_bind, hs, ha, hc, hi]

theorem man_two_one (k k' : IntKind) (a b : Int) : (#[Value.int k a, Value.int k' b] : Array Value).all (·.oneCell') = true := by simp [Value.oneCell']
theorem huff_code.word : (Try.prog.info? 67).map (·.size) = some 2 := by kernel_rfl
theorem huff_outer_step (k : Nat) (hk : k ≠ 0) (n x : Int) (cs : List (Int × Int)) : huff_outer k n x cs = huff_outer (k - 1) (n + 1) (huff_inner n huff_lens 0 (x * 2 % 4294967296) cs).1 (huff_inner n huff_lens 0 (x * 2 % 4294967296) cs).2 := by
  cases k with
  | zero => exact absurd rfl hk
  | succ k => rfl
theorem huff_flat_one : ∀ l, (huff_flat l).toArray.all (·.oneCell') = true := by
  intro l
  rw [List.all_toArray]
  induction l with
  | nil => rfl
  | cons p r ih => simp only [huff_flat, List.all_cons, ih]; rfl
set_option maxHeartbeats 3200000 in
set_option maxRecDepth 100000 in
theorem huff_code.calls (w : World) :
    Calls Try.prog 44 #[] w fun e w' => e = .returned (.agg (huff_flat huff_words).toArray) ∧ Below w.heap.size w w' := by
  have hz := huff_code.zero
  have hz8 := huff_lengths.zero
  obtain ⟨Z, hZ⟩ : ∃ Z : List Value, Z = huff_flat (List.replicate 257 (0, 0)) := ⟨_, rfl⟩
  obtain ⟨Z8, hZ8⟩ : ∃ Z : Array Value, Z = (List.replicate 257 (Value.int .u8 0)).toArray := ⟨_, rfl⟩
  have hZ8s : Z8.size = 257 := by rw [hZ8, List.size_toArray, List.length_replicate]
  rw [← hZ] at hz
  rw [← hZ8] at hz8
  have HZ := Aside0.mk hZ
  have HZ8s := Aside0.mk hZ8s
  obtain ⟨L, hL⟩ : ∃ L, L = (huff_lens.map (Value.int .u8)).toArray := ⟨_, rfl⟩
  have hcall : ∀ w, Calls Try.prog 50 #[] w fun e w' => e = .returned (.agg L) ∧ Below w.heap.size w w' := by rw [hL]; exact huff_lengths.calls
  have HIX := Aside0.mk (huff_code.index L hL)
  have HLs := Aside0.mk (show L.size = 257 by rw [hL]; exact huff_lens_size)
  have HCALL := Aside0.mk hcall
  have HL1 := Aside0.mk (show L.all (·.oneCell') = true by rw [hL, List.all_toArray]; exact List.all_eq_true.2 fun x hx => by obtain ⟨n, _, rfl⟩ := List.mem_map.1 hx; rfl)
  clear hZ hZ8 hL hcall hZ8s
  go_enter Try.func44, Try.ntmps44
  go_upto_region 2 with (fail)
  go_wp2_with (first | (go_at_call 50; refine (HCALL.out _).mono ?_; rintro e w1 ⟨rfl, hb⟩; have B1 := Aside0.mk (below_step (below_alloc (Below.refl w.heap.size w) _) hb); have G1 := Aside0.mk ((hb.block w.heap.size (by rw [World.alloc]; simp)).trans (man_alloc_block _ _ _)); clear hb) | (refine wpList_store_row rfl 81 _ _ rfl w1.heap.size L rfl rfl 81 Z8 (man_alloc_block _ _ _) (by rw [HLs.out]; exact huff_lengths.size) (by rw [HLs.out]; exact HZ8s.out) HL1.out ?_))
  obtain ⟨B8, hB8⟩ : ∃ n, n = w1.heap.size := ⟨_, rfl⟩
  have hlt : w.heap.size < B8 := by rw [hB8]; have := (Array.getElem?_eq_some_iff.1 G1.out).1; exact this
  have G2 : ((w1.alloc (Obj.cells Z8 81)).setRow B8 L).heap[w.heap.size]? = some (.cells Z.toArray 68 (0, 0)) := by
    rw [setRow_other _ _ _ _ (by omega)]
    exact (heap_alloc_old _ _ (by rw [← hB8]; exact hlt)).trans G1.out
  have G8 : ((w1.alloc (Obj.cells Z8 81)).setRow B8 L).heap[B8]? = some (.cells L 81 (0, 0)) := by
    have := man_alloc_block w1 Z8 81
    rw [← hB8] at this
    exact setRow_heap _ _ _ _ _ _ this
  have B2 : Below w.heap.size w ((w1.alloc (Obj.cells Z8 81)).setRow B8 L) := man_below_setRow (below_alloc B1.out _) _ _ (by omega)
  rw [← hB8]
  rw [HZ.out] at G2
  have HG2 := Aside0.mk G2
  have HG8 := Aside0.mk G8
  have HB2 := Aside0.mk B2
  clear G2 G8 B2 G1 B1 hB8
  generalize (w1.alloc (Obj.cells Z8 81)).setRow B8 L = w2 at HG2 HG8 HB2 ⊢
  clear hz hz8
  go_loopw [1, 3] (fun v1 v3 wr => ∃ (k : Nat) (x : Int) (cs : List (Int × Int)), k ≤ 30 ∧ v1 = .int .u32 x ∧ v3 = .int .u8 (31 - (k : Int)) ∧ Aside0 (cs.length = 257) ∧ Aside0 (huff_outer k (31 - (k : Int)) x cs = huff_words) ∧ Aside0 (wr.heap[w.heap.size]? = some (.cells (huff_flat cs).toArray 68 (0, 0))) ∧ Aside0 (wr.heap[B8]? = some (.cells L 81 (0, 0))) ∧ Aside0 (Below w.heap.size w wr)) (fun _ v3 _ => 31 - (intOf v3).toNat)
  case atStart => exact ⟨30, 0, List.replicate 257 (0, 0), by omega, rfl, rfl, ⟨by simp⟩, ⟨huff_words_made⟩, HG2, HG8, HB2⟩
  case round =>
    obtain ⟨k, x, cs, hk, rfl, rfl, HCS, HO, HG, HG8, HB⟩ := hrel
    by_cases hk0 : k = 0
    · subst hk0
      have hcs : cs = huff_words := HO.out
      subst hcs
      clear HO
      obtain ⟨F, hF⟩ : ∃ F, F = (huff_flat huff_words).toArray := ⟨_, rfl⟩
      have hG := HG.out
      rw [← hF] at hG
      have HF := Aside0.mk hF
      have HFs := Aside0.mk (show F.size = 514 by rw [hF, List.size_toArray, huff_flat_length, huff_words_length])
      have HF1 := Aside0.mk (show F.all (·.oneCell') = true by rw [hF]; exact huff_flat_one huff_words)
      have HG := Aside0.mk hG
      clear hF hG
      go_upto_region 14 with (fail)
      rename_i Q' K hK
      refine wp_region_list ?_
      refine wpList_load_row rfl 68 _ rfl w.heap.size rfl 68 F (0, 0) _ HG.out Try.underlying68 rfl (by rw [HFs.out]; exact huff_code.size) ?_
      refine wpList_store_row rfl 68 _ _ rfl w.heap.size F rfl rfl 68 F HG.out (by rw [HFs.out]; exact huff_code.size) rfl HF1.out ?_
      have hb1 := setRow_heap _ w.heap.size _ F _ _ HG.out
      have hl := run_loadVar_row (P := Try.prog) _ w.heap.size 68 68 _ (0, 0) _ hb1 Try.underlying68 rfl (by rw [HFs.out]; exact huff_code.size)
      have hbe := man_below_setRow HB.out w.heap.size F (Nat.le_refl _)
      exact hK _ _ (wp_ret (bodyPost_ret (v := .agg F) (man_results_cell (Try.results44) rfl hl) rfl ⟨by rw [HF.out], hbe⟩))
    · go_upto_region 7 with (fail)
      rename_i K hK
      obtain ⟨X, CS, hin⟩ : ∃ X CS, huff_inner (31 - (k : Int)) huff_lens 0 (x * 2 % 4294967296) cs = (X, CS) := ⟨_, _, rfl⟩
      have HIN := Aside0.mk hin
      clear hin
      refine wp_region_list ?_
      refine wpList_load_row rfl 81 _ rfl B8 rfl 81 L (0, 0) _ HG8.out Try.underlying81 rfl (by rw [HLs.out]; exact huff_lengths.size) ?_
      go_wp2_with (fail)
      go_loopw [1, 14] (fun v1 v14 wr => ∃ (i : Nat) (x' : Int) (cs' : List (Int × Int)), i ≤ 257 ∧ v1 = .int .u32 x' ∧ v14 = .int .i64 i ∧ Aside0 (cs'.length = 257) ∧ Aside0 (huff_inner (31 - (k : Int)) (huff_lens.drop i) i x' cs' = (X, CS)) ∧ Aside0 (wr.heap[w.heap.size]? = some (.cells (huff_flat cs').toArray 68 (0, 0))) ∧ Aside0 (wr.heap[B8]? = some (.cells L 81 (0, 0))) ∧ Aside0 (Below w.heap.size w wr)) (fun _ v14 _ => 257 - (intOf v14).toNat)
      case atStart => exact ⟨0, _, cs, by omega, rfl, rfl, HCS, ⟨HIN.out⟩, HG, HG8, HB⟩
      case round =>
        obtain ⟨i, x', cs', hi, rfl, rfl, HCS, HI, HG, HG8, HB⟩ := hrel
        by_cases hi2 : i < 257
        · have hix := HIX.out i hi2
          have hdrop : huff_lens.drop i = rd huff_lens i :: huff_lens.drop (i + 1) := by
            rw [List.drop_eq_getElem_cons (by rw [huff_lens_length]; exact hi2)]
            simp [rd, List.getD_eq_getElem?_getD, List.getElem?_eq_getElem (show i < huff_lens.length by rw [huff_lens_length]; exact hi2)]
          have hI := HI.out
          rw [hdrop] at hI
          have HI2 := Aside0.mk hI
          clear hI hdrop HI
          obtain ⟨m, hm⟩ : ∃ m, rd huff_lens i = m := ⟨_, rfl⟩
          rw [hm] at hix HI2
          clear hm
          by_cases hmk : m = 31 - (k : Int)
          · have HI3 : huff_inner (31 - (k : Int)) (huff_lens.drop (i + 1)) (i + 1) ((x' + 1) % 4294967296) (cs'.set i (x', 31 - (k : Int))) = (X, CS) := by have := HI2.out; rwa [huff_inner, if_pos hmk] at this
            have HI4 := Aside0.mk HI3
            clear HI3 HI2
            subst hmk
            have hsz : i * 2 + 2 ≤ (huff_flat cs').toArray.size := by rw [List.size_toArray, huff_flat_length, HCS.out]; omega
            have HSZ := Aside0.mk hsz
            clear hsz
            go_wp2_with (refine wpList_store_mid rfl 67 _ _ rfl w.heap.size (i * 2) #[.int .u32 x', .int .u8 (31 - (k : Int))] rfl rfl (man_there HG.out (i * 2) 2 HSZ.out) huff_code.word (man_two_one _ _ _ _) ?_)
            go_roundw
            case rel => exact ⟨i + 1, _, cs'.set i (x', 31 - (k : Int)), by omega, rfl, by go_num, ⟨by rw [List.length_set]; exact HCS.out⟩, HI4, ⟨by rw [huff_flat_set, Nat.mul_comm]; exact man_setCells2 _ _ _ _ _ _ _ HG.out⟩, ⟨(man_setCells2_other _ _ _ _ _ _ _ HG.out _ (by omega)).trans HG8.out⟩, ⟨man_setCells2_below HB.out _ _ _ _ _ _ HG.out (Nat.le_refl _)⟩⟩
            case measure => simp [intOf]; omega
          · have HI3 : huff_inner (31 - (k : Int)) (huff_lens.drop (i + 1)) (i + 1) x' cs' = (X, CS) := by have := HI2.out; rwa [huff_inner, if_neg hmk] at this
            have HI4 := Aside0.mk HI3
            clear HI3
            have hmk0 : (m == 31 - (k : Int)) = false := beq_eq_false_iff_ne.mpr hmk
            go_wp2_with (fail)
            go_roundw
            case rel => exact ⟨i + 1, x', cs', by omega, rfl, by go_num, HCS, HI4, HG, HG8, HB⟩
            case measure => simp [intOf]; omega
        · obtain rfl : i = 257 := by omega
          have hI := HI.out
          rw [List.drop_eq_nil_of_le (by rw [huff_lens_length]; exact Nat.le_refl _)] at hI
          obtain ⟨rfl, rfl⟩ : x' = X ∧ cs' = CS := by simpa [huff_inner] using hI
          clear hI
          go_wp2_with (fail)
          go_roundw
          case rel => exact ⟨k - 1, x', cs', by omega, rfl, congrArg (Value.int .u8) (by omega), HCS, ⟨by have h1 := HO.out; rw [huff_outer_step k hk0, HIN.out] at h1; rw [show (31 : Int) - ((k - 1 : Nat) : Int) = 31 - (k : Int) + 1 by omega]; exact h1⟩, HG, HG8, HB⟩
          case measure => simp [intOf]; omega


end Go.Proofs.Ytmkmefdajbdceaa.PTX
