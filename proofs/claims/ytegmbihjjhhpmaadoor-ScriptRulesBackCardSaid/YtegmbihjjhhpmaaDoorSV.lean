/- A part of the walk of the laws of layer 26 (script): contracts of functions of the program, each walked once; and the plain law. -/
import Derived.Test.YtegmbihjjhhpmaaDoorSR
import Derived.Test.YtegmbihjjhhpmaaDoorSh
import Derived.Lib.ItoaLen
import Derived.IntWalk
import Derived.Great.Walk
import Derived.RangeFuncNested
import Derived.RangeFuncBound
import Derived.RangeFuncCalls
import Derived.RangeFuncLeaves
import Derived.RangeFuncBox
import Derived.OwnWalkIn
import Derived.TacticsInMore
import Derived.LoopNIn
import Derived.LoopIn
import Derived.Deep.DeepMust
import Derived.LoopN
import Derived.Laws.BitsAllLaws
import Derived.Maps.OwnIn
import Derived.Shelf.Abstract
import Derived.Sort.CutIn
import Derived.Shelf.RegionOpen
import Derived.StillTailTactics
import Derived.Great.BuildSlice
import Derived.Laws.Tables
import Derived.Lib.OthersKept
import Derived.Outline
import Derived.Deep.RegionHeld3
import Derived.Laws.StructEq
import Derived.Deep.RegionLaw
import Derived.Deep.RegionWith
import Derived.ArgAppend
import Derived.Test.YtegmbihjjhhpmaaDoorPSCx
namespace Go.Proofs.YtegmbihjjhhpmaaDoor.T
open Go.RowKit Go.Proofs.YtegmbihjjhhpmaaDoorW.PrintWords Go.Proofs.YtegmbihjjhhpmaaDoorW.PrintLast Go.Proofs.YtegmbihjjhhpmaaDoorW.PrintMore
open Go.Proofs.YtegmbihjjhhpmaaDoor.PSC
set_option linter.unusedVariables false
set_option linter.unusedSimpArgs false
/-! ### Text's function answers as the plain law; Text; RulesText -/
theorem sc_line_cases (x : S47) (r : ByteArray × Int × Bool × Bool) (hf : sc_rows.find? (fun r => decide (r.2.1 = x.f0)) = some r) :
    (sc_mayB r x = false → sc_lineR (sc_line x) = (sc_b [], 1)) ∧ (sc_mayB r x = true → sc_lineR (sc_line x) = (sc_b (r.1.data.toList ++ sc_tail (sc_ew r x).tail), 0)) := by
  have e : sc_line x = if sc_mayB r x = true then some (sc_b (r.1.data.toList ++ sc_tail (sc_ew r x).tail)) else none := by
    unfold sc_line sc_krow
    rw [hf]
  rw [e]
  constructor
  · intro h; rw [h]; rfl
  · intro h; rw [h]; rfl
theorem sc_mayB_len (r : ByteArray × Int × Bool × Bool) (x : S47) : sc_mayB r x = ((decide (x.f2.f0.length + x.f2.f1.length + x.f2.f2.length = 0) || decide (r.2.1 = 1)) && (decide (x.f1 = 0) || r.2.2.1) && (decide (x.f3.length = 0) || r.2.2.2)) := by
  have e1 : sc_none x.f2 = decide (x.f2.f0.length + x.f2.f1.length + x.f2.f2.length = 0) := by
    unfold sc_none
    cases x.f2.f0 <;> cases x.f2.f1 <;> cases x.f2.f2 <;> simp
  have e2 : x.f3.isEmpty = decide (x.f3.length = 0) := by cases x.f3 <;> simp
  unfold sc_mayB
  rw [e1, e2]
theorem script_line.calls (B4 : Nat) (x : S47) (w0 : World) (hT : ScTab w0) (hRK : w0.heap[B4]? = some (.cells sc_rowsC 54 (0, 0))) (hx : sc_smallE x) : LineAtE #[.pointer (some ⟨B4, 0, none⟩)] sc_line x w0 := by
  intro W A2 c2 A3 c3 A4 c4 A5 c5 hW ha
  obtain ⟨R, hR⟩ : ∃ R, sc_lineR (sc_line x) = R := ⟨_, rfl⟩
  rw [hR]
  rcases sc_idx_spec x.f0 sc_rows 0 with ⟨hi, hf⟩ | ⟨j, r, hi, hj, hf⟩
  · exact line_none B4 x W w0 A2 c2 A3 c3 A4 c4 A5 c5 hT hRK hx hW ha hi R (by rw [← hR]; unfold sc_line sc_krow; rw [hf]; rfl)
  · rw [Nat.zero_add] at hi
    have hk : x.f0 = r.2.1 := by have := List.find?_some hf; simp at this; exact this.symm
    obtain ⟨hbad, hgood⟩ := sc_line_cases x r hf
    have hm0 := sc_mayB_len r x
    obtain ⟨_, _, hkinds⟩ := sc_row_kinds j r hj
    rw [← hk] at hkinds hm0
    have ew : (sc_ew r x).tail = (if x.f0 = 1 then sc_mw x.f2 else []) ++ (if r.2.2.1 = true then [sc_b (Lib.itoa x.f1)] else []) ++ (if r.2.2.2 = true then [sc_hexB (sc_bytes x.f3)] else []) := by unfold sc_ew; rw [← hk]; rfl
    rw [ew] at hgood
    by_cases hm : 0 < x.f2.f0.length + x.f2.f1.length + x.f2.f2.length
    · have hmz : ¬ (x.f2.f0.length + x.f2.f1.length + x.f2.f2.length = 0) := by omega
      by_cases hk1 : x.f0 = 1
      · have hrn : r.2.2.1 = false := by rcases hkinds with h | h | h | h <;> simp_all
        have hrd : r.2.2.2 = false := by rcases hkinds with h | h | h | h <;> simp_all
        by_cases hn : x.f1 = 0
        · by_cases hd : x.f3.length = 0
          · refine line_good1 B4 x W w0 A2 c2 A3 c3 A4 c4 A5 c5 hT hRK hx hW ha j r hi hj hk hm hk1 hn hrn hd hrd R ?_
            rw [← hR, hgood (by rw [hm0, hrn, hrd]; simp [hk1, hn, hd]), hrn, hrd, if_pos hk1]
            refine Prod.ext (sc_data_inj ?_) rfl
            simp [sc_mw, sc_tail, sc_toldL, sc_b]
          · exact line_bad4 B4 x W w0 A2 c2 A3 c3 A4 c4 A5 c5 hT hRK hx hW ha j r hi hj hk hm hk1 hn (by omega) hrd R (by rw [← hR, hbad (by rw [hm0, hrd]; simp [hd])])
        · exact line_bad2 B4 x W w0 A2 c2 A3 c3 A4 c4 A5 c5 hT hRK hx hW ha j r hi hj hk hm hk1 hn hrn R (by rw [← hR, hbad (by rw [hm0, hrn]; simp [hn])])
      · exact line_bad1 B4 x W w0 A2 c2 A3 c3 A4 c4 A5 c5 hT hRK hx hW ha j r hi hj hk hm hk1 R (by rw [← hR, hbad (by rw [hm0, decide_eq_false hmz, decide_eq_false hk1]; rfl)])
    · have hmm : x.f2.f0.length = 0 ∧ x.f2.f1.length = 0 ∧ x.f2.f2.length = 0 := by omega
      have hmz : x.f2.f0.length + x.f2.f1.length + x.f2.f2.length = 0 := by omega
      by_cases hn : x.f1 = 0
      · by_cases hd : x.f3.length = 0
        · rcases hkinds with ⟨hk1, hrn, hrd⟩ | ⟨hk1, hrn, hrd⟩ | ⟨hk1, hrn, hrd⟩ | ⟨hk1, hrn, hrd⟩
          · refine line_good1z B4 x W w0 A2 c2 A3 c3 A4 c4 A5 c5 hT hRK hx hW ha j r hi hj hk hmm hk1 hn hrn hd hrd R ?_
            rw [← hR, hgood (by rw [hm0, hrn, hrd]; simp [hk1, hn, hd]), hrn, hrd, if_pos hk1]
            refine Prod.ext (sc_data_inj ?_) rfl
            simp [sc_mw, sc_tail, sc_toldL, sc_b]
          · refine line_good20 B4 x W w0 A2 c2 A3 c3 A4 c4 A5 c5 hT hRK hx hW ha j r hi hj hk hmm hk1 hn hrn hd hrd R ?_
            rw [← hR, hgood (by rw [hm0, hrn, hrd]; simp [hmz, hn, hd]), hrn, hrd, if_neg hk1]
            refine Prod.ext (sc_data_inj ?_) rfl
            simp [sc_tail, sc_b]
          · refine line_good3 B4 x W w0 A2 c2 A3 c3 A4 c4 A5 c5 hT hRK hx hW ha j r hi hj hk hmm hk1 hn hrn hd hrd R ?_
            rw [← hR, hgood (by rw [hm0, hrn, hrd]; simp [hmz, hn, hd]), hrn, hrd, if_neg hk1]
            refine Prod.ext (sc_data_inj ?_) rfl
            simp [sc_tail, sc_b]
          · refine line_good400 B4 x W w0 A2 c2 A3 c3 A4 c4 A5 c5 hT hRK hx hW ha j r hi hj hk hmm hk1 hn hrn hd hrd R ?_
            rw [← hR, hgood (by rw [hm0, hrn, hrd]; simp [hmz, hn, hd]), hrn, hrd, if_neg hk1]
            refine Prod.ext (sc_data_inj ?_) rfl
            simp [sc_tail, sc_b]
        · cases hrd : r.2.2.2 with
          | false => exact line_bad5 B4 x W w0 A2 c2 A3 c3 A4 c4 A5 c5 hT hRK hx hW ha j r hi hj hk hmm hn (by omega) hrd R (by rw [← hR, hbad (by rw [hm0, hrd]; simp [hd])])
          | true =>
            have hk1 : x.f0 ≠ 1 := by rcases hkinds with h | h | h | h <;> simp_all
            have hrn : r.2.2.1 = true := by rcases hkinds with h | h | h | h <;> simp_all
            refine line_good40D B4 x W w0 A2 c2 A3 c3 A4 c4 A5 c5 hT hRK hx hW ha j r hi hj hk hmm hk1 hn hrn (by omega) hrd R ?_
            rw [← hR, hgood (by rw [hm0, hrn, hrd]; simp [hmz]), hrn, hrd, if_neg hk1]
            refine Prod.ext (sc_data_inj ?_) rfl
            simp [sc_tail, sc_b]
      · cases hrn : r.2.2.1 with
        | false => exact line_bad3 B4 x W w0 A2 c2 A3 c3 A4 c4 A5 c5 hT hRK hx hW ha j r hi hj hk hmm hn hrn R (by rw [← hR, hbad (by rw [hm0, hrn]; simp [hn])])
        | true =>
          have hk1 : x.f0 ≠ 1 := by rcases hkinds with h | h | h | h <;> simp_all
          cases hrd : r.2.2.2 with
          | false =>
            by_cases hd : x.f3.length = 0
            · refine line_good2N B4 x W w0 A2 c2 A3 c3 A4 c4 A5 c5 hT hRK hx hW ha j r hi hj hk hmm hk1 hn hrn hd hrd R ?_
              rw [← hR, hgood (by rw [hm0, hrn, hrd]; simp [hmz, hd]), hrn, hrd, if_neg hk1]
              refine Prod.ext (sc_data_inj ?_) rfl
              simp [sc_tail, sc_b]
            · exact line_bad6 B4 x W w0 A2 c2 A3 c3 A4 c4 A5 c5 hT hRK hx hW ha j r hi hj hk hmm hn hrn (by omega) hrd R (by rw [← hR, hbad (by rw [hm0, hrd]; simp [hd])])
          | true =>
            by_cases hd : x.f3.length = 0
            · refine line_good4N0 B4 x W w0 A2 c2 A3 c3 A4 c4 A5 c5 hT hRK hx hW ha j r hi hj hk hmm hk1 hn hrn hd hrd R ?_
              rw [← hR, hgood (by rw [hm0, hrn, hrd]; simp [hmz]), hrn, hrd, if_neg hk1]
              refine Prod.ext (sc_data_inj ?_) rfl
              simp [sc_tail, sc_b]
            · refine line_good4ND B4 x W w0 A2 c2 A3 c3 A4 c4 A5 c5 hT hRK hx hW ha j r hi hj hk hmm hk1 hn hrn (by omega) hrd R ?_
              rw [← hR, hgood (by rw [hm0, hrn, hrd]; simp [hmz]), hrn, hrd, if_neg hk1]
              refine Prod.ext (sc_data_inj ?_) rfl
              simp [sc_tail, sc_b]
theorem sc_tail_app (a b : List ByteArray) : sc_tail (a ++ b) = sc_tail a ++ sc_tail b := by simp [sc_tail]
theorem sc_tail_if (b : Prop) [Decidable b] (l : List ByteArray) (n : Nat) (h : (sc_tail l).length ≤ n) : (sc_tail (if b then l else [])).length ≤ n := by
  split
  · exact h
  · simp [sc_tail]
theorem sc_tail_one (b : ByteArray) : (sc_tail [b]).length = 1 + b.size := by
  have e : b.data.toList.length = b.size := rfl
  simp only [sc_tail, List.flatMap_cons, List.flatMap_nil, List.append_nil, List.length_cons, e]
  omega
theorem sc_mw_len (m : S45) (h0 : sc_smallF m.f0) (h1 : m.f0.length ≤ 1000000) (h2 : m.f1.length ≤ 1000000) (h3 : sc_smallF m.f2) (h4 : m.f2.length ≤ 1000000) : (sc_tail (sc_mw m)).length ≤ 4001000000000 := by
  have e : sc_tail (sc_mw m) = sc_toldL sc_f m.f0 ++ sc_tail (sc_bw m.f1) ++ sc_toldL sc_t m.f2 := by unfold sc_mw; rw [sc_tail_app, sc_tail_app]; rfl
  have a1 := sc_toldL_len sc_f m.f0 h0 (by decide)
  have a2 := sc_bw_len m.f1
  have a3 := sc_toldL_len sc_t m.f2 h3 (by decide)
  rw [e]
  simp only [List.length_append]
  omega
theorem sc_line_size (x : S47) (hx : sc_smallE x) (s : ByteArray) (h : sc_line x = some s) : s.size ≤ 9000000000000 := by
  obtain ⟨s0, s1, s2, s3, s4, s5, s6⟩ := hx
  unfold sc_line at h
  cases hr : sc_krow x.f0 with
  | none => rw [hr] at h; cases h
  | some r =>
    rw [hr] at h
    simp only at h
    split at h
    · obtain rfl := Option.some.inj h
      have hmem : r ∈ sc_rows := List.mem_of_find?_eq_some hr
      obtain ⟨j, hj⟩ := List.mem_iff_getElem?.1 hmem
      have h8 := (sc_row_kinds j r hj).2.1
      have e1 : r.1.data.toList.length = r.1.size := rfl
      have e2 : (sc_ew r x).tail = (if r.2.1 = 1 then sc_mw x.f2 else []) ++ (if r.2.2.1 = true then [sc_b (Lib.itoa x.f1)] else []) ++ (if r.2.2.2 = true then [sc_hexB (sc_bytes x.f3)] else []) := rfl
      have k1 := sc_tail_if (r.2.1 = 1) (sc_mw x.f2) _ (sc_mw_len x.f2 s1 s2 s3 s4 s5)
      have k2 := sc_tail_if (r.2.2.1 = true) [sc_b (Lib.itoa x.f1)] 22 (by rw [sc_tail_one]; have := sc_itoa_len x.f1 s0; have e : (sc_b (Lib.itoa x.f1)).size = (Lib.itoa x.f1).length := rfl; omega)
      have k3 := sc_tail_if (r.2.2.2 = true) [sc_hexB (sc_bytes x.f3)] 2000010 (by rw [sc_tail_one]; have := sc_hexB_size (sc_bytes x.f3); have e : (sc_bytes x.f3).size = x.f3.length := by simp [sc_bytes, sc_b_size]
                                                                                   omega)
      rw [sc_b_size, List.length_append, e1, e2, sc_tail_app, sc_tail_app, List.length_append, List.length_append]
      omega
    · cases h
theorem sc_ruled_size (x : S51) (hx : sc_smallR x) (s : ByteArray) (h : sc_ruled x = some s) : s.size ≤ 9000000000000 := by
  obtain ⟨s0, s1, s2, s3, s4, s5⟩ := hx
  obtain rfl := Option.some.inj h
  have e2 : (sc_rw x).tail = [sc_hexB x.f0] ++ [sc_hexB x.f1] ++ [sc_b (Lib.itoa x.f2)] ++ sc_fw sc_f x.f3 ++ sc_bw x.f4 ++ (if x.f5 = true then [sc_echo] else []) := by unfold sc_rw; simp
  have k1 := sc_hexB_size x.f0
  have k2 := sc_hexB_size x.f1
  have k3 := sc_itoa_len x.f2 s2
  have e3 : (sc_b (Lib.itoa x.f2)).size = (Lib.itoa x.f2).length := rfl
  have k4 := sc_toldL_len sc_f x.f3 s3 (by decide)
  have k5 := sc_bw_len x.f4
  have k6 := sc_tail_if (x.f5 = true) [sc_echo] 5 (by decide)
  have e4 : sc_rule.data.toList.length = 4 := rfl
  have e5 : sc_tail (sc_fw sc_f x.f3) = sc_toldL sc_f x.f3 := rfl
  rw [sc_b_size, List.length_append, e4, e2]
  simp only [sc_tail_app, List.length_append, sc_tail_one, e5]
  omega
set_option maxHeartbeats 3200000 in
set_option maxRecDepth 100000 in
theorem script_Text.calls (A : Option Addr) (c : Nat) (l : List S47) (w : World) (hr : Kd.C k47 w A l.length l) (hc : l.length ≤ c) (hl : l.length ≤ 1000000) (hs : ∀ x ∈ l, sc_smallE x) (hT : ScTab w) :
    Calls Tryd.prog 8 #[.slice A l.length c] w fun e w' => e = .returned (.tuple #[.string (sc_b (sc_Text l).1), .int .i64 (sc_Text l).2]) ∧ Below w.heap.size w w' := by
  have HR := Aside0.mk hr
  have HS := Aside0.mk hs
  have HT := Aside0.mk hT
  clear hr hs hT
  obtain ⟨T, hTT⟩ : ∃ T, sc_Text l = T := ⟨_, rfl⟩
  rw [hTT]
  have HTT := Aside0.mk hTT
  clear hTT
  go_enter Tryd.func8, Tryd.ntmps8
  go_upto_region 2 with (fail)
  refine (script_rows.calls _).mono ?_
  rintro e w2 ⟨rfl, hz⟩
  have HZ := Aside0.mk hz
  clear hz
  rename_i K2 hK2
  refine hK2 _ _ ?_
  refine Great.wpList_allocTo rfl (some 4) rfl (.pointer (some ⟨w2.heap.size, 0, none⟩)) (.cells #[.string ⟨#[]⟩, .int .u8 0, .bool false, .bool false, .string ⟨#[]⟩, .int .u8 0, .bool false, .bool false, .string ⟨#[]⟩, .int .u8 0, .bool false, .bool false, .string ⟨#[]⟩, .int .u8 0, .bool false, .bool false, .string ⟨#[]⟩, .int .u8 0, .bool false, .bool false, .string ⟨#[]⟩, .int .u8 0, .bool false, .bool false, .string ⟨#[]⟩, .int .u8 0, .bool false, .bool false, .string ⟨#[]⟩, .int .u8 0, .bool false, .bool false, .string ⟨#[]⟩, .int .u8 0, .bool false, .bool false] 54) (by kernel_rfl) ?_
  refine wpList_store_rowTo rfl 54 _ _ rfl rfl w2.heap.size sc_rowsC (by kernel_rfl) (by kernel_rfl) 54 _ (heap_alloc_new _ _) (by rw [sc_rowsC_size]; exact sc_info54) (by rw [sc_rowsC_size]; rfl) (by kernel_rfl) ?_
  have hb1 := setRow_heap _ w2.heap.size _ sc_rowsC _ _ (heap_alloc_new w2 (.cells #[.string ⟨#[]⟩, .int .u8 0, .bool false, .bool false, .string ⟨#[]⟩, .int .u8 0, .bool false, .bool false, .string ⟨#[]⟩, .int .u8 0, .bool false, .bool false, .string ⟨#[]⟩, .int .u8 0, .bool false, .bool false, .string ⟨#[]⟩, .int .u8 0, .bool false, .bool false, .string ⟨#[]⟩, .int .u8 0, .bool false, .bool false, .string ⟨#[]⟩, .int .u8 0, .bool false, .bool false, .string ⟨#[]⟩, .int .u8 0, .bool false, .bool false, .string ⟨#[]⟩, .int .u8 0, .bool false, .bool false] 54))
  have hz1 : Below w.heap.size w ((w2.alloc (.cells #[.string ⟨#[]⟩, .int .u8 0, .bool false, .bool false, .string ⟨#[]⟩, .int .u8 0, .bool false, .bool false, .string ⟨#[]⟩, .int .u8 0, .bool false, .bool false, .string ⟨#[]⟩, .int .u8 0, .bool false, .bool false, .string ⟨#[]⟩, .int .u8 0, .bool false, .bool false, .string ⟨#[]⟩, .int .u8 0, .bool false, .bool false, .string ⟨#[]⟩, .int .u8 0, .bool false, .bool false, .string ⟨#[]⟩, .int .u8 0, .bool false, .bool false, .string ⟨#[]⟩, .int .u8 0, .bool false, .bool false] 54)).setRow w2.heap.size sc_rowsC) := by
    have h0 := HZ.out.size
    have hz2 := below_alloc HZ.out (.cells #[.string ⟨#[]⟩, .int .u8 0, .bool false, .bool false, .string ⟨#[]⟩, .int .u8 0, .bool false, .bool false, .string ⟨#[]⟩, .int .u8 0, .bool false, .bool false, .string ⟨#[]⟩, .int .u8 0, .bool false, .bool false, .string ⟨#[]⟩, .int .u8 0, .bool false, .bool false, .string ⟨#[]⟩, .int .u8 0, .bool false, .bool false, .string ⟨#[]⟩, .int .u8 0, .bool false, .bool false, .string ⟨#[]⟩, .int .u8 0, .bool false, .bool false, .string ⟨#[]⟩, .int .u8 0, .bool false, .bool false] 54)
    exact ⟨hz2.os, hz2.tape, hz2.output, by rw [setRow_size]; exact hz2.size, fun k hk => by rw [setRow_other _ _ _ _ (by omega)]; exact hz2.block k hk⟩
  obtain ⟨W4, hW4⟩ : ∃ W4, (w2.alloc (.cells #[.string ⟨#[]⟩, .int .u8 0, .bool false, .bool false, .string ⟨#[]⟩, .int .u8 0, .bool false, .bool false, .string ⟨#[]⟩, .int .u8 0, .bool false, .bool false, .string ⟨#[]⟩, .int .u8 0, .bool false, .bool false, .string ⟨#[]⟩, .int .u8 0, .bool false, .bool false, .string ⟨#[]⟩, .int .u8 0, .bool false, .bool false, .string ⟨#[]⟩, .int .u8 0, .bool false, .bool false, .string ⟨#[]⟩, .int .u8 0, .bool false, .bool false, .string ⟨#[]⟩, .int .u8 0, .bool false, .bool false] 54)).setRow w2.heap.size sc_rowsC = W4 := ⟨_, rfl⟩
  rw [hW4] at hb1 hz1 ⊢
  obtain ⟨B4, hB4⟩ : ∃ b, w2.heap.size = b := ⟨_, rfl⟩
  rw [hB4] at hb1 ⊢
  clear hW4 hB4
  have HRK := Aside0.mk hb1
  have HB4 := Aside0.mk hz1
  have HCALL := Aside0.mk (script_text_Event.calls B4 sc_line A c l W4 (Kd.C_below HR.out hz1) hc hl (fun x hx => script_line.calls B4 x W4 (HT.out.below hz1) hb1 (HS.out x hx)) (fun x hx s h => sc_line_size x (HS.out x hx) s h))
  clear hb1 hz1
  rename_i Q1 K1 hK1
  refine hK1 _ _ ?_
  go_wp2_with (go_at_call 25; refine HCALL.out.mono ?_; rintro e w6 ⟨rfl, hz⟩; have HB6 := Aside0.mk (below_step HB4.out hz); clear hz)
  go_ret2
  rw [← HTT.out]
  exact ⟨rfl, HB6.out⟩
set_option maxHeartbeats 3200000 in
set_option maxRecDepth 100000 in
theorem script_RulesText.calls (A : Option Addr) (c : Nat) (l : List S51) (w : World) (hr : Kd.C k51 w A l.length l) (hc : l.length ≤ c) (hl : l.length ≤ 1000000) (hs : ∀ x ∈ l, sc_smallR x) (hT : ScTab w) :
    Calls Tryd.prog 13 #[.slice A l.length c] w fun e w' => e = .returned (.tuple #[.string (sc_b (sc_RulesText l).1), .int .i64 (sc_RulesText l).2]) ∧ Below w.heap.size w w' := by
  have HCALL := Aside0.mk (script_text_Rule.calls () sc_ruled A c l w hr hc hl (fun x hx => script_ruled.calls x w hT (hs x hx)) (fun x hx s h => sc_ruled_size x (hs x hx) s h))
  clear hr hs hT
  obtain ⟨T, hTT⟩ : ∃ T, sc_RulesText l = T := ⟨_, rfl⟩
  rw [hTT]
  have HTT := Aside0.mk hTT
  clear hTT
  go_enter Tryd.func13, Tryd.ntmps13
  go_wp2_with (go_at_call 30; refine HCALL.out.mono ?_; rintro e w6 ⟨rfl, hz⟩; have HB6 := Aside0.mk hz; clear hz)
  go_ret2
  rw [← HTT.out]
  exact ⟨rfl, HB6.out⟩
end Go.Proofs.YtegmbihjjhhpmaaDoor.T
namespace Go.Proofs.YtegmbihjjhhpmaaDoor.T
open Go.RowKit Go.Proofs.YtegmbihjjhhpmaaDoorW.PrintWords Go.Proofs.YtegmbihjjhhpmaaDoorW.PrintLast Go.Proofs.YtegmbihjjhhpmaaDoorW.PrintMore
open Go.Proofs.YtegmbihjjhhpmaaDoor.PSC
set_option linter.unusedVariables false
set_option linter.unusedSimpArgs false
/-! ### Parse; Rules -/
set_option maxHeartbeats 3200000 in
set_option maxRecDepth 100000 in
theorem script_Parse.calls (s : ByteArray) (w : World) (hs : s.size ≤ 4294967000) (hT : ScTab w) :
    Calls Tryd.prog 9 #[.string s] w fun e w' => (∃ A c, e = .returned (.tuple #[.slice A (sc_Parse s).1.length (sc_Parse s).1.length, .int .i64 (sc_Parse s).2.1, .int .i64 (sc_Parse s).2.2]) ∧ OutAt EvAt 47 w' w.heap.size (.slice A (sc_Parse s).1.length c) (sc_Parse s).1) ∧ Below w.heap.size w w' := by
  have HCALL := Aside0.mk (script_lines_Event.calls s w hs hT)
  obtain ⟨T, hTT⟩ : ∃ T, sc_Parse s = T := ⟨_, rfl⟩
  have HTT := Aside0.mk hTT
  unfold sc_Parse at hTT
  rw [hTT] at HCALL
  rw [HTT.out]
  clear hTT hT
  go_enter Tryd.func9, Tryd.ntmps9
  go_wp2_with (go_at_call 26; refine HCALL.out.mono ?_; rintro e w6 ⟨⟨A4, c4, rfl, ho⟩, hz⟩; have HO := Aside0.mk ho; have HB6 := Aside0.mk hz; clear hz ho)
  go_ret3
  first | exact ⟨⟨A4, c4, rfl, HO.out⟩, HB6.out⟩ | exact ⟨⟨A4, rfl, c4, HO.out⟩, HB6.out⟩
set_option maxHeartbeats 3200000 in
set_option maxRecDepth 100000 in
theorem script_Rules.calls (s : ByteArray) (w : World) (hs : s.size ≤ 4294967000) (hT : ScTab w) :
    Calls Tryd.prog 14 #[.string s] w fun e w' => (∃ A c, e = .returned (.tuple #[.slice A (sc_Rules s).1.length (sc_Rules s).1.length, .int .i64 (sc_Rules s).2.1, .int .i64 (sc_Rules s).2.2]) ∧ OutAt RuAt 51 w' w.heap.size (.slice A (sc_Rules s).1.length c) (sc_Rules s).1) ∧ Below w.heap.size w w' := by
  have HCALL := Aside0.mk (script_lines_Rule.calls s w hs hT)
  obtain ⟨T, hTT⟩ : ∃ T, sc_Rules s = T := ⟨_, rfl⟩
  have HTT := Aside0.mk hTT
  unfold sc_Rules at hTT
  rw [hTT] at HCALL
  rw [HTT.out]
  clear hTT hT
  go_enter Tryd.func14, Tryd.ntmps14
  go_wp2_with (go_at_call 32; refine HCALL.out.mono ?_; rintro e w6 ⟨⟨A4, c4, rfl, ho⟩, hz⟩; have HO := Aside0.mk ho; have HB6 := Aside0.mk hz; clear hz ho)
  go_ret3
  first | exact ⟨⟨A4, c4, rfl, HO.out⟩, HB6.out⟩ | exact ⟨⟨A4, rfl, c4, HO.out⟩, HB6.out⟩
theorem sc_kd_ev : k47.sz = 6 := rfl
theorem sc_kd_ru : k51.sz = 6 := rfl
theorem sc_out_ev {w : World} {base c : Nat} {A : Option Addr} {l : List S47} (h : OutAt EvAt 47 w base (.slice A l.length c) l) : Kd.C k47 w A l.length l := OutAt.reads (At := EvAt) rfl (fun _ _ _ _ _ h => EvAt.K h) h
theorem sc_out_ru {w : World} {base c : Nat} {A : Option Addr} {l : List S51} (h : OutAt RuAt 51 w base (.slice A l.length c) l) : Kd.C k51 w A l.length l := OutAt.reads (At := RuAt) rfl (fun _ _ _ _ _ h => RuAt.K h) h
end Go.Proofs.YtegmbihjjhhpmaaDoor.T
namespace Go.Proofs.YtegmbihjjhhpmaaDoor.T
open Go.RowKit Go.Proofs.YtegmbihjjhhpmaaDoorW.PrintWords Go.Proofs.YtegmbihjjhhpmaaDoorW.PrintLast Go.Proofs.YtegmbihjjhhpmaaDoorW.PrintMore
open Go.Proofs.YtegmbihjjhhpmaaDoor.PSC
set_option linter.unusedVariables false
set_option linter.unusedSimpArgs false
/-! ### sizes, and likeness, of events and rules: plain Lean -/
theorem w64 (n : Int) (h0 : -9223372036854775808 ≤ n) (h1 : n ≤ 9223372036854775807) : wrap64 n = n := by unfold wrap64; omega

def msg_sum (l : List S49) : Nat := (l.map fun x => x.f0.size + x.f1.size).sum
theorem msg_rd_drop (l : List S49) (k : Nat) (h : k < l.length) : l.drop k = rd_T49 l (k : Int) :: l.drop (k + 1) := by
  rw [List.drop_eq_getElem_cons h]
  simp [rd_T49, List.getD_eq_getElem?_getD, List.getElem?_eq_getElem h]
theorem rule_rd_drop (l : List S51) (k : Nat) (h : k < l.length) : l.drop k = rd_T51 l (k : Int) :: l.drop (k + 1) := by
  rw [List.drop_eq_getElem_cons h]
  simp [rd_T51, List.getD_eq_getElem?_getD, List.getElem?_eq_getElem h]
theorem event_rd_drop (l : List S47) (k : Nat) (h : k < l.length) : l.drop k = rd_T47 l (k : Int) :: l.drop (k + 1) := by
  rw [List.drop_eq_getElem_cons h]
  simp [rd_T47, List.getD_eq_getElem?_getD, List.getElem?_eq_getElem h]
theorem msg_sum_mem (l : List S49) (n : Nat) (h : msg_sum l ≤ n) : ∀ f ∈ l, f.f0.size + f.f1.size ≤ n := by
  induction l with
  | nil => intro f hf; cases hf
  | cons x l ih =>
    have e : msg_sum (x :: l) = x.f0.size + x.f1.size + msg_sum l := by simp [msg_sum]
    rw [e] at h
    intro f hf
    rcases List.mem_cons.1 hf with rfl | hf
    · omega
    · exact ih (by omega) f hf
def strF (l : List S49) : Prop := ∀ x ∈ l, x.f0.size ≤ 140737488355328 ∧ x.f1.size ≤ 140737488355328
theorem sz_sum (l : List S49) (i : Nat) (h : i < l.length) : msg_sum (l.drop i) = (rd_T49 l (i : Int)).f0.size + (rd_T49 l (i : Int)).f1.size + msg_sum (l.drop (i + 1)) := by
  conv => lhs; rw [msg_rd_drop l i h]
  simp [msg_sum]
theorem sz_at {α : Type} {p : α → Prop} {l : List α} {z : α} (hs : ∀ x ∈ l, p x) (i : Nat) (h : i < l.length) : p (l.getD i z) := by
  rw [List.getD_eq_getElem?_getD, List.getElem?_eq_getElem h]
  exact hs _ (List.getElem_mem h)
theorem sz_go (l : List S49) (hs : strF l) (hl : l.length ≤ 140737488355328) : ∀ (d k i : Nat) (x : Int), i + d = l.length → d < k → 0 ≤ x → x ≤ 1125899906842624 →
    ∃ r, mailcoachlaw01_FieldsSize.l0 k l x (i : Int) = some r ∧ 0 ≤ r ∧ r ≤ 1125899906842624 ∧ (r ≤ 1048576 → r = x + (msg_sum (l.drop i) : Nat)) := by
  intro d
  induction d with
  | zero =>
    intro k i x hi hk h0 h1
    obtain ⟨k, rfl⟩ : ∃ k', k = k' + 1 := ⟨k - 1, by omega⟩
    rw [mailcoachlaw01_FieldsSize.l0, if_neg (by omega)]
    refine ⟨x, rfl, h0, h1, fun _ => ?_⟩
    rw [List.drop_eq_nil_of_le (by omega)]
    simp [msg_sum]
  | succ d ih =>
    intro k i x hi hk h0 h1
    obtain ⟨k, rfl⟩ : ∃ k', k = k' + 1 := ⟨k - 1, by omega⟩
    rw [mailcoachlaw01_FieldsSize.l0, if_pos (by omega)]
    by_cases hx : x ≤ 1048576
    · rw [if_pos hx, if_pos (by omega)]
      have hb : (rd_T49 l (i : Int)).f0.size ≤ 140737488355328 ∧ (rd_T49 l (i : Int)).f1.size ≤ 140737488355328 := sz_at (p := fun x : S49 => x.f0.size ≤ 140737488355328 ∧ x.f1.size ≤ 140737488355328) hs i (by omega)
      rw [w64 (x + _) (by omega) (by omega), w64 (_ + _) (by omega) (by omega), w64 ((i : Int) + 1) (by omega) (by omega)]
      obtain ⟨r, hr, r0, r1, hr2⟩ := ih k (i + 1) (x + ((rd_T49 l (i : Int)).f0.size : Int) + ((rd_T49 l (i : Int)).f1.size : Int)) (by omega) (by omega) (by omega) (by omega)
      rw [Int.natCast_add] at hr
      refine ⟨r, hr, r0, r1, fun h => ?_⟩
      rw [hr2 h, sz_sum l i (by omega)]
      push_cast
      omega
    · rw [if_neg hx]
      exact ⟨x, rfl, h0, h1, fun h => absurd h hx⟩
theorem sz_fields (l : List S49) (k : Nat) (hs : strF l) (hl : l.length ≤ 140737488355328) (hk : l.length < k) :
    ∃ r, mailcoachlaw01_FieldsSize.f k l = some r ∧ 0 ≤ r ∧ r ≤ 1125899906842624 ∧ (r ≤ 1048576 → r = l.length + (msg_sum l : Nat)) := by
  have h := sz_go l hs hl l.length k 0 (l.length : Int) (by omega) hk (by omega) (by omega)
  rw [List.drop_zero] at h
  exact h

theorem sz_message (l0 : List S49) (l1 : List Int) (l2 : List S49) (k : Nat) (s0 : strF l0) (s2 : strF l2) (n0 : l0.length ≤ 140737488355328) (n1 : l1.length ≤ 140737488355328) (n2 : l2.length ≤ 140737488355328) (hk0 : l0.length < k) (hk2 : l2.length + 1 < k) :
    ∃ r, mailcoachlaw01_MessageSize.f k l0 l1 l2 = some r ∧ 0 ≤ r ∧ r ≤ 2814749767106560 ∧ (r ≤ 1048576 → (l0.length : Int) + (msg_sum l0 : Nat) + l1.length + l2.length + (msg_sum l2 : Nat) ≤ r) := by
  obtain ⟨a, ha, a0, a1, a2⟩ := sz_fields l0 k s0 n0 hk0
  obtain ⟨k, rfl⟩ : ∃ k', k = k' + 1 := ⟨k - 1, by omega⟩
  obtain ⟨b, hb, b0, b1, b2⟩ := sz_fields l2 k s2 n2 (by omega)
  unfold mailcoachlaw01_MessageSize.f
  rw [if_pos (by decide), ha, Option.bind_some, w64 (1 + a) (by omega) (by omega), mailcoachlaw01_MessageSize.j0]
  by_cases h1 : 1 + a ≤ 1048576
  · rw [if_pos h1]
    unfold mailcoachlaw01_BytesSize.f
    rw [Option.bind_some, w64 (1 + a + _) (by omega) (by omega)]
    by_cases h2 : 1 + a + (l1.length : Int) ≤ 1048576
    · rw [if_pos h2, hb, Option.bind_some, w64 _ (by omega) (by omega)]
      refine ⟨_, rfl, by omega, by omega, fun h => ?_⟩
      have e1 := a2 (by omega)
      have e2 := b2 (by omega)
      omega
    · rw [if_neg h2]
      exact ⟨_, rfl, by omega, by omega, fun h => absurd h h2⟩
  · rw [if_neg h1]
    exact ⟨_, rfl, by omega, by omega, fun h => absurd h h1⟩

def strE (x : S47) : Prop := strF x.f2.f0 ∧ x.f2.f0.length ≤ 140737488355328 ∧ x.f2.f1.length ≤ 140737488355328 ∧ strF x.f2.f2 ∧ x.f2.f2.length ≤ 140737488355328 ∧ x.f3.length ≤ 140737488355328
def szE (x : S47) (r : Int) : Prop := (x.f2.f0.length : Int) + (msg_sum x.f2.f0 : Nat) + x.f2.f1.length + x.f2.f2.length + (msg_sum x.f2.f2 : Nat) + x.f3.length ≤ r
theorem sz_event (x : S47) (k : Nat) (hs : strE x) (hk0 : x.f2.f0.length < k) (hk2 : x.f2.f2.length + 1 < k) :
    ∃ r, mailcoachlaw01_EventSize.f k x.f0 x.f1 x.f2.f0 x.f2.f1 x.f2.f2 x.f3 = some r ∧ 0 ≤ r ∧ r ≤ 3377699720527873 ∧ (r ≤ 1048576 → szE x r) := by
  obtain ⟨s0, n0, n1, s2, n2, n3⟩ := hs
  obtain ⟨a, ha, a0, a1, a2⟩ := sz_message x.f2.f0 x.f2.f1 x.f2.f2 k s0 s2 n0 n1 n2 hk0 hk2
  unfold mailcoachlaw01_EventSize.f mailcoachlaw01_BytesSize.f szE
  rw [if_pos (by decide), ha]
  simp only [Option.bind_some]
  rw [w64 (1 + a) (by omega) (by omega), w64 (1 + a + _) (by omega) (by omega)]
  by_cases h1 : 1 + a ≤ 1048576
  · rw [if_pos h1]
    refine ⟨_, rfl, by omega, by omega, fun h => ?_⟩
    have e1 := a2 (by omega)
    omega
  · rw [if_neg h1]
    exact ⟨_, rfl, by omega, by omega, fun h => absurd h h1⟩

def strR (x : S51) : Prop := x.f0.size ≤ 140737488355328 ∧ x.f1.size ≤ 140737488355328 ∧ strF x.f3 ∧ x.f3.length ≤ 140737488355328 ∧ x.f4.length ≤ 140737488355328
theorem sz_rule (x : S51) (k : Nat) (hs : strR x) (hk : x.f3.length < k) :
    ∃ r, mailcoachlaw01_RuleSize.f k x.f0 x.f1 x.f2 x.f3 x.f4 x.f5 = some r ∧ 0 ≤ r ∧ r ≤ 2251799813685248 ∧ (r ≤ 1048576 → (x.f0.size : Int) + x.f1.size + x.f3.length + (msg_sum x.f3 : Nat) + x.f4.length ≤ r) := by
  obtain ⟨s0, s1, s3, n3, n4⟩ := hs
  obtain ⟨a, ha, a0, a1, a2⟩ := sz_fields x.f3 k s3 n3 hk
  unfold mailcoachlaw01_RuleSize.f mailcoachlaw01_BytesSize.f
  rw [w64 (1 + _) (by omega) (by omega), w64 (1 + _ + _) (by omega) (by omega), ha]
  simp only [Option.bind_some]
  rw [w64 (1 + _ + _ + a) (by omega) (by omega), w64 (1 + _ + _ + a + _) (by omega) (by omega)]
  by_cases h1 : 1 + (x.f0.size : Int) + (x.f1.size : Int) ≤ 1048576
  · rw [if_pos h1]
    by_cases h2 : 1 + (x.f0.size : Int) + (x.f1.size : Int) + a ≤ 1048576
    · rw [if_pos h2]
      refine ⟨_, rfl, by omega, by omega, fun h => ?_⟩
      have e1 := a2 (by omega)
      omega
    · rw [if_neg h2]
      exact ⟨_, rfl, by omega, by omega, fun h => absurd h h2⟩
  · rw [if_neg h1]
    exact ⟨_, rfl, by omega, by omega, fun h => absurd h h1⟩
theorem sz_rules_go (l : List S51) (K : Nat) (hs : ∀ x ∈ l, strR x ∧ x.f3.length < K) (hl : l.length ≤ 140737488355328) : ∀ (d k i : Nat) (x : Int), i + d = l.length → d + K < k → 0 ≤ x → x ≤ 4503599627370496 →
    ∃ r, mailcoachlaw01_RulesSize.l0 k l x (i : Int) = some r ∧ x ≤ r ∧ (r ≤ 1048576 → ∀ y ∈ l.drop i, (y.f0.size : Int) + y.f1.size + y.f3.length + (msg_sum y.f3 : Nat) + y.f4.length ≤ r) := by
  intro d
  induction d with
  | zero =>
    intro k i x hi hk h0 h1
    obtain ⟨k, rfl⟩ : ∃ k', k = k' + 1 := ⟨k - 1, by omega⟩
    rw [mailcoachlaw01_RulesSize.l0, if_neg (by omega)]
    refine ⟨x, rfl, Int.le_refl _, fun _ y hy => ?_⟩
    rw [List.drop_eq_nil_of_le (by omega)] at hy
    cases hy
  | succ d ih =>
    intro k i x hi hk h0 h1
    obtain ⟨k, rfl⟩ : ∃ k', k = k' + 1 := ⟨k - 1, by omega⟩
    rw [mailcoachlaw01_RulesSize.l0, if_pos (by omega)]
    by_cases hx : x ≤ 1048576
    · rw [if_pos hx, if_pos (by omega)]
      have hb : strR (rd_T51 l (i : Int)) ∧ (rd_T51 l (i : Int)).f3.length < K := sz_at (p := fun x : S51 => strR x ∧ x.f3.length < K) hs i (by omega)
      obtain ⟨t, ht, t0, t1, t2⟩ := sz_rule _ k hb.1 (by omega)
      rw [ht, Option.bind_some, w64 (x + t) (by omega) (by omega), w64 ((i : Int) + 1) (by omega) (by omega)]
      obtain ⟨r, hr, r0, hr2⟩ := ih k (i + 1) (x + t) (by omega) (by omega) (by omega) (by omega)
      rw [Int.natCast_add] at hr
      refine ⟨r, hr, by omega, fun h y hy => ?_⟩
      rw [rule_rd_drop l i (by omega)] at hy
      rcases List.mem_cons.1 hy with rfl | hy
      · have := t2 (by omega)
        omega
      · exact hr2 h y hy
    · rw [if_neg hx]
      exact ⟨x, rfl, Int.le_refl _, fun h => absurd h hx⟩
theorem sz_rules (l : List S51) (K k : Nat) (hs : ∀ x ∈ l, strR x ∧ x.f3.length < K) (hl : l.length ≤ 140737488355328) (hk : l.length + K < k) :
    ∃ r, mailcoachlaw01_RulesSize.f k l = some r ∧ (r ≤ 1048576 → ∀ y ∈ l, (y.f0.size : Int) + y.f1.size + y.f3.length + (msg_sum y.f3 : Nat) + y.f4.length ≤ r) := by
  obtain ⟨r, hr, _, h⟩ := sz_rules_go l K hs hl l.length k 0 (l.length : Int) (by omega) hk (by omega) (by omega)
  exact ⟨r, hr, fun h2 y hy => h h2 y (by simpa using hy)⟩

theorem sz_events_go (l : List S47) (K : Nat) (hs : ∀ x ∈ l, strE x ∧ (x.f2.f0.length < K ∧ x.f2.f2.length + 1 < K)) (hl : l.length ≤ 140737488355328) : ∀ (d k i : Nat) (x : Int), i + d = l.length → d + K < k → 0 ≤ x → x ≤ 4503599627370496 →
    ∃ r, mailcoachlaw01_EventsSize.l0 k l x (i : Int) = some r ∧ x ≤ r ∧ (r ≤ 1048576 → ∀ y ∈ l.drop i, szE y r) := by
  intro d
  induction d with
  | zero =>
    intro k i x hi hk h0 h1
    obtain ⟨k, rfl⟩ : ∃ k', k = k' + 1 := ⟨k - 1, by omega⟩
    rw [mailcoachlaw01_EventsSize.l0, if_neg (by omega)]
    refine ⟨x, rfl, Int.le_refl _, fun _ y hy => ?_⟩
    rw [List.drop_eq_nil_of_le (by omega)] at hy
    cases hy
  | succ d ih =>
    intro k i x hi hk h0 h1
    obtain ⟨k, rfl⟩ : ∃ k', k = k' + 1 := ⟨k - 1, by omega⟩
    rw [mailcoachlaw01_EventsSize.l0, if_pos (by omega)]
    by_cases hx : x ≤ 1048576
    · rw [if_pos hx, if_pos (by omega)]
      have hb : strE (rd_T47 l (i : Int)) ∧ ((rd_T47 l (i : Int)).f2.f0.length < K ∧ (rd_T47 l (i : Int)).f2.f2.length + 1 < K) := sz_at (p := fun x : S47 => strE x ∧ (x.f2.f0.length < K ∧ x.f2.f2.length + 1 < K)) hs i (by omega)
      obtain ⟨t, ht, t0, t1, t2⟩ := sz_event _ k hb.1 (by omega) (by omega)
      rw [ht, Option.bind_some, w64 (x + t) (by omega) (by omega), w64 ((i : Int) + 1) (by omega) (by omega)]
      obtain ⟨r, hr, r0, hr2⟩ := ih k (i + 1) (x + t) (by omega) (by omega) (by omega) (by omega)
      rw [Int.natCast_add] at hr
      refine ⟨r, hr, by omega, fun h y hy => ?_⟩
      rw [event_rd_drop l i (by omega)] at hy
      rcases List.mem_cons.1 hy with rfl | hy
      · have := t2 (by omega)
        unfold szE at this ⊢
        omega
      · exact hr2 h y hy
    · rw [if_neg hx]
      exact ⟨x, rfl, Int.le_refl _, fun h => absurd h hx⟩
theorem sz_events (l : List S47) (K k : Nat) (hs : ∀ x ∈ l, strE x ∧ (x.f2.f0.length < K ∧ x.f2.f2.length + 1 < K)) (hl : l.length ≤ 140737488355328) (hk : l.length + K < k) :
    ∃ r, mailcoachlaw01_EventsSize.f k l = some r ∧ (r ≤ 1048576 → ∀ y ∈ l, szE y r) := by
  obtain ⟨r, hr, _, h⟩ := sz_events_go l K hs hl l.length k 0 (l.length : Int) (by omega) hk (by omega) (by omega)
  exact ⟨r, hr, fun h2 y hy => h h2 y (by simpa using hy)⟩

theorem sm_fields_go (l : List S49) (hl : l.length ≤ 140737488355328) : ∀ (d k i : Nat), i + d = l.length → d < k → mailcoachlaw01_SameFields.l0 k l l (i : Int) = some true := by
  intro d
  induction d with
  | zero =>
    intro k i hi hk
    obtain ⟨k, rfl⟩ : ∃ k', k = k' + 1 := ⟨k - 1, by omega⟩
    rw [mailcoachlaw01_SameFields.l0, if_neg (by omega)]
  | succ d ih =>
    intro k i hi hk
    obtain ⟨k, rfl⟩ : ∃ k', k = k' + 1 := ⟨k - 1, by omega⟩
    rw [mailcoachlaw01_SameFields.l0, if_pos (by omega), if_pos (by omega), if_pos (by omega), if_neg (by simp), w64 ((i : Int) + 1) (by omega) (by omega)]
    have := ih k (i + 1) (by omega) (by omega)
    rw [Int.natCast_add] at this
    exact this
theorem sm_bytes_go (l : List Int) (hl : l.length ≤ 140737488355328) : ∀ (d k i : Nat), i + d = l.length → d < k → mailcoachlaw01_SameBytes.l0 k l l (i : Int) = some true := by
  intro d
  induction d with
  | zero =>
    intro k i hi hk
    obtain ⟨k, rfl⟩ : ∃ k', k = k' + 1 := ⟨k - 1, by omega⟩
    rw [mailcoachlaw01_SameBytes.l0, if_neg (by omega)]
  | succ d ih =>
    intro k i hi hk
    obtain ⟨k, rfl⟩ : ∃ k', k = k' + 1 := ⟨k - 1, by omega⟩
    rw [mailcoachlaw01_SameBytes.l0, if_pos (by omega), if_pos (by omega), if_pos (by omega), if_pos rfl, w64 ((i : Int) + 1) (by omega) (by omega)]
    have := ih k (i + 1) (by omega) (by omega)
    rw [Int.natCast_add] at this
    exact this

theorem sm_fields (l : List S49) (k : Nat) (n : l.length ≤ 140737488355328) (h : l.length < k) : mailcoachlaw01_SameFields.f k l l = some true := by
  unfold mailcoachlaw01_SameFields.f
  rw [if_pos rfl]
  exact sm_fields_go l n l.length k 0 (by omega) h
theorem sm_bytes (l : List Int) (k : Nat) (n : l.length ≤ 140737488355328) (h : l.length < k) : mailcoachlaw01_SameBytes.f k l l = some true := by
  unfold mailcoachlaw01_SameBytes.f
  rw [if_pos rfl]
  exact sm_bytes_go l n l.length k 0 (by omega) h
theorem sm_event (x : S47) (k : Nat) (hs : strE x) (h : x.f2.f0.length < k ∧ x.f2.f1.length < k ∧ x.f2.f2.length < k ∧ x.f3.length < k) : mailcoachlaw01_SameEvent.f k x.f0 x.f1 x.f2.f0 x.f2.f1 x.f2.f2 x.f3 x.f0 x.f1 x.f2.f0 x.f2.f1 x.f2.f2 x.f3 = some true := by
  obtain ⟨s0, n0, n1, s2, n2, n3⟩ := hs
  unfold mailcoachlaw01_SameEvent.f mailcoachlaw01_SameMessage.f
  rw [if_pos rfl, if_pos rfl, sm_fields _ k n0 h.1, sm_bytes _ k n1 h.2.1, sm_fields _ k n2 h.2.2.1, sm_bytes _ k n3 h.2.2.2]
  rfl
theorem sm_rule (x : S51) (k : Nat) (hs : strR x) (h : x.f3.length < k ∧ x.f4.length < k) : mailcoachlaw01_SameRule.f k x.f0 x.f1 x.f2 x.f3 x.f4 x.f5 x.f0 x.f1 x.f2 x.f3 x.f4 x.f5 = some true := by
  obtain ⟨s0, s1, s3, n3, n4⟩ := hs
  unfold mailcoachlaw01_SameRule.f
  rw [if_pos rfl, if_pos rfl, if_pos rfl, sm_fields _ k n3 h.1, sm_bytes _ k n4 h.2]
  simp

theorem sm_events_go (l : List S47) (K : Nat) (hs : ∀ x ∈ l, strE x ∧ (x.f2.f0.length < K ∧ x.f2.f1.length < K ∧ x.f2.f2.length < K ∧ x.f3.length < K)) (hl : l.length ≤ 140737488355328) : ∀ (d k i : Nat), i + d = l.length → d + K < k → mailcoachlaw01_SameEvents.l0 k l l (i : Int) = some true := by
  intro d
  induction d with
  | zero =>
    intro k i hi hk
    obtain ⟨k, rfl⟩ : ∃ k', k = k' + 1 := ⟨k - 1, by omega⟩
    rw [mailcoachlaw01_SameEvents.l0, if_neg (by omega)]
  | succ d ih =>
    intro k i hi hk
    obtain ⟨k, rfl⟩ : ∃ k', k = k' + 1 := ⟨k - 1, by omega⟩
    have hb := sz_at (z := z47) (p := fun x : S47 => strE x ∧ (x.f2.f0.length < K ∧ x.f2.f1.length < K ∧ x.f2.f2.length < K ∧ x.f3.length < K)) hs i (by omega)
    rw [mailcoachlaw01_SameEvents.l0, if_pos (by omega), if_pos (by omega), if_pos (by omega), sm_event (rd_T47 l (i : Int)) k hb.1 (by have h2 := hb.2; simp only [rd_T47, Int.toNat_natCast]; omega), Option.bind_some, if_pos rfl, w64 ((i : Int) + 1) (by omega) (by omega)]
    have := ih k (i + 1) (by omega) (by omega)
    rw [Int.natCast_add] at this
    exact this
theorem sm_events (l : List S47) (K k : Nat) (hs : ∀ x ∈ l, strE x ∧ (x.f2.f0.length < K ∧ x.f2.f1.length < K ∧ x.f2.f2.length < K ∧ x.f3.length < K)) (hl : l.length ≤ 140737488355328) (hk : l.length + K < k) : mailcoachlaw01_SameEvents.f k l l = some true := by
  unfold mailcoachlaw01_SameEvents.f
  rw [if_pos rfl]
  exact sm_events_go l K hs hl l.length k 0 (by omega) hk

theorem sm_rules_go (l : List S51) (K : Nat) (hs : ∀ x ∈ l, strR x ∧ (x.f3.length < K ∧ x.f4.length < K)) (hl : l.length ≤ 140737488355328) : ∀ (d k i : Nat), i + d = l.length → d + K < k → mailcoachlaw01_SameRules.l0 k l l (i : Int) = some true := by
  intro d
  induction d with
  | zero =>
    intro k i hi hk
    obtain ⟨k, rfl⟩ : ∃ k', k = k' + 1 := ⟨k - 1, by omega⟩
    rw [mailcoachlaw01_SameRules.l0, if_neg (by omega)]
  | succ d ih =>
    intro k i hi hk
    obtain ⟨k, rfl⟩ : ∃ k', k = k' + 1 := ⟨k - 1, by omega⟩
    have hb := sz_at (z := z51) (p := fun x : S51 => strR x ∧ (x.f3.length < K ∧ x.f4.length < K)) hs i (by omega)
    rw [mailcoachlaw01_SameRules.l0, if_pos (by omega), if_pos (by omega), if_pos (by omega), sm_rule (rd_T51 l (i : Int)) k hb.1 (by have h2 := hb.2; simp only [rd_T51, Int.toNat_natCast]; omega), Option.bind_some, if_pos rfl, w64 ((i : Int) + 1) (by omega) (by omega)]
    have := ih k (i + 1) (by omega) (by omega)
    rw [Int.natCast_add] at this
    exact this
theorem sm_rules (l : List S51) (K k : Nat) (hs : ∀ x ∈ l, strR x ∧ (x.f3.length < K ∧ x.f4.length < K)) (hl : l.length ≤ 140737488355328) (hk : l.length + K < k) : mailcoachlaw01_SameRules.f k l l = some true := by
  unfold mailcoachlaw01_SameRules.f
  rw [if_pos rfl]
  exact sm_rules_go l K hs hl l.length k 0 (by omega) hk

theorem sc_small_of (x : S47) (r : Int) (h : szE x r) (hr : r ≤ 100000) (h6 : sc_ok64 x.f1) : sc_smallE x := by
  unfold szE at h
  exact ⟨h6, fun f hf => msg_sum_mem x.f2.f0 1000000 (by omega) f hf, by omega, by omega, fun f hf => msg_sum_mem x.f2.f2 1000000 (by omega) f hf, by omega, by omega⟩
theorem sc_smallR_of (x : S51) (r : Int) (h : (x.f0.size : Int) + x.f1.size + x.f3.length + (msg_sum x.f3 : Nat) + x.f4.length ≤ r) (hr : r ≤ 100000) (h6 : sc_ok64 x.f2) : sc_smallR x :=
  ⟨by omega, by omega, h6, fun f hf => msg_sum_mem x.f3 1000000 (by omega) f hf, by omega, by omega⟩
end Go.Proofs.YtegmbihjjhhpmaaDoor.T
namespace Go.Proofs.YtegmbihjjhhpmaaDoor.T
open Go.RowKit Go.Proofs.YtegmbihjjhhpmaaDoorW.PrintWords Go.Proofs.YtegmbihjjhhpmaaDoorW.PrintLast Go.Proofs.YtegmbihjjhhpmaaDoorW.PrintMore
open Go.Proofs.YtegmbihjjhhpmaaDoor.PSC
set_option linter.unusedVariables false
set_option linter.unusedSimpArgs false
/-! ### lives: what is read and told there (plain) -/
def sc_s1 : ByteArray := ⟨#[97, 115, 107, 32, 102, 32, 51, 97, 54, 100, 32, 52, 55, 32, 98, 32, 48, 48, 10, 103, 111, 97, 119, 97, 121, 10, 112, 97, 115, 115, 32, 50, 10]⟩
def sc_s2 : ByteArray := ⟨#[103, 111, 97, 119, 97, 121, 10, 116, 105, 99, 107, 32, 49]⟩
def sc_s3 : ByteArray := ⟨#[114, 117, 108, 101, 32, 45, 32, 50, 102, 32, 50, 48, 48, 32, 101, 99, 104, 111, 10]⟩
def sc_e1 : S47 := ⟨1, 0, ⟨[⟨⟨#[58, 109]⟩, ⟨#[71]⟩⟩], [0], []⟩, []⟩
def sc_e2 : S47 := ⟨3, 0, sc_msg0, []⟩
def sc_e3 : S47 := ⟨6, 2, sc_msg0, []⟩
def sc_r1 : S51 := ⟨⟨#[]⟩, ⟨#[47]⟩, 200, [], [], true⟩
theorem sc_itoa2 : Lib.itoa 2 = [50] := by simp [Lib.itoa, Lib.decDigits]
theorem sc_itoa200 : Lib.itoa 200 = [50, 48, 48] := by simp [Lib.itoa, Lib.decDigits]
theorem sc_line1 : sc_line sc_e1 = some ⟨#[97, 115, 107, 32, 102, 32, 51, 97, 54, 100, 32, 52, 55, 32, 98, 32, 48, 48]⟩ := by kernel_rfl
theorem sc_line2 : sc_line sc_e2 = some ⟨#[103, 111, 97, 119, 97, 121]⟩ := by kernel_rfl
theorem sc_line3 : sc_line sc_e3 = some ⟨#[112, 97, 115, 115, 32, 50]⟩ := by
  have e : sc_line sc_e3 = some (sc_b (sc_pass.data.toList ++ sc_tail [sc_b (Lib.itoa 2)])) := by kernel_rfl
  rw [e, sc_itoa2]
  first | rfl | (congr 1; done) | (congr 1; kernel_rfl)
theorem sc_line4 : sc_ruled sc_r1 = some ⟨#[114, 117, 108, 101, 32, 45, 32, 50, 102, 32, 50, 48, 48, 32, 101, 99, 104, 111]⟩ := by
  have e : sc_ruled sc_r1 = some (sc_b (sc_rule.data.toList ++ sc_tail [sc_hexB ⟨#[]⟩, sc_hexB ⟨#[47]⟩, sc_b (Lib.itoa 200), sc_echo])) := by kernel_rfl
  rw [e, sc_itoa200]
  first | rfl | (congr 1; done) | (congr 1; kernel_rfl)
theorem sc_ok1 : ∀ e ∈ [sc_e1, sc_e2, sc_e3], sc_okE e := by
  intro e he
  simp only [List.mem_cons, List.not_mem_nil, or_false] at he
  rcases he with rfl | rfl | rfl <;> simp [sc_okE, sc_okB, sc_ok64, sc_e1, sc_e2, sc_e3, sc_msg0]
theorem sc_Text1 : sc_Text [sc_e1, sc_e2, sc_e3] = (sc_s1.data.toList, 0) := by
  unfold sc_Text
  simp only [sc_text, sc_line1, sc_line2, sc_line3]
  kernel_rfl
theorem sc_Parse1 : sc_Parse sc_s1 = ([sc_e1, sc_e2, sc_e3], 0, 0) := by
  have h := sc_ScriptBack [sc_e1, sc_e2, sc_e3] sc_ok1 (by rw [sc_Text1])
  rw [sc_Text1] at h
  exact h
theorem sc_Rules3 : sc_Rules sc_s3 = ([sc_r1], 0, 0) := by
  have e : sc_RulesText [sc_r1] = (sc_s3.data.toList, 0) := by
    unfold sc_RulesText
    simp only [sc_text, sc_line4]
    kernel_rfl
  have h := sc_RulesBack [sc_r1] (by intro r hr; simp only [List.mem_cons, List.not_mem_nil, or_false] at hr; subst hr; simp [sc_okR, sc_okB, sc_ok64, sc_r1]) (by rw [e])
  rw [e] at h
  exact h
theorem sc_Parse2 : sc_Parse sc_s2 = ([], 1, 5) := by
  have h := (sc_event_back sc_e2 _ (sc_ok1 sc_e2 (by simp)) sc_line2).2
  have e1 : sc_split 10 sc_s2.data.toList = [[103, 111, 97, 119, 97, 121], [116, 105, 99, 107, 32, 49]] := by kernel_rfl
  unfold sc_Parse
  rw [e1, sc_parse]
  have h2 : tk_event (sc_words [103, 111, 97, 119, 97, 121], false) = (sc_e2, ([], false)) := h
  rw [h2, sc_parse]
  simp
theorem sc_text_len {α : Type} (g : α → Option ByteArray) : ∀ (l : List α) (i : Nat) (b : Bool) (o : List UInt8), o.length ≤ i * 65537 → i ≤ 4096 ∨ b = true → o.length ≤ 4096 * 65537 → (sc_text g l i b o).1.length ≤ 4096 * 65537
  | [], i, b, o, h, _, h2 => by cases b <;> simp [sc_text] <;> exact h2
  | e :: l, i, b, o, h, hi, h2 => by
    rw [sc_text]
    cases g e with
    | none => simp
    | some s =>
      simp only
      split
      · exact sc_text_len g l (i + 1) true o (Nat.le_trans h (Nat.mul_le_mul_right _ (Nat.le_succ i))) (.inr rfl) h2
      · rename_i hc
        have e1 : s.data.toList.length = s.size := rfl
        simp only [not_or, Nat.not_lt, Nat.not_le] at hc
        have hb : (o ++ s.data.toList ++ [10]).length ≤ (i + 1) * 65537 := by
          simp only [List.length_append, List.length_cons, List.length_nil, e1]
          rw [Nat.add_mul]
          omega
        exact sc_text_len g l (i + 1) false _ hb (.inl (by omega)) (Nat.le_trans hb (Nat.mul_le_mul_right _ (by omega)))
end Go.Proofs.YtegmbihjjhhpmaaDoor.T
