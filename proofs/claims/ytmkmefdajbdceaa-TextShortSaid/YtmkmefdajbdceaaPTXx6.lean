-- Written by wip/mprint.py (the kit's printer, and texts of this claim's own for what it does not take). Not trusted: Lean checks it.
import Derived.Test.YtmkmefdajbdceaaPTXx0
import Derived.Test.YtmkmefdajbdceaaPTXx1
import Derived.Test.YtmkmefdajbdceaaPTXx2
import Derived.Test.YtmkmefdajbdceaaPTXx5
namespace Go.Proofs.Ytmkmefdajbdceaa.PTX
open Go.RowKit Go.Proofs.YtmkmefdajbdceaaW.PrintWords Go.Proofs.YtmkmefdajbdceaaW.PrintLast Go.Proofs.YtmkmefdajbdceaaW.PrintMore
attribute [local go_sem] max2_int min2_int max_two min_two max_three min_three max_four min_four   -- for this text's walks alone
set_option linter.unusedVariables false
set_option linter.unusedSimpArgs false

/-! ### text_wide: function 51 -/
def text_wide.f (a0 : Int) : Option (Bool) := if a0 ≥ 2 then (some (decide (a0 ≤ 8))) else (some false)
set_option maxHeartbeats 8000000 in
set_option maxRecDepth 100000 in
theorem text_wide.calls (a0 : Int) (r : Bool) (w : World) (h : text_wide.f a0 = some r) :
    Calls Try.prog 51 #[.int .i64 a0] w fun e w' => e = .returned (.bool r) ∧ Drawn0 w w' := by
  have H : (if a0 ≥ 2 then (some (decide (a0 ≤ 8))) else (some false)) = some r := h
  clear h
  by_cases c2 : a0 ≥ 2
  · rw [if_pos c2] at H
    have c2b0 : decide (2 ≤ a0) = true := decide_eq_true c2
    clear c2
    obtain rfl := Option.some.inj H
    go_enter Try.func51, Try.ntmps51
    go_wp2
    go_ret
    exact ⟨by first | rfl | (simp; done) | (simp [*]; done), by repeat (first | exact Drawn0.refl _ | apply Drawn0.step)⟩
  · rw [if_neg c2] at H
    have c2b0 : decide (2 ≤ a0) = false := decide_eq_false c2
    clear c2
    obtain rfl := Option.some.inj H
    go_enter Try.func51, Try.ntmps51
    go_wp2
    go_ret
    exact ⟨by first | rfl | (simp; done) | (simp [*]; done), by repeat (first | exact Drawn0.refl _ | apply Drawn0.step)⟩

/-! ### text_Get: function 38, by hand -/
theorem text_wide.t (a1 : Int) (h : 2 ≤ a1) (h8 : a1 ≤ 8) : text_wide.f a1 = some true := by unfold text_wide.f; rw [if_pos h, decide_eq_true h8]
theorem text_wide.n (a1 : Int) (h : a1 < 2 ∨ 8 < a1) : text_wide.f a1 = some false := by
  unfold text_wide.f
  by_cases h2 : a1 ≥ 2
  · rw [if_pos h2, decide_eq_false (by omega)]
  · rw [if_neg h2]

def text_Get.flag (a0 above : Int) : Int := above / 2 ^ (a0 - 1).toNat % 2
def text_Get.f (a0 : Int) (l1 : List Int) : Option (Int × ByteArray × Int × Int) :=
  if a0 < 2 ∨ 8 < a0 then some (0, ⟨#[]⟩, 0, 1)
  else (varint_GetPrefix.f (a0 - 1) l1).bind fun r =>
    if r.2.2.2 ≠ 0 then some (0, ⟨#[]⟩, 0, r.2.2.2)
    else if 65536 < r.2.1 then some (0, ⟨#[]⟩, 0, 3)
    else if r.1 < 0 ∨ 256 ≤ r.1 ∨ r.2.1 < 0 ∨ r.2.2.1 < 0 ∨ (l1.length : Int) < r.2.2.1 ∨ 140737488355328 < l1.length then none
    else if (l1.length : Int) - r.2.2.1 < r.2.1 then some (0, ⟨#[]⟩, 0, 4)
    else if text_Get.flag a0 r.1 = 0 then some (r.1, strOfNums ((l1.take (r.2.2.1 + r.2.1).toNat).drop r.2.2.1.toNat), r.2.2.1 + r.2.1, 0)
    else (huff_Get.f ((l1.take (r.2.2.1 + r.2.1).toNat).drop r.2.2.1.toNat)).bind fun q =>
      if q.2 ≠ 0 then some (0, ⟨#[]⟩, 0, q.2)
      else if 65536 < q.1.size then some (0, ⟨#[]⟩, 0, 3)
      else some (r.1 - 2 ^ (a0 - 1).toNat, q.1, r.2.2.1 + r.2.1, 0)
theorem text_Get.arith (a0 x : Int) (h2 : 2 ≤ a0) (h8 : a0 ≤ 8) (x0 : 0 ≤ x) (x1 : x < 256) :
    (text_Get.flag a0 x = 0 → bits .and .u8 x (2 ^ (a0.toNat - 1) % 256) = 0 ∧ bits .andNot .u8 x (2 ^ (a0.toNat - 1) % 256) = x) ∧
    (text_Get.flag a0 x ≠ 0 → bits .and .u8 x (2 ^ (a0.toNat - 1) % 256) ≠ 0 ∧ bits .andNot .u8 x (2 ^ (a0.toNat - 1) % 256) = x - 2 ^ (a0 - 1).toNat) := by
  obtain ⟨n, rfl⟩ := Int.eq_ofNat_of_zero_le x0
  have key : (List.range 256).all (fun n => (List.range 9).all fun b => decide (b < 2) || ((decide ((n : Int) / 2 ^ (b - 1) % 2 ≠ 0) || (decide (bits .and .u8 (n : Int) (2 ^ (b - 1) % 256) = 0) && decide (bits .andNot .u8 (n : Int) (2 ^ (b - 1) % 256) = (n : Int)))) && (decide ((n : Int) / 2 ^ (b - 1) % 2 = 0) || (decide (bits .and .u8 (n : Int) (2 ^ (b - 1) % 256) ≠ 0) && decide (bits .andNot .u8 (n : Int) (2 ^ (b - 1) % 256) = (n : Int) - 2 ^ (b - 1)))))) = true := by decide +kernel
  obtain ⟨b, rfl⟩ := Int.eq_ofNat_of_zero_le (show 0 ≤ a0 by omega)
  have h := List.all_eq_true.1 (List.all_eq_true.1 key n (List.mem_range.2 (by omega))) b (List.mem_range.2 (by omega))
  unfold text_Get.flag
  rw [show ((b : Int) - 1).toNat = b - 1 by omega, Int.toNat_natCast]
  simp only [Bool.or_eq_true, Bool.and_eq_true, decide_eq_true_eq] at h
  rcases h with h | ⟨h1, h3⟩
  · omega
  · exact ⟨fun h0 => h1.resolve_left (fun h4 => h4 h0), fun h0 => h3.resolve_left h0⟩
theorem man_strOfNums_size (l : List Int) : (strOfNums l).size = l.length := by
  unfold strOfNums
  show (List.map _ l).toArray.size = _
  rw [List.size_toArray, List.length_map]
section
set_option maxHeartbeats 1600000
set_option maxRecDepth 100000
theorem text_Get.bad (a0 : Int) (A1 : Option Addr) (c1 : Nat) (l1 : List Int) (w : World) (h : a0 < 2 ∨ 8 < a0) :
    Calls Try.prog 38 #[.int .i64 a0, .slice A1 l1.length c1] w fun e w' => e = .returned (.tuple #[.int .u8 0, .string ⟨#[]⟩, .int .i64 0, .int .i64 1]) ∧ Below w.heap.size w w' := by
  have HW := Aside0.mk (text_wide.n a0 h)
  clear h
  go_enter Try.func38, Try.ntmps38
  go_wp2_with (go_at_call 51; refine (text_wide.calls a0 false _ HW.out).mono ?_; rintro e w1 ⟨rfl, hd⟩; have HB1 := Aside0.mk hd.below; clear hd)
  exact bodyPost_ret (v := .tuple #[.int .u8 0, .string ⟨#[]⟩, .int .i64 0, .int .i64 1]) (by simp [results, Try.results38, go_sem]) rfl ⟨rfl, HB1.out⟩
theorem text_Get.err (a0 : Int) (A1 : Option Addr) (c1 : Nat) (l1 : List Int) (x n k e : Int) (w : World) (hr1 : Kd.C (Kd.int .u8) w A1 l1.length l1) (hc1 : l1.length ≤ c1) (h2 : 2 ≤ a0) (h8 : a0 ≤ 8) (h : varint_GetPrefix.f (a0 - 1) l1 = some (x, n, k, e)) (he : e ≠ 0) :
    Calls Try.prog 38 #[.int .i64 a0, .slice A1 l1.length c1] w fun e' w' => e' = .returned (.tuple #[.int .u8 0, .string ⟨#[]⟩, .int .i64 0, .int .i64 e]) ∧ Below w.heap.size w w' := by
  have HW := Aside0.mk (text_wide.t a0 h2 h8)
  have HR1 := Aside0.mk hr1
  have HC1 := Aside0.mk hc1
  have HG := Aside0.mk h
  have he1 : (e != 0) = true := bne_iff_ne.2 he
  clear hr1 hc1 h he
  go_enter Try.func38, Try.ntmps38
  go_wp2_with (first | (go_at_call 51; refine (text_wide.calls a0 true _ HW.out).mono ?_; rintro e w1 ⟨rfl, hd⟩; have HB1 := Aside0.mk hd.below; clear hd) | (go_at_call 25; refine (varint_GetPrefix.calls (a0 - 1) A1 c1 l1 x n k e _ (Kd.C_below HR1.out HB1.out) HC1.out HG.out).mono ?_; rintro e w2 ⟨rfl, hd⟩; have HB2 := Aside0.mk (below_step HB1.out hd.below); clear hd))
  exact bodyPost_ret (v := .tuple #[.int .u8 0, .string ⟨#[]⟩, .int .i64 0, .int .i64 e]) (by simp [results, Try.results38, go_sem]) rfl ⟨rfl, HB2.out⟩
theorem text_Get.great (a0 : Int) (A1 : Option Addr) (c1 : Nat) (l1 : List Int) (x n k : Int) (w : World) (hr1 : Kd.C (Kd.int .u8) w A1 l1.length l1) (hc1 : l1.length ≤ c1) (h2 : 2 ≤ a0) (h8 : a0 ≤ 8) (h : varint_GetPrefix.f (a0 - 1) l1 = some (x, n, k, 0)) (hn : 65536 < n) :
    Calls Try.prog 38 #[.int .i64 a0, .slice A1 l1.length c1] w fun e' w' => e' = .returned (.tuple #[.int .u8 0, .string ⟨#[]⟩, .int .i64 0, .int .i64 3]) ∧ Below w.heap.size w w' := by
  have HW := Aside0.mk (text_wide.t a0 h2 h8)
  have HR1 := Aside0.mk hr1
  have HC1 := Aside0.mk hc1
  have HG := Aside0.mk h
  have he1 : decide (65536 < n) = true := decide_eq_true hn
  clear hr1 hc1 h
  go_enter Try.func38, Try.ntmps38
  go_wp2_with (first | (go_at_call 51; refine (text_wide.calls a0 true _ HW.out).mono ?_; rintro e w1 ⟨rfl, hd⟩; have HB1 := Aside0.mk hd.below; clear hd) | (go_at_call 25; refine (varint_GetPrefix.calls (a0 - 1) A1 c1 l1 x n k 0 _ (Kd.C_below HR1.out HB1.out) HC1.out HG.out).mono ?_; rintro e w2 ⟨rfl, hd⟩; have HB2 := Aside0.mk (below_step HB1.out hd.below); clear hd))
  exact bodyPost_ret (v := .tuple #[.int .u8 0, .string ⟨#[]⟩, .int .i64 0, .int .i64 3]) (by simp [results, Try.results38, go_sem]) rfl ⟨rfl, HB2.out⟩
theorem text_Get.short (a0 : Int) (A1 : Option Addr) (c1 : Nat) (l1 : List Int) (x n k : Int) (w : World) (hr1 : Kd.C (Kd.int .u8) w A1 l1.length l1) (hc1 : l1.length ≤ c1) (h2 : 2 ≤ a0) (h8 : a0 ≤ 8) (h : varint_GetPrefix.f (a0 - 1) l1 = some (x, n, k, 0)) (hn : n ≤ 65536) (n0 : 0 ≤ n) (k0 : 0 ≤ k) (k1 : k ≤ l1.length) (hl : l1.length ≤ 140737488355328) (hs : (l1.length : Int) - k < n) :
    Calls Try.prog 38 #[.int .i64 a0, .slice A1 l1.length c1] w fun e' w' => e' = .returned (.tuple #[.int .u8 0, .string ⟨#[]⟩, .int .i64 0, .int .i64 4]) ∧ Below w.heap.size w w' := by
  have HW := Aside0.mk (text_wide.t a0 h2 h8)
  have HR1 := Aside0.mk hr1
  have HC1 := Aside0.mk hc1
  have HG := Aside0.mk h
  have he1 : decide (65536 < n) = false := decide_eq_false (by omega)
  have he2 : decide ((l1.length : Int) - k < n) = true := decide_eq_true hs
  clear hr1 hc1 h
  go_enter Try.func38, Try.ntmps38
  go_wp2_with (first | (go_at_call 51; refine (text_wide.calls a0 true _ HW.out).mono ?_; rintro e w1 ⟨rfl, hd⟩; have HB1 := Aside0.mk hd.below; clear hd) | (go_at_call 25; refine (varint_GetPrefix.calls (a0 - 1) A1 c1 l1 x n k 0 _ (Kd.C_below HR1.out HB1.out) HC1.out HG.out).mono ?_; rintro e w2 ⟨rfl, hd⟩; have HB2 := Aside0.mk (below_step HB1.out hd.below); clear hd))
  exact bodyPost_ret (v := .tuple #[.int .u8 0, .string ⟨#[]⟩, .int .i64 0, .int .i64 4]) (by simp [results, Try.results38, go_sem]) rfl ⟨rfl, HB2.out⟩
theorem text_Get.plain (a0 : Int) (A1 : Option Addr) (c1 : Nat) (l1 : List Int) (x n k : Int) (w : World) (hr1 : Kd.C (Kd.int .u8) w A1 l1.length l1) (hc1 : l1.length ≤ c1) (h2 : 2 ≤ a0) (h8 : a0 ≤ 8) (h : varint_GetPrefix.f (a0 - 1) l1 = some (x, n, k, 0)) (hn : n ≤ 65536) (n0 : 0 ≤ n) (k0 : 0 ≤ k) (k1 : k ≤ l1.length) (x0 : 0 ≤ x) (x1 : x < 256) (hl : l1.length ≤ 140737488355328) (hs : n ≤ (l1.length : Int) - k) (hf : text_Get.flag a0 x = 0) :
    Calls Try.prog 38 #[.int .i64 a0, .slice A1 l1.length c1] w fun e' w' => e' = .returned (.tuple #[.int .u8 x, .string (strOfNums ((l1.take (k + n).toNat).drop k.toNat)), .int .i64 (k + n), .int .i64 0]) ∧ Below w.heap.size w w' := by
  have HW := Aside0.mk (text_wide.t a0 h2 h8)
  obtain ⟨har1, har2⟩ := (text_Get.arith a0 x h2 h8 x0 x1).1 hf
  obtain ⟨i0, hi0, _, hsz0, _⟩ := info_parts man_info_u8
  obtain ⟨A2, hcut, hA, hC⟩ := print_mid_of (P := Try.prog) (Value.int .u8) 0 22 5 .i64 .i64 Try.underlying22 hi0 hsz0 A1 c1 l1 k (k + n) k0 (by omega) (by omega) hc1
  have HR2 := Aside0.mk (hA w (Kd.reads_of_C hr1))
  have hlen : ((l1.take (k + n).toNat).drop k.toNat).length ≤ 65536 := by rw [List.length_drop, List.length_take]; omega
  obtain ⟨b, hb⟩ : ∃ b, (l1.take (k + n).toNat).drop k.toNat = b := ⟨_, rfl⟩
  rw [hb] at hcut HR2 hC hlen ⊢
  have HR1 := Aside0.mk hr1
  have HC1 := Aside0.mk hc1
  have HG := Aside0.mk h
  have he1 : decide (65536 < n) = false := decide_eq_false (by omega)
  have he2 : decide ((l1.length : Int) - k < n) = false := decide_eq_false (by omega)
  clear hr1 hc1 h hf hA hC hi0 hsz0 hb
  go_enter Try.func38, Try.ntmps38
  go_upto_region 11 with (first | (go_at_call 51; refine (text_wide.calls a0 true _ HW.out).mono ?_; rintro e w1 ⟨rfl, hd⟩; have HB1 := Aside0.mk hd.below; clear hd) | (go_at_call 25; refine (varint_GetPrefix.calls (a0 - 1) A1 c1 l1 x n k 0 _ (Kd.C_below HR1.out HB1.out) HC1.out HG.out).mono ?_; rintro e w2 ⟨rfl, hd⟩; have HB2 := Aside0.mk (below_step HB1.out hd.below); clear hd))
  have hR3 : ReadsInt w2 .u8 A2 b.length b := ReadsInt.below (show ReadsInt w .u8 A2 b.length b from HR2.out) HB2.out
  have hconv : ∀ (m : Nat) (c : Nat), (convert 22 9 (.slice A2 b.length c)).run Try.prog (w2.drewN m) = .ok (.string (strOfNums b)) (w2.drewN m) := fun m c => string_of_reads Try.underlying22 Try.underlying5 Try.underlying9 (ReadsInt.drewN hR3 m)
  have hsub : IntKind.i64.wrap (a0 - 1) = a0 - 1 := IntWalk.i64_in _ (by omega)
  have hsub0 : 1 ≤ a0 := by omega
  have hsz : decide (65536 < ((strOfNums b).size : Int)) = false := decide_eq_false (by rw [man_strOfNums_size]; omega)
  go_quiet (fail)
  clear hconv hcut hR3 hsub
  have HB3 := Aside0.mk (pw_below_drewN HB2.out nq)
  go_wp2
  exact bodyPost_ret (v := .tuple #[.int .u8 x, .string (strOfNums b), .int .i64 (k + n), .int .i64 0]) (by simp [results, Try.results38, go_sem]) rfl ⟨rfl, HB3.out⟩
theorem text_Get.huff (a0 : Int) (A1 : Option Addr) (c1 : Nat) (l1 : List Int) (x n k : Int) (s : ByteArray) (e2 : Int) (w : World) (hr1 : Kd.C (Kd.int .u8) w A1 l1.length l1) (hc1 : l1.length ≤ c1) (h2 : 2 ≤ a0) (h8 : a0 ≤ 8) (h : varint_GetPrefix.f (a0 - 1) l1 = some (x, n, k, 0)) (hn : n ≤ 65536) (n0 : 0 ≤ n) (k0 : 0 ≤ k) (k1 : k ≤ l1.length) (x0 : 0 ≤ x) (x1 : x < 256) (hl : l1.length ≤ 140737488355328) (hs : n ≤ (l1.length : Int) - k) (hf : text_Get.flag a0 x ≠ 0)
    (hg : huff_Get.f ((l1.take (k + n).toNat).drop k.toNat) = some (s, e2)) :
    Calls Try.prog 38 #[.int .i64 a0, .slice A1 l1.length c1] w fun e' w' => e' = .returned (if e2 ≠ 0 then .tuple #[.int .u8 0, .string ⟨#[]⟩, .int .i64 0, .int .i64 e2] else if 65536 < s.size then .tuple #[.int .u8 0, .string ⟨#[]⟩, .int .i64 0, .int .i64 3] else .tuple #[.int .u8 (x - 2 ^ (a0 - 1).toNat), .string s, .int .i64 (k + n), .int .i64 0]) ∧ Below w.heap.size w w' := by
  have HW := Aside0.mk (text_wide.t a0 h2 h8)
  obtain ⟨har1, har2⟩ := (text_Get.arith a0 x h2 h8 x0 x1).2 hf
  obtain ⟨Y, hY⟩ : ∃ Y, x - 2 ^ (a0 - 1).toNat = Y := ⟨_, rfl⟩
  rw [hY] at har2 ⊢
  obtain ⟨V, hV⟩ : ∃ V, (if e2 ≠ 0 then Value.tuple #[.int .u8 0, .string ⟨#[]⟩, .int .i64 0, .int .i64 e2] else if 65536 < s.size then .tuple #[.int .u8 0, .string ⟨#[]⟩, .int .i64 0, .int .i64 3] else .tuple #[.int .u8 Y, .string s, .int .i64 (k + n), .int .i64 0]) = V := ⟨_, rfl⟩
  rw [hV]
  have HV := Aside0.mk hV
  clear hV
  obtain ⟨Z, hZ⟩ : ∃ Z, bits .and .u8 x (2 ^ (a0.toNat - 1) % 256) = Z := ⟨_, rfl⟩
  rw [hZ] at har1
  have hz1 : (Z != 0) = true := bne_iff_ne.2 har1
  obtain ⟨i0, hi0, _, hsz0, _⟩ := info_parts man_info_u8
  obtain ⟨A2, hcut, hA, hC⟩ := print_mid_of (P := Try.prog) (Value.int .u8) 0 22 5 .i64 .i64 Try.underlying22 hi0 hsz0 A1 c1 l1 k (k + n) k0 (by omega) (by omega) hc1
  have HR2 := Aside0.mk (hA w (Kd.reads_of_C hr1))
  have hlen : ((l1.take (k + n).toNat).drop k.toNat).length ≤ 65536 := by rw [List.length_drop, List.length_take]; omega
  obtain ⟨b, hb⟩ : ∃ b, (l1.take (k + n).toNat).drop k.toNat = b := ⟨_, rfl⟩
  rw [hb] at hcut HR2 hC hlen hg
  have HR1 := Aside0.mk hr1
  have HC1 := Aside0.mk hc1
  have HC2 := Aside0.mk hC
  have HG := Aside0.mk h
  have HHG := Aside0.mk hg
  have he1 : decide (65536 < n) = false := decide_eq_false (by omega)
  have he2 : decide ((l1.length : Int) - k < n) = false := decide_eq_false (by omega)
  clear hr1 hc1 h hf hA hC hi0 hsz0 hb hg har1 hY
  go_enter Try.func38, Try.ntmps38
  go_upto_region 11 with (first | (go_at_call 51; refine (text_wide.calls a0 true _ HW.out).mono ?_; rintro e w1 ⟨rfl, hd⟩; have HB1 := Aside0.mk hd.below; clear hd) | (go_at_call 25; refine (varint_GetPrefix.calls (a0 - 1) A1 c1 l1 x n k 0 _ (Kd.C_below HR1.out HB1.out) HC1.out HG.out).mono ?_; rintro e w2 ⟨rfl, hd⟩; have HB2 := Aside0.mk (below_step HB1.out hd.below); clear hd))
  have hR3 : ReadsInt w2 .u8 A2 b.length b := ReadsInt.below (show ReadsInt w .u8 A2 b.length b from HR2.out) HB2.out
  have hconv : ∀ (m : Nat) (c : Nat), (convert 22 9 (.slice A2 b.length c)).run Try.prog (w2.drewN m) = .ok (.string (strOfNums b)) (w2.drewN m) := fun m c => string_of_reads Try.underlying22 Try.underlying5 Try.underlying9 (ReadsInt.drewN hR3 m)
  have hsub : IntKind.i64.wrap (a0 - 1) = a0 - 1 := IntWalk.i64_in _ (by omega)
  have hsub0 : 1 ≤ a0 := by omega
  go_quiet (fail)
  have HB3 := Aside0.mk (pw_below_drewN HB2.out nq)
  have HR4 := Aside0.mk (ReadsInt.drewN hR3 nq)
  clear hconv hR3 hsub
  generalize w2.drewN nq = w3 at HB3 HR4 ⊢
  by_cases hq : e2 = 0
  · subst hq
    by_cases hbig : 65536 < s.size
    · have hb1 : decide (65536 < (s.size : Int)) = true := decide_eq_true (by omega)
      go_wp2_with (go_at_call 27; refine (huff_Get.calls A2 (c1 - k.toNat) b s 0 _ (Kd.C_of_reads (enc := Value.int .u8) (d := (0 : Int)) (h1 := fun _ => rfl) HR4.out) HC2.out HHG.out).mono ?_; rintro e w4 ⟨rfl, hd⟩; have HB4 := Aside0.mk (below_step HB3.out hd); clear hd)
      exact bodyPost_ret (v := .tuple #[.int .u8 0, .string ⟨#[]⟩, .int .i64 0, .int .i64 3]) (by simp [results, Try.results38, go_sem]) rfl ⟨by rw [← HV.out, if_neg (by decide), if_pos hbig], HB4.out⟩
    · have hb1 : decide (65536 < (s.size : Int)) = false := decide_eq_false (by omega)
      go_wp2_with (go_at_call 27; refine (huff_Get.calls A2 (c1 - k.toNat) b s 0 _ (Kd.C_of_reads (enc := Value.int .u8) (d := (0 : Int)) (h1 := fun _ => rfl) HR4.out) HC2.out HHG.out).mono ?_; rintro e w4 ⟨rfl, hd⟩; have HB4 := Aside0.mk (below_step HB3.out hd); clear hd)
      exact bodyPost_ret (v := .tuple #[.int .u8 Y, .string s, .int .i64 (k + n), .int .i64 0]) (by simp [results, Try.results38, go_sem]) rfl ⟨by rw [← HV.out, if_neg (by decide), if_neg hbig], HB4.out⟩
  · have hq1 : (e2 != 0) = true := bne_iff_ne.2 hq
    go_wp2_with (go_at_call 27; refine (huff_Get.calls A2 (c1 - k.toNat) b s e2 _ (Kd.C_of_reads (enc := Value.int .u8) (d := (0 : Int)) (h1 := fun _ => rfl) HR4.out) HC2.out HHG.out).mono ?_; rintro e w4 ⟨rfl, hd⟩; have HB4 := Aside0.mk (below_step HB3.out hd); clear hd)
    exact bodyPost_ret (v := .tuple #[.int .u8 0, .string ⟨#[]⟩, .int .i64 0, .int .i64 e2]) (by simp [results, Try.results38, go_sem]) rfl ⟨by rw [← HV.out, if_pos hq], HB4.out⟩
end
theorem text_Get.calls (a0 : Int) (A1 : Option Addr) (c1 : Nat) (l1 : List Int) (r1 : Int) (r2 : ByteArray) (r3 : Int) (r4 : Int) (w : World) (hr1 : Kd.C (Kd.int .u8) w A1 l1.length l1) (hc1 : l1.length ≤ c1) (h : text_Get.f a0 l1 = some (r1, r2, r3, r4)) :
    Calls Try.prog 38 #[.int .i64 a0, .slice A1 l1.length c1] w fun e w' => e = .returned (.tuple #[.int .u8 r1, .string r2, .int .i64 r3, .int .i64 r4]) ∧ Below w.heap.size w w' := by
  unfold text_Get.f at h
  by_cases hb : a0 < 2 ∨ 8 < a0
  · rw [if_pos hb] at h
    simp only [Option.some.injEq, Prod.mk.injEq] at h
    obtain ⟨rfl, rfl, rfl, rfl⟩ := h
    exact text_Get.bad a0 A1 c1 l1 w hb
  · rw [if_neg hb] at h
    obtain ⟨⟨x, n, k, e⟩, hg, h⟩ := Option.bind_eq_some_iff.1 h
    simp only at h
    by_cases he : e ≠ 0
    · rw [if_pos he] at h
      simp only [Option.some.injEq, Prod.mk.injEq] at h
      obtain ⟨rfl, rfl, rfl, rfl⟩ := h
      exact text_Get.err a0 A1 c1 l1 x n k _ w hr1 hc1 (by omega) (by omega) hg he
    · rw [if_neg he] at h
      obtain rfl : e = 0 := by omega
      by_cases hn : 65536 < n
      · rw [if_pos hn] at h
        simp only [Option.some.injEq, Prod.mk.injEq] at h
        obtain ⟨rfl, rfl, rfl, rfl⟩ := h
        exact text_Get.great a0 A1 c1 l1 x n k w hr1 hc1 (by omega) (by omega) hg hn
      · rw [if_neg hn] at h
        by_cases hr : x < 0 ∨ 256 ≤ x ∨ n < 0 ∨ k < 0 ∨ (l1.length : Int) < k ∨ 140737488355328 < l1.length
        · rw [if_pos hr] at h
          cases h
        · rw [if_neg hr] at h
          by_cases hs : (l1.length : Int) - k < n
          · rw [if_pos hs] at h
            simp only [Option.some.injEq, Prod.mk.injEq] at h
            obtain ⟨rfl, rfl, rfl, rfl⟩ := h
            exact text_Get.short a0 A1 c1 l1 x n k w hr1 hc1 (by omega) (by omega) hg (by omega) (by omega) (by omega) (by omega) (by omega) hs
          · rw [if_neg hs] at h
            by_cases hf : text_Get.flag a0 x = 0
            · rw [if_pos hf] at h
              simp only [Option.some.injEq, Prod.mk.injEq] at h
              obtain ⟨rfl, rfl, rfl, rfl⟩ := h
              exact text_Get.plain a0 A1 c1 l1 _ n k w hr1 hc1 (by omega) (by omega) hg (by omega) (by omega) (by omega) (by omega) (by omega) (by omega) (by omega) (by omega) hf
            · rw [if_neg hf] at h
              obtain ⟨⟨s, e2⟩, hq, h⟩ := Option.bind_eq_some_iff.1 h
              have hc := text_Get.huff a0 A1 c1 l1 x n k s e2 w hr1 hc1 (by omega) (by omega) hg (by omega) (by omega) (by omega) (by omega) (by omega) (by omega) (by omega) (by omega) hf hq
              simp only at h
              by_cases h2 : e2 ≠ 0
              · rw [if_pos h2] at h hc
                simp only [Option.some.injEq, Prod.mk.injEq] at h
                obtain ⟨rfl, rfl, rfl, rfl⟩ := h
                exact hc
              · rw [if_neg h2] at h hc
                by_cases h3 : 65536 < s.size
                · rw [if_pos h3] at h hc
                  simp only [Option.some.injEq, Prod.mk.injEq] at h
                  obtain ⟨rfl, rfl, rfl, rfl⟩ := h
                  exact hc
                · rw [if_neg h3] at h hc
                  simp only [Option.some.injEq, Prod.mk.injEq] at h
                  obtain ⟨rfl, rfl, rfl, rfl⟩ := h
                  exact hc


end Go.Proofs.Ytmkmefdajbdceaa.PTX
