-- Written by wip/mprint.py (the kit's printer, and texts of this claim's own for what it does not take). Not trusted: Lean checks it.
import Derived.Test.YtmkmefdajbdceaaPTXx0
import Derived.Test.YtmkmefdajbdceaaPTXx1
import Derived.Test.YtmkmefdajbdceaaPTXx3
import Derived.Test.YtmkmefdajbdceaaPTXx5
import Derived.Test.YtmkmefdajbdceaaPTXx10
import Derived.Test.YtmkmefdajbdceaaPTXx11
namespace Go.Proofs.Ytmkmefdajbdceaa.PTX
open Go.RowKit Go.Proofs.YtmkmefdajbdceaaW.PrintWords Go.Proofs.YtmkmefdajbdceaaW.PrintLast Go.Proofs.YtmkmefdajbdceaaW.PrintMore
attribute [local go_sem] max2_int min2_int max_two min_two max_three min_three max_four min_four   -- for this text's walks alone
set_option linter.unusedVariables false
set_option linter.unusedSimpArgs false

/-! ### mailcoachref10_Get: function 28, by hand -/
/-- Of the words of n bits: the first one as a number; their bytes in order. -/
def huff_T : List (Int × List Int) := [(0, []), (0, []), (0, []), (0, []), (0, []), (0, [48, 49, 50, 97, 99, 101, 105, 111, 115, 116]), (20, [32, 37, 45, 46, 47, 51, 52, 53, 54, 55, 56, 57, 61, 65, 95, 98, 100, 102, 103, 104, 108, 109, 110, 112, 114, 117]), (92, [58, 66, 67, 68, 69, 70, 71, 72, 73, 74, 75, 76, 77, 78, 79, 80, 81, 82, 83, 84, 85, 86, 87, 89, 106, 107, 113, 118, 119, 120, 121, 122]), (248, [38, 42, 44, 59, 88, 90]), (508, []), (1016, [33, 34, 40, 41, 63]), (2042, [39, 43, 124]), (4090, [35, 62]), (8184, [0, 36, 64, 91, 93, 126]), (16380, [94, 125]), (32764, [60, 96, 123]), (65534, []), (131068, []), (262136, []), (524272, [92, 195, 208]), (1048550, [128, 130, 131, 162, 184, 194, 224, 226]), (2097116, [153, 161, 167, 172, 176, 177, 179, 209, 216, 217, 227, 229, 230]), (4194258, [129, 132, 133, 134, 136, 146, 154, 156, 160, 163, 164, 169, 170, 173, 178, 181, 185, 186, 187, 189, 190, 196, 198, 228, 232, 233]), (8388568, [1, 135, 137, 138, 139, 140, 141, 143, 147, 149, 150, 151, 152, 155, 157, 158, 165, 166, 168, 174, 175, 180, 182, 183, 188, 191, 197, 231, 239]), (16777194, [9, 142, 144, 145, 148, 159, 171, 206, 215, 225, 236, 237]), (33554412, [199, 207, 234, 235]), (67108832, [192, 193, 200, 201, 202, 205, 210, 213, 218, 219, 238, 240, 242, 243, 255]), (134217694, [203, 204, 211, 212, 214, 221, 222, 223, 241, 244, 245, 246, 247, 248, 250, 251, 252, 253, 254]), (268435426, [2, 3, 4, 5, 6, 7, 8, 11, 12, 14, 15, 16, 17, 18, 19, 20, 21, 23, 24, 25, 26, 27, 28, 29, 30, 31, 127, 220, 249]), (536870910, []), (1073741820, [10, 13, 22, 256])]
def huff_From (n : Nat) : Int := (huff_T.getD n (0, [])).1
def huff_Ws (n : Nat) : List Int := (huff_T.getD n (0, [])).2
/-- Which word of n bits a number is. -/
def huff_look (n : Nat) (x : Int) : Option Int := if huff_From n ≤ x ∧ x < huff_From n + (huff_Ws n).length then some ((huff_Ws n).getD (x - huff_From n).toNat 0) else none
theorem huff_find_some : ∀ (K : Nat) (p : Int × Int) (k : Nat), huff_find K p = some k → k < K ∧ huff_words.getD k (0, 0) = p
  | 0, _, _, h => by cases h
  | K + 1, p, k, h => by
    rw [huff_find] at h
    by_cases e : huff_words.getD K (0, 0) = p
    · rw [if_pos e] at h
      cases h
      exact ⟨Nat.lt_succ_self _, e⟩
    · rw [if_neg e] at h
      have := huff_find_some K p k h
      exact ⟨by omega, this.2⟩
theorem huff_find_none : ∀ (K : Nat) (p : Int × Int), huff_find K p = none → ∀ k, k < K → huff_words.getD k (0, 0) ≠ p
  | 0, _, _, _, h => by omega
  | K + 1, p, h, k, hk => by
    rw [huff_find] at h
    by_cases e : huff_words.getD K (0, 0) = p
    · rw [if_pos e] at h
      cases h
    · rw [if_neg e] at h
      rcases Nat.lt_succ_iff_lt_or_eq.1 hk with h1 | rfl
      · exact huff_find_none K p h k h1
      · exact e
/-- Each word stands in the table at its place. -/
theorem huff_T_words : ∀ k, k < 257 → ∃ n : Nat, n ≤ 30 ∧ (huff_words.getD k (0, 0)).2 = (n : Int) ∧ huff_look n (huff_words.getD k (0, 0)).1 = some (k : Int) ∧ 5 ≤ n := by
  have h : (List.range 257).all (fun k => let n := (huff_words.getD k (0, 0)).2.toNat; decide (n ≤ 30) && ((huff_words.getD k (0, 0)).2 == (n : Int)) && (huff_look n (huff_words.getD k (0, 0)).1 == some (k : Int)) && decide (5 ≤ n)) = true := by decide +kernel
  intro k hk
  have := List.all_eq_true.1 h k (List.mem_range.2 hk)
  simp only [Bool.and_eq_true, decide_eq_true_eq, beq_iff_eq] at this
  exact ⟨_, this.1.1.1, this.1.1.2, this.1.2, this.2⟩
/-- Each place of the table is a word. -/
theorem huff_T_places : ∀ n, n < 31 → ∀ i, i < (huff_Ws n).length → ∃ k : Nat, (huff_Ws n).getD i 0 = (k : Int) ∧ k < 257 ∧ huff_words.getD k (0, 0) = (huff_From n + i, (n : Int)) := by
  have h : (List.range 31).all (fun n => (List.range (huff_Ws n).length).all (fun i => let k := ((huff_Ws n).getD i 0).toNat; ((huff_Ws n).getD i 0 == (k : Int)) && decide (k < 257) && (huff_words.getD k (0, 0) == (huff_From n + i, (n : Int))))) = true := by decide +kernel
  intro n hn i hi
  have := List.all_eq_true.1 (List.all_eq_true.1 h n (List.mem_range.2 hn)) i (List.mem_range.2 hi)
  simp only [Bool.and_eq_true, decide_eq_true_eq, beq_iff_eq] at this
  exact ⟨_, this.1.1, this.1.2, this.2⟩
theorem huff_find_look (n : Nat) (hn : n ≤ 30) (x : Int) : huff_look n x = Option.map (fun k : Nat => (k : Int)) (huff_find 257 (x, (n : Int))) := by
  cases hf : huff_find 257 (x, (n : Int)) with
  | some k =>
    obtain ⟨hk, hw⟩ := huff_find_some _ _ _ hf
    obtain ⟨m, hm, h1, h2, _⟩ := huff_T_words k hk
    rw [hw] at h1 h2
    have : m = n := by have := h1; simp at this; omega
    subst this
    simpa using h2
  | none =>
    have hno := huff_find_none _ _ hf
    unfold huff_look
    rw [if_neg]
    · rfl
    · rintro ⟨h1, h2⟩
      obtain ⟨k, _, hk, hw⟩ := huff_T_places n (by omega) (x - huff_From n).toNat (by omega)
      refine hno k hk ?_
      rw [hw]
      refine Prod.ext ?_ rfl
      show huff_From n + (((x - huff_From n).toNat : Nat) : Int) = x
      omega
theorem huff_From_next : ∀ n, n < 30 → huff_From (n + 1) = 2 * (huff_From n + (huff_Ws n).length) := by
  have h : (List.range 30).all (fun n => decide (huff_From (n + 1) = 2 * (huff_From n + (huff_Ws n).length))) = true := by decide +kernel
  intro n hn
  simpa using List.all_eq_true.1 h n (List.mem_range.2 hn)
theorem huff_From_zero : huff_From 0 + (huff_Ws 0).length = 0 := by decide +kernel
theorem huff_From_last : huff_From 30 + (huff_Ws 30).length = 1073741824 := by decide +kernel
/-- What holds of a word that is begun. -/
structure huff_Inv (x : Int) (n : Nat) : Prop where
  n30 : n < 30
  x0 : 0 ≤ x
  x1 : x < 2 ^ n
  lo : huff_From n + (huff_Ws n).length ≤ x
theorem huff_Inv.zero : huff_Inv 0 0 := ⟨by omega, by omega, by decide, by rw [huff_From_zero]; omega⟩
theorem huff_pow_le (n : Nat) (h : n ≤ 30) : (2 : Int) ^ n ≤ 1073741824 := by
  have h1 : 2 ^ n ≤ 2 ^ 30 := Nat.pow_le_pow_right (by decide) h
  have h2 : ((2 ^ n : Nat) : Int) = 2 ^ n := by rw [Int.natCast_pow]; rfl
  have h3 : (2 : Nat) ^ 30 = 1073741824 := by decide
  omega
theorem huff_Inv.next {x : Int} {n : Nat} (h : huff_Inv x n) (b : Int) (hb : b = 0 ∨ b = 1) : 0 ≤ 2 * x + b ∧ 2 * x + b < 2 ^ (n + 1) ∧ (huff_look (n + 1) (2 * x + b) = none → huff_Inv (2 * x + b) (n + 1)) := by
  obtain ⟨h1, h2, h3, h4⟩ := h
  have hp : (2 : Int) ^ (n + 1) = 2 * 2 ^ n := by rw [Int.pow_succ]; omega
  have hx : 2 * x + b < 2 ^ (n + 1) := by omega
  refine ⟨by omega, hx, fun hl => ?_⟩
  have hf := huff_From_next n h1
  have hge : huff_From (n + 1) + (huff_Ws (n + 1)).length ≤ 2 * x + b := by
    unfold huff_look at hl
    by_cases hc : huff_From (n + 1) ≤ 2 * x + b ∧ 2 * x + b < huff_From (n + 1) + (huff_Ws (n + 1)).length
    · rw [if_pos hc] at hl; cases hl
    · omega
  refine ⟨?_, by omega, hx, hge⟩
  rcases Nat.lt_or_ge (n + 1) 30 with h5 | h5
  · exact h5
  · obtain rfl : n = 29 := by omega
    have := huff_From_last
    simp only [Nat.reduceAdd, Int.reducePow] at hge hx
    omega

/-- A bit of bytes. -/
def huff_bit (l : List Int) (i : Nat) : Int := rd l (i / 8 : Nat) % 4294967296 / 2 ^ (7 - i % 8) % 2
theorem huff_bits8_length : ∀ l, (huff_bits8 l).length = 8 * l.length
  | [] => rfl
  | c :: r => by
    have h := huff_bits8_length r
    rw [huff_bits8, List.flatMap_cons, List.length_append]
    rw [huff_bits8] at h
    rw [h]
    simp [huff_low]
    omega
theorem huff_bits8_at : ∀ (l : List Int) (i : Nat), i < 8 * l.length → (huff_bits8 l)[i]? = some (huff_bit l i)
  | [], i, h => by simp at h
  | c :: r, i, h => by
    rw [huff_bits8, List.flatMap_cons]
    by_cases h8 : i < 8
    · rw [List.getElem?_append_left (by simp [huff_low]; exact h8)]
      rcases (show i = 0 ∨ i = 1 ∨ i = 2 ∨ i = 3 ∨ i = 4 ∨ i = 5 ∨ i = 6 ∨ i = 7 by omega) with rfl | rfl | rfl | rfl | rfl | rfl | rfl | rfl <;> rfl
    · rw [List.getElem?_append_right (by simp [huff_low]; omega)]
      have ih := huff_bits8_at r (i - 8) (by simp at h; omega)
      rw [huff_bits8] at ih
      have e : (huff_low c 8).length = 8 := rfl
      rw [e, ih]
      unfold huff_bit
      rw [show i % 8 = (i - 8) % 8 by omega]
      have e2 : rd (c :: r) (i / 8 : Nat) = rd r ((i - 8) / 8 : Nat) := by
        rw [show i / 8 = (i - 8) / 8 + 1 by omega]
        unfold rd
        rw [Int.toNat_natCast, Int.toNat_natCast]
        rfl
      rw [e2]
theorem huff_bits8_drop (l : List Int) (i : Nat) (h : i < 8 * l.length) : (huff_bits8 l).drop i = huff_bit l i :: (huff_bits8 l).drop (i + 1) := by
  rw [List.drop_eq_getElem_cons (by rw [huff_bits8_length]; exact h)]
  have := huff_bits8_at l i h
  rw [List.getElem?_eq_getElem (by rw [huff_bits8_length]; exact h)] at this
  rw [Option.some.inj this]
theorem huff_bit_bd2 (l : List Int) (i : Nat) : huff_bit l i = 0 ∨ huff_bit l i = 1 := by unfold huff_bit; omega
theorem mailcoachref10_bit.at (l : List Int) (i : Nat) (h : i < 8 * l.length) (hl : l.length ≤ 1048576) : mailcoachref10_bit.f l i = some (huff_bit l i) := by
  have e1 : Int.tdiv (i : Int) 8 = ((i / 8 : Nat) : Int) := by rw [Int.tdiv_eq_ediv_of_nonneg (by omega)]; omega
  have e2 : Int.tmod (i : Int) 8 = ((i % 8 : Nat) : Int) := by rw [Int.tmod_eq_emod_of_nonneg (by omega)]; omega
  have w1 : wrap64 ((i / 8 : Nat) : Int) = ((i / 8 : Nat) : Int) := by unfold wrap64; omega
  have w2 : wrap64 (7 - ((i % 8 : Nat) : Int)) = ((7 - i % 8 : Nat) : Int) := by unfold wrap64; omega
  unfold mailcoachref10_bit.f
  rw [e1, e2, w1, w2, if_pos (by omega), if_pos (by omega), if_pos (by omega)]
  congr 1
  rw [huff_and _ (by omega) (by omega)]
  have e3 : shr .u8 (rd l ((i / 8 : Nat) : Int)) ((7 - i % 8 : Nat) : Int) = rd l ((i / 8 : Nat) : Int) / 2 ^ (7 - i % 8) := by
    unfold shr
    rw [Int.toNat_natCast, Nat.min_eq_left (by show 7 - i % 8 ≤ 8; omega)]
  rw [e3]
  unfold huff_bit
  clear w1 w2 e1 e2 e3
  obtain ⟨c, hc⟩ : ∃ c, rd l ((i / 8 : Nat) : Int) = c := ⟨_, rfl⟩
  rw [hc]
  rcases (show i % 8 = 0 ∨ i % 8 = 1 ∨ i % 8 = 2 ∨ i % 8 = 3 ∨ i % 8 = 4 ∨ i % 8 = 5 ∨ i % 8 = 6 ∨ i % 8 = 7 by omega) with h | h | h | h | h | h | h | h <;> rw [h] <;> simp <;> omega
theorem mailcoachref10_Firsts.is : mailcoachref10_Firsts.f 8000 = some (huff_T.map fun p => (⟨p.1, p.2⟩ : S75)) := by kernel_rfl
/-- The reference's rounds over the bits. Outside 'none': it would panic. -/
def ref10_go : List Int → Nat → Int → Nat → Nat → List Int → Option (Option (Nat × List Int))
  | [], _, _, _, at_, out => some (some (at_, out))
  | b :: bs, i, x, n, at_, out => if n < 30 then
      match huff_look (n + 1) (2 * x % 4294967296 + b) with
      | none => ref10_go bs (i + 1) (2 * x % 4294967296 + b) (n + 1) at_ out
      | some m => if m = 256 then some none else ref10_go bs (i + 1) 0 0 (i + 1) (out ++ [m % 256])
    else none
def mailcoachref10_Get.f (l : List Int) : Option (ByteArray × Int) :=
  if (1048576 : Int) < l.length then some (⟨#[]⟩, 3)
  else (ref10_go (huff_bits8 l) 0 0 0 0 []).bind fun r => match r with
    | none => some (⟨#[]⟩, 5)
    | some (at_, out) => if 8 * l.length < at_ then none else if at_ + 8 ≤ 8 * l.length then some (⟨#[]⟩, 5) else if ((huff_bits8 l).drop at_).all (· == 1) then some (strOfNums out, 0) else some (⟨#[]⟩, 5)
theorem mailcoachref10_Firsts.T_length : (huff_T.map fun p => (⟨p.1, p.2⟩ : S75)).length = 31 := by decide +kernel
theorem mailcoachref10_Firsts.T_at (n : Nat) (hn : n < 31) : rd_T75 (huff_T.map fun p => (⟨p.1, p.2⟩ : S75)) (n : Int) = ⟨huff_From n, huff_Ws n⟩ := by
  have hl : huff_T.length = 31 := by decide +kernel
  unfold rd_T75 huff_From huff_Ws
  rw [Int.toNat_natCast, List.getD_eq_getElem?_getD, List.getElem?_map, List.getD_eq_getElem?_getD, List.getElem?_eq_getElem (by omega)]
  rfl
theorem huff_From_bd : ∀ n, n < 31 → 0 ≤ huff_From n ∧ huff_From n ≤ 1073741824 ∧ (huff_Ws n).length ≤ 257 := by
  have h : (List.range 31).all (fun n => decide (0 ≤ huff_From n) && decide (huff_From n ≤ 1073741824) && decide ((huff_Ws n).length ≤ 257)) = true := by decide +kernel
  intro n hn
  have := List.all_eq_true.1 h n (List.mem_range.2 hn)
  simp only [Bool.and_eq_true, decide_eq_true_eq] at this
  exact ⟨this.1.1, this.1.2, this.2⟩
set_option maxHeartbeats 3200000 in
set_option maxRecDepth 100000 in
theorem mailcoachref10_Get.calls (A0 : Option Addr) (c0 : Nat) (l0 : List Int) (r1 : ByteArray) (r2 : Int) (w : World) (hr0 : Kd.C (Kd.int .u8) w A0 l0.length l0) (hc0 : l0.length ≤ c0) (h : mailcoachref10_Get.f l0 = some (r1, r2)) :
    Calls Try.prog 28 #[.slice A0 l0.length c0] w fun e w' => e = .returned (.tuple #[.string r1, .int .i64 r2]) ∧ Below w.heap.size w w' := by
  have HR0 := Aside0.mk hr0
  have HC0 := Aside0.mk hc0
  clear hr0 hc0
  by_cases hbig : (1048576 : Int) < l0.length
  · rw [mailcoachref10_Get.f, if_pos hbig] at h
    simp only [Option.some.injEq, Prod.mk.injEq] at h
    obtain ⟨rfl, rfl⟩ := h
    go_enter Try.func28, Try.ntmps28
    go_wp2_with (fail)
    go_ret2
    exact ⟨rfl, Below.refl _ _⟩
  · rw [mailcoachref10_Get.f, if_neg hbig] at h
    have HH := Aside0.mk h
    clear h
    have hl0 : l0.length ≤ 1048576 := by omega
    go_enter Try.func28, Try.ntmps28
    go_wp2_with (go_at_call 45; refine (mailcoachref10_Firsts.calls 8000 _ w mailcoachref10_Firsts.is).mono ?_; rintro e w2 ⟨v4, rfl, hs, hb⟩; obtain ⟨g4, c4, rfl, hg4a, hg4b, hg4c⟩ := Kd.S_form hs (by rw [mailcoachref10_Firsts.T_length]; omega); have HB2 := Aside0.mk hb; have HK2 := Aside0.mk (Kd.S_reads' hs).2.2; rw [mailcoachref10_Firsts.T_length]; clear hs hb hg4a hg4b hg4c)
    obtain ⟨R, hR⟩ : ∃ R, ref10_go (huff_bits8 l0) 0 0 0 0 [] = R := ⟨_, rfl⟩
    have hh := HH.out
    rw [hR] at hh
    have HH := Aside0.mk hh
    have HGO := Aside0.mk hR
    clear hh hR
    go_loopw [5, 6, 7, 8, 9] (fun v5 v6 v7 v8 v9 wr => ∃ (i n at_ : Nat) (x : Int) (out : List Int), i ≤ 8 * l0.length ∧ n ≤ 30 ∧ at_ ≤ i ∧ v9 = .int .i64 i ∧ v8 = .int .i64 n ∧ v7 = .int .u32 x ∧ v6 = .int .i64 at_ ∧ Aside0 (ref10_go ((huff_bits8 l0).drop i) i x n at_ out = R) ∧ Aside0 (out.length ≤ i) ∧ Aside0 (wr.ownsRow w2.heap.size 5 1 v5 out.length (nums .u8 out)) ∧ Aside0 (Below w2.heap.size w2 wr)) (fun _ _ _ _ v9 _ => 8 * l0.length - (intOf v9).toNat)
    case atStart => exact ⟨0, 0, 0, 0, [], by omega, by omega, by omega, rfl, rfl, rfl, rfl, HGO, ⟨by simp⟩, ⟨World.ownsRow_nil _ _ _ _⟩, ⟨Below.refl _ _⟩⟩
    case round =>
      clear HGO
      obtain ⟨i, n, at_, x, out, hi, hn, hat, rfl, rfl, rfl, rfl, HS, HOL, HO, HB⟩ := hrel
      by_cases hlt : i < 8 * l0.length
      · have hs := HS.out
        rw [huff_bits8_drop l0 i hlt, ref10_go] at hs
        by_cases hn30 : n < 30
        · rw [if_pos hn30] at hs
          have HS := Aside0.mk hs
          have hb0 := huff_bit_bd2 l0 i
          obtain ⟨b, hb⟩ : ∃ b, huff_bit l0 i = b := ⟨_, rfl⟩
          obtain ⟨X, hX⟩ : ∃ X, 2 * x % 4294967296 + b = X := ⟨_, rfl⟩
          have hc := (mailcoachref10_bit.at l0 i hlt hl0)
          rw [hb] at hc hs hb0
          rw [hX] at hs
          have HS := Aside0.mk hs
          have HBIT := Aside0.mk hc
          clear hs hc hb
          have hfb := huff_From_bd (n + 1) (by omega)
          go_upto_region 13 with (go_at_call 46; refine (mailcoachref10_bit.calls A0 c0 l0 i b _ (Kd.C_below (Kd.C_below HR0.out HB2.out) HB.out) HC0.out HBIT.out).mono ?_; rintro e w3 ⟨rfl, hd⟩; have HB3 := Aside0.mk (below_step HB.out hd.below); have HO3 := Aside0.mk (pw_own_below HO.out hd.below); clear hd)
          obtain ⟨ad4, A1, c1, e4, hx0, hx1, hl1, hi1⟩ := at_T75 (Kd.C_below HK2.out HB3.out) ((n : Int) + 1) (by omega) (by rw [mailcoachref10_Firsts.T_length]; omega)
          rw [show ((n : Int) + 1) = ((n + 1 : Nat) : Int) by omega, mailcoachref10_Firsts.T_at (n + 1) (by omega)] at hx0 hx1 hl1 hi1
          simp only at hx0 hx1 hl1 hi1
          cases e4
          simp only [add_plain, Nat.zero_add, Int.toNat_natCast] at hx0 hx1
          have HI1 := Aside0.mk hi1
          have HL1 := Aside0.mk hl1
          clear hi1 hl1
          obtain ⟨F, hF⟩ : ∃ F, huff_From (n + 1) = F := ⟨_, rfl⟩
          obtain ⟨L, hL⟩ : ∃ L, (huff_Ws (n + 1)).length = L := ⟨_, rfl⟩
          rw [hF, hL] at hfb
          rw [hF] at hx0
          rw [hL] at hx1
          have HF := Aside0.mk hF
          have HL := Aside0.mk hL
          have HX := Aside0.mk hX
          clear hF hL hX
          go_upto_region 14 with (fail)
          have HA := Aside0.mk (below_alloc HB3.out (Obj.cells #[Value.int IntKind.u32 F, Value.slice A1 L c1] 75))
          have HOA := Aside0.mk (HO3.out.alloc (Obj.cells #[Value.int IntKind.u32 F, Value.slice A1 L c1] 75))
          have HI2 := Aside0.mk (Kd.C_alloc HI1.out (Obj.cells #[Value.int IntKind.u32 F, Value.slice A1 L c1] 75))
          have hbx := man_alloc_block w3 #[Value.int IntKind.u32 F, Value.slice A1 L c1] 75
          clear hx0 hx1
          generalize w3.alloc (Obj.cells #[Value.int IntKind.u32 F, Value.slice A1 L c1] 75) = w4 at HA HOA HI2 hbx ⊢
          have hx0 : w4.cell? ⟨w3.heap.size, 0, none⟩ = some (.int .u32 F) := (blk_cell hbx 0).trans rfl
          have hx1 : w4.cell? ⟨w3.heap.size, 1, none⟩ = some (.slice A1 L c1) := (blk_cell hbx 1).trans rfl
          clear hbx
          have hs := HS.out
          by_cases h1 : F ≤ X
          · have d1 : decide (F ≤ X) = true := decide_eq_true h1
            by_cases h2 : X < F + L
            · have d2 : decide (X < F + (L : Int)) = true := decide_eq_true h2
              obtain ⟨m, hm⟩ : ∃ m, (huff_Ws (n + 1)).getD (X - F).toNat 0 = m := ⟨_, rfl⟩
              have hlk : huff_look (n + 1) X = some m := by unfold huff_look; rw [HF.out, HL.out, if_pos ⟨h1, h2⟩, hm]
              rw [hlk] at hs
              have HS := Aside0.mk hs
              clear hs hlk
              obtain ⟨ad1, e1, hx2⟩ := Kd.at_int HI2.out (X - F) (by omega) (by rw [HL.out]; omega)
              cases e1
              have hm2 : rd (huff_Ws (n + 1)) (X - F) = m := hm
              rw [hm2] at hx2
              clear hm hm2
              by_cases hm : m = 256
              · subst hm
                have hr : some none = R := by simpa using HS.out
                subst hr
                have hh := HH.out
                simp only [Option.bind_some, Option.some.injEq, Prod.mk.injEq] at hh
                obtain ⟨rfl, rfl⟩ := hh
                go_wp2_with (fail)
                go_ret2
                exact ⟨rfl, below_step HB2.out HA.out⟩
              · have hm0 : (m == 256) = false := beq_eq_false_iff_ne.mpr hm
                have hs : ref10_go (List.drop (i + 1) (huff_bits8 l0)) (i + 1) 0 0 (i + 1) (out ++ [m % 256]) = R := by simpa [hm] using HS.out
                have HS := Aside0.mk hs
                clear hs hm
                go_wp2_with (at_builtin; go_must (refine print_append_num (w0 := w2) w2.heap.size rfl (.tmp 60) (.tmp 63) 22 5 .u8 1 rfl Try.underlying22 man_info_u8 (by decide) _ out (m % 256) rfl rfl HOA.out HA.out HA.out.size (by have := HOL.out; omega) ?_); intro v1 w5 ho1 hb1 hgr hat; have HO5 := Aside0.mk ho1; have HB5 := Aside0.mk hb1; clear ho1 hb1 hgr hat)
                go_roundw
                case rel => exact ⟨i + 1, 0, i + 1, 0, out ++ [m % 256], by omega, by omega, by omega, by go_num, rfl, rfl, by go_num, HS, ⟨by have := HOL.out; simp; omega⟩, HO5, HB5⟩
                case measure => simp [intOf]; omega
            · have d2 : decide (X < F + (L : Int)) = false := decide_eq_false h2
              have hlk : huff_look (n + 1) X = none := by unfold huff_look; rw [HF.out, HL.out, if_neg (fun h => h2 h.2)]
              rw [hlk] at hs
              have HS := Aside0.mk hs
              clear hs hlk
              go_wp2_with (fail)
              go_roundw
              case rel => exact ⟨i + 1, n + 1, at_, X, out, by omega, by omega, by omega, by go_num, by go_num, rfl, rfl, HS, ⟨by have := HOL.out; omega⟩, HOA, HA⟩
              case measure => simp [intOf]; omega
          · have d1 : decide (F ≤ X) = false := decide_eq_false h1
            have hlk : huff_look (n + 1) X = none := by unfold huff_look; rw [HF.out, HL.out, if_neg (fun h => h1 h.1)]
            rw [hlk] at hs
            have HS := Aside0.mk hs
            clear hs hlk
            go_wp2_with (fail)
            go_roundw
            case rel => exact ⟨i + 1, n + 1, at_, X, out, by omega, by omega, by omega, by go_num, by go_num, rfl, rfl, HS, ⟨by have := HOL.out; omega⟩, HOA, HA⟩
            case measure => simp [intOf]; omega
        · rw [if_neg hn30] at hs
          subst hs
          exact absurd HH.out (by simp)
      · have hs := HS.out
        rw [List.drop_eq_nil_of_le (by rw [huff_bits8_length]; omega)] at hs
        have hr : some (some (at_, out)) = R := hs
        subst hr
        have hh := HH.out
        simp only [Option.bind_some] at hh
        rw [if_neg (by omega)] at hh
        clear hs HS
        by_cases h8 : at_ + 8 ≤ 8 * l0.length
        · rw [if_pos h8] at hh
          simp only [Option.some.injEq, Prod.mk.injEq] at hh
          obtain ⟨rfl, rfl⟩ := hh
          go_wp2_with (fail)
          go_ret2
          exact ⟨rfl, below_step HB2.out HB.out⟩
        · rw [if_neg h8] at hh
          have HH := Aside0.mk hh
          clear hh
          have d8 : decide (8 ≤ 8 * (l0.length : Int) - (at_ : Int)) = false := decide_eq_false (by omega)
          go_wp2_with (fail)
          go_loopw [6] (fun v6 wr2 => ∃ j : Nat, j ≤ 8 * l0.length ∧ v6 = .int .i64 j ∧ Aside0 ((if ((huff_bits8 l0).drop j).all (· == 1) = true then some (strOfNums out, 0) else some (⟨#[]⟩, 5)) = some (r1, r2)) ∧ Aside0 (wr2.ownsRow w2.heap.size 5 1 u5 out.length (nums .u8 out)) ∧ Aside0 (Below w2.heap.size w2 wr2)) (fun v6 _ => 8 * l0.length - (intOf v6).toNat)
          case atStart => exact ⟨at_, by omega, rfl, HH, HO, HB⟩
          case round =>
            clear HH HO HB
            obtain ⟨j, hj, rfl, HH, HO, HB⟩ := hrel
            by_cases hlt2 : j < 8 * l0.length
            · have hh := HH.out
              rw [huff_bits8_drop l0 j hlt2, List.all_cons] at hh
              have hc := (mailcoachref10_bit.at l0 j hlt2 hl0)
              have hb0 := huff_bit_bd2 l0 j
              obtain ⟨b, hb⟩ : ∃ b, huff_bit l0 j = b := ⟨_, rfl⟩
              rw [hb] at hc hb0 hh
              have HBIT := Aside0.mk hc
              clear hc hb
              rcases hb0 with rfl | rfl
              · simp only [show ((0 : Int) == 1) = false from rfl, Bool.false_and, Bool.false_eq_true, if_false, Option.some.injEq, Prod.mk.injEq] at hh
                obtain ⟨rfl, rfl⟩ := hh
                go_wp2_with (go_at_call 46; refine (mailcoachref10_bit.calls A0 c0 l0 j 0 _ (Kd.C_below (Kd.C_below HR0.out HB2.out) HB.out) HC0.out HBIT.out).mono ?_; rintro e w3 ⟨rfl, hd⟩; have HB3 := Aside0.mk (below_step HB.out hd.below); clear hd)
                go_ret2
                exact ⟨rfl, below_step HB2.out HB3.out⟩
              · simp only [show ((1 : Int) == 1) = true from rfl, Bool.true_and] at hh
                have HH := Aside0.mk hh
                clear hh
                go_wp2_with (go_at_call 46; refine (mailcoachref10_bit.calls A0 c0 l0 j 1 _ (Kd.C_below (Kd.C_below HR0.out HB2.out) HB.out) HC0.out HBIT.out).mono ?_; rintro e w3 ⟨rfl, hd⟩; have HB3 := Aside0.mk (below_step HB.out hd.below); have HO3 := Aside0.mk (pw_own_below HO.out hd.below); clear hd)
                go_roundw
                case rel => exact ⟨j + 1, by omega, by go_num, HH, HO3, HB3⟩
                case measure => simp [intOf]; omega
            · obtain rfl : j = 8 * l0.length := by omega
              have hh := HH.out
              rw [List.drop_eq_nil_of_le (by rw [huff_bits8_length]; exact Nat.le_refl _)] at hh
              simp only [List.all_nil, if_true, Option.some.injEq, Prod.mk.injEq] at hh
              obtain ⟨rfl, rfl⟩ := hh
              have hstr := own_string (P := Try.prog) (src := 22) (dst := 9) Try.underlying22 Try.underlying5 Try.underlying9 HO.out
              go_wp2_with (fail)
              go_ret2
              exact ⟨rfl, below_step HB2.out HB.out⟩


end Go.Proofs.Ytmkmefdajbdceaa.PTX
