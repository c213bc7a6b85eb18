-- Written by wip/mprint.py (the kit's printer, and texts of this claim's own for what it does not take). Not trusted: Lean checks it.
import Derived.Test.YtmkmefdajbdceaaDoorPVQx0
import Derived.Test.YtmkmefdajbdceaaDoorPVQx7
namespace Go.Proofs.YtmkmefdajbdceaaDoor.PVQ
open Go.RowKit Go.Proofs.YtmkmefdajbdceaaDoorW.PrintWords Go.Proofs.YtmkmefdajbdceaaDoorW.PrintLast Go.Proofs.YtmkmefdajbdceaaDoorW.PrintMore
attribute [local go_sem] max2_int min2_int max_two min_two max_three min_three max_four min_four   -- for this text's walks alone
set_option linter.unusedVariables false
set_option linter.unusedSimpArgs false

/-! ### varint_PutPrefix: function 11, by hand -/
theorem man_info_u8 : (Tryd.prog.info? 5).map (fun i => (i.zero, i.size, i.bytes)) = some (some (.int .u8 0), 1, 1) := by kernel_rfl
/-- A number's place in a list. -/
theorem man_take_snoc (l : List Int) (k : Nat) (hk : k < l.length) : l.take (k + 1) = l.take k ++ [rd l k] := by
  rw [List.take_succ_eq_append_getElem hk]
  simp [rd, List.getD_eq_getElem?_getD, List.getElem?_eq_getElem hk]
/-- A list of bytes in memory of the call's own, with the mark behind it. -/
def Twin (w : World) (base : Nat) (v : Value) (l : List Int) : Prop :=
  ∃ g cap, v = .slice (some ⟨g, 0, none⟩) l.length cap ∧ w.ownsRow base 5 1 (.slice (some ⟨g, 0, none⟩) (l.length + 1) cap) (l.length + 1) (nums .u8 (l ++ [77]))
theorem Twin.below {w w1 : World} {base : Nat} {v : Value} {l : List Int} (h : Twin w base v l) (hb : Below w.heap.size w w1) : Twin w1 base v l := by
  obtain ⟨g, cap, hv, ho⟩ := h
  exact ⟨g, cap, hv, pw_own_below ho hb⟩
theorem Twin.reads {w : World} {base : Nat} {v : Value} {l : List Int} (h : Twin w base v l) : ∃ A c, v = .slice A l.length c ∧ Kd.C (Kd.int .u8) w A l.length l ∧ l.length + 1 ≤ c ∧ Kd.C (Kd.int .u8) w A (l ++ [77]).length (l ++ [77]) := by
  obtain ⟨g, cap, rfl, ho⟩ := h
  have hr := own_reads' ho
  have hC : Kd.C (Kd.int .u8) w (some ⟨g, 0, none⟩) (l ++ [77]).length (l ++ [77]) := by
    have h := Kd.C_of_reads (enc := Value.int .u8) (d := (0 : Int)) (h1 := fun _ => rfl) hr
    rw [List.length_append]
    exact h
  refine ⟨some ⟨g, 0, none⟩, cap, rfl, ?_, own_cap ho, hC⟩
  have h2 := Kd.C_take (m := l.length) hC (by simp)
  simpa using h2

theorem or_join (i : Nat) (a c : Int) (h0 : 0 ≤ a) (c0 : 0 ≤ c) (c1 : c < 2 ^ i) (h1 : a * 2 ^ i + c < 18446744073709551616) : bits .or .u64 (a * 2 ^ i) c = a * 2 ^ i + c := by
  obtain ⟨a, rfl⟩ := Int.eq_ofNat_of_zero_le h0
  obtain ⟨c, rfl⟩ := Int.eq_ofNat_of_zero_le c0
  have e : (a : Int) * 2 ^ i = ((2 ^ i * a : Nat) : Int) := by rw [Int.natCast_mul, Int.natCast_pow, Int.mul_comm]; rfl
  rw [e] at h1 ⊢
  have hc : c < 2 ^ i := by
    have : ((2 ^ i : Nat) : Int) = 2 ^ i := by rw [Int.natCast_pow]; rfl
    omega
  rw [u64_or_nat _ _ (by omega) (by omega), ← Nat.two_pow_add_eq_or_of_lt hc]
  omega
theorem or_comm64 (a c : Int) (h0 : 0 ≤ a) (h1 : a < 18446744073709551616) (c0 : 0 ≤ c) (c1 : c < 18446744073709551616) : bits .or .u64 a c = bits .or .u64 c a := by
  rw [u64_or a c h0 h1 c0 c1, u64_or c a c0 c1 h0 h1, Nat.or_comm]
theorem u8_and127 (x : Int) (h0 : 0 ≤ x) (h1 : x < 256) : bits .and .u8 x 127 = x % 128 := bits_mask .u8 8 (by decide) wraps_u8 7 (by decide) x h0 h1


def varint_GetPrefix.ok (l : List Int) : Bool := l.all fun x => decide (0 ≤ x) && decide (x < 256)
/-- What is told of the bytes behind the first one, from number i on, v being what came up to there. -/
def varint_GetPrefix.S (t : List Int) (m above : Int) : Nat → Nat → Int → Int × Int × Int × Int
  | 0, _, _ => (0, 0, 0, if t.length ≥ 10 then 5 else 4)
  | d + 1, i, v => if i < t.length then
      (if rd t i < 128 then
        (if v + rd t i % 128 * 2 ^ (7 * i) > 4611686018427387903 - m then (0, 0, 0, 3) else (above, v + rd t i % 128 * 2 ^ (7 * i) + m, (i : Int) + 2, 0))
       else varint_GetPrefix.S t m above d (i + 1) (v + rd t i % 128 * 2 ^ (7 * i)))
      else (0, 0, 0, if t.length ≥ 10 then 5 else 4)
def varint_GetPrefix.M (a0 : Int) : Int := 2 ^ a0.toNat - 1
def varint_GetPrefix.f (a0 : Int) (l1 : List Int) : Option (Int × Int × Int × Int) :=
  if a0 < 1 ∨ 8 < a0 then some (0, 0, 0, 1)
  else if l1.length = 0 then some (0, 0, 0, 4)
  else if varint_GetPrefix.ok l1 = true then
    (if rd l1 0 % 2 ^ a0.toNat < varint_GetPrefix.M a0 then some (rd l1 0 - rd l1 0 % 2 ^ a0.toNat, rd l1 0 % 2 ^ a0.toNat, 1, 0)
     else some (varint_GetPrefix.S (l1.drop 1) (varint_GetPrefix.M a0) (rd l1 0 - rd l1 0 % 2 ^ a0.toNat) 10 0 0))
  else none
theorem varint_GetPrefix.rd_bd {l : List Int} (hl : varint_GetPrefix.ok l = true) (i : Nat) (hi : i < l.length) : 0 ≤ rd l i ∧ rd l i < 256 := by
  have h := List.all_eq_true.1 hl (rd l i) (by
    unfold rd
    rw [List.getD_eq_getElem?_getD, List.getElem?_eq_getElem (by simpa using hi)]
    exact List.getElem_mem _)
  simpa using h
/-- The machine's words for the mask and what it parts. -/
theorem varint_GetPrefix.mask (a0 x : Int) (h : 1 ≤ a0) (h8 : a0 ≤ 8) (x0 : 0 ≤ x) (x1 : x < 256) :
    IntKind.u64.wrap (IntKind.u64.wrap (2 ^ a0.toNat) - 1) = varint_GetPrefix.M a0 ∧ varint_GetPrefix.M a0 % 256 = varint_GetPrefix.M a0 ∧
    bits .and .u64 x (varint_GetPrefix.M a0) = x % 2 ^ a0.toNat ∧ bits .andNot .u8 x (varint_GetPrefix.M a0) = x - x % 2 ^ a0.toNat ∧ 1 ≤ varint_GetPrefix.M a0 ∧ varint_GetPrefix.M a0 ≤ 255 ∧ 0 ≤ x % 2 ^ a0.toNat := by
  have hx : x = ((x.toNat : Nat) : Int) := by omega
  have hxl : x.toNat < 256 := by omega
  rcases (show a0 = 1 ∨ a0 = 2 ∨ a0 = 3 ∨ a0 = 4 ∨ a0 = 5 ∨ a0 = 6 ∨ a0 = 7 ∨ a0 = 8 by omega) with rfl | rfl | rfl | rfl | rfl | rfl | rfl | rfl
  all_goals
    refine ⟨by decide +kernel, by decide +kernel, ?_, ?_, by decide +kernel, by decide +kernel, by omega⟩
    · rw [hx]
      exact of_decide_eq_true (List.all_eq_true.1 (show (List.range 256).all (fun n => decide (bits .and .u64 (n : Int) (varint_GetPrefix.M _) = (n : Int) % 2 ^ (Int.toNat _))) = true by decide +kernel) _ (List.mem_range.2 hxl))
    · rw [hx]
      exact of_decide_eq_true (List.all_eq_true.1 (show (List.range 256).all (fun n => decide (bits .andNot .u8 (n : Int) (varint_GetPrefix.M _) = (n : Int) - (n : Int) % 2 ^ (Int.toNat _))) = true by decide +kernel) _ (List.mem_range.2 hxl))
theorem varint_GetPrefix.S_end (t : List Int) (m a : Int) (d i : Nat) (v : Int) (h : d = 0 ∨ ¬ i < t.length) : varint_GetPrefix.S t m a d i v = (0, 0, 0, if t.length ≥ 10 then 5 else 4) := by
  cases d with
  | zero => simp only [varint_GetPrefix.S]
  | succ d =>
    simp only [varint_GetPrefix.S]
    rw [if_neg (by omega)]
/-- One part more. -/
theorem varint_GetPrefix.add (i : Nat) (hi : i < 10) (p v : Int) (p0 : 0 ≤ p) (p1 : p < 128) (v0 : 0 ≤ v) (v1 : v < 2 ^ (7 * i)) :
    (p * 2 ^ (7 * i) < 18446744073709551616 ∧ IntKind.u64.wrap (p * 2 ^ (7 * i)) / 2 ^ (7 * i) = p ∧ bits .or .u64 v (IntKind.u64.wrap (p * 2 ^ (7 * i))) = v + p * 2 ^ (7 * i) ∧ v + p * 2 ^ (7 * i) < 18446744073709551616 ∧ v + p * 2 ^ (7 * i) < 2 ^ (7 * (i + 1)) ∧ 0 ≤ p * 2 ^ (7 * i)) ∨
    (18446744073709551616 ≤ p * 2 ^ (7 * i) ∧ (IntKind.u64.wrap (p * 2 ^ (7 * i)) / 2 ^ (7 * i) != p) = true ∧ i = 9 ∧ v + p * 2 ^ (7 * i) < 2 ^ (7 * (i + 1))) := by
  by_cases ho : p * 2 ^ (7 * i) < 18446744073709551616
  · left
    have hw : IntKind.u64.wrap (p * 2 ^ (7 * i)) = p * 2 ^ (7 * i) := by
      rw [IntKind.wrap_u64, Int.emod_eq_of_lt (Int.mul_nonneg p0 (Int.le_of_lt (Int.pow_pos (by decide)))) ho]
    have hs : v + p * 2 ^ (7 * i) < 18446744073709551616 ∧ v + p * 2 ^ (7 * i) < 2 ^ (7 * (i + 1)) ∧ 0 ≤ p * 2 ^ (7 * i) ∧ p * 2 ^ (7 * i) / 2 ^ (7 * i) = p := by
      rcases (show i = 0 ∨ i = 1 ∨ i = 2 ∨ i = 3 ∨ i = 4 ∨ i = 5 ∨ i = 6 ∨ i = 7 ∨ i = 8 ∨ i = 9 by omega) with rfl | rfl | rfl | rfl | rfl | rfl | rfl | rfl | rfl | rfl <;> simp only [Nat.reduceMul, Nat.reduceAdd, Int.reducePow] at v1 ho ⊢ <;> omega
    rw [hw]
    refine ⟨ho, hs.2.2.2, ?_, hs.1, hs.2.1, hs.2.2.1⟩
    have e := or_join (7 * i) p v p0 v0 v1 (by omega)
    rw [or_comm64 _ _ v0 (by omega) hs.2.2.1 ho, e, Int.add_comm]
  · right
    have h9 : i = 9 := by
      rcases (show i = 0 ∨ i = 1 ∨ i = 2 ∨ i = 3 ∨ i = 4 ∨ i = 5 ∨ i = 6 ∨ i = 7 ∨ i = 8 ∨ i = 9 by omega) with rfl | rfl | rfl | rfl | rfl | rfl | rfl | rfl | rfl | rfl <;> first | rfl | (simp only [Nat.reduceMul, Nat.reduceAdd, Int.reducePow] at v1 ho; omega)
    subst h9
    simp only [Nat.reduceMul, Nat.reduceAdd, Int.reducePow] at v1 ho ⊢
    refine ⟨by omega, ?_, trivial, by omega⟩
    rw [IntKind.wrap_u64]
    simp only [bne_iff_ne, ne_eq]
    omega
theorem man_R_of_own {w : World} {base : Nat} {e : TypeId} {k : IntKind} {v : Value} {n : Nat} {xs : List Int} (h : w.ownsRow base e 1 v n (nums k xs)) : Kd.R (Kd.int k) e w base (fun _ => True) v xs := by
  have hl : xs.length = n := by have := h.1; simp [nums] at this; exact this
  subst hl
  exact Kd.R_of_own (enc := Value.int k) (h1 := fun _ => rfl) h (fun _ _ => trivial)

theorem or8_join (i : Nat) (hi : i ≤ 8) (a c : Int) (h0 : 0 ≤ a) (h1 : a < 256) (hm : a % 2 ^ i = 0) (c0 : 0 ≤ c) (c1 : c < 2 ^ i) : bits .or .u8 a c = a + c := by
  have hle : (2 : Int) ^ i ≤ 256 := by
    rcases (show i = 0 ∨ i = 1 ∨ i = 2 ∨ i = 3 ∨ i = 4 ∨ i = 5 ∨ i = 6 ∨ i = 7 ∨ i = 8 by omega) with rfl | rfl | rfl | rfl | rfl | rfl | rfl | rfl | rfl <;> decide
  rw [u8_or a c h0 h1 c0 (by omega)]
  obtain ⟨a, rfl⟩ := Int.eq_ofNat_of_zero_le h0
  obtain ⟨c, rfl⟩ := Int.eq_ofNat_of_zero_le c0
  have hp : ((2 ^ i : Nat) : Int) = 2 ^ i := by rw [Int.natCast_pow]; rfl
  have hm2 : a % 2 ^ i = 0 := by rw [← hp] at hm; exact_mod_cast hm
  have hc2 : c < 2 ^ i := by rw [← hp] at c1; exact_mod_cast c1
  have e : a = 2 ^ i * (a / 2 ^ i) := by have := Nat.div_add_mod a (2 ^ i); omega
  simp only [Int.toNat_natCast]
  rw [e, ← Nat.two_pow_add_eq_or_of_lt hc2]
  omega
def varint_PutPrefix.f (a0 a1 a2 : Int) : Option (List Int × Int) :=
  if a1 < 1 ∨ 8 < a1 ∨ 4611686018427387903 < a2 then some ([], 1)
  else if a0 < 0 ∨ 256 ≤ a0 ∨ a2 < 0 then none
  else if a0 % 2 ^ a1.toNat ≠ 0 then some ([], 1)
  else if a2 < varint_GetPrefix.M a1 then some ([a0 + a2], 0)
  else some ((a0 + varint_GetPrefix.M a1) :: varint_sevens.L 9 (a2 - varint_GetPrefix.M a1), 0)
theorem varint_PutPrefix.bad (a0 a1 a2 : Int) (w : World) (h : a1 < 1 ∨ 8 < a1 ∨ 4611686018427387903 < a2) :
    Calls Tryd.prog 11 #[.int .u8 a0, .int .i64 a1, .int .u64 a2] w fun e w' => e = .returned (.tuple #[.slice none 0 0, .int .i64 1]) ∧ Below w.heap.size w w' := by
  by_cases h1 : a1 < 1
  · go_enter Tryd.func11, Tryd.ntmps11
    go_wp2
    go_ret2
    exact ⟨rfl, Below.refl _ _⟩
  · by_cases h8 : 8 < a1
    · go_enter Tryd.func11, Tryd.ntmps11
      go_wp2
      go_ret2
      exact ⟨rfl, Below.refl _ _⟩
    · have hn : 4611686018427387903 < a2 := by omega
      go_enter Tryd.func11, Tryd.ntmps11
      go_wp2
      go_ret2
      exact ⟨rfl, Below.refl _ _⟩
set_option maxHeartbeats 1600000 in
set_option maxRecDepth 100000 in
theorem varint_PutPrefix.small (a0 a1 a2 : Int) (w : World) (h1 : 1 ≤ a1) (h8 : a1 ≤ 8) (h20 : 0 ≤ a2) (h2 : a2 ≤ 4611686018427387903) (h0 : 0 ≤ a0) (h00 : a0 < 256) (hs : a0 % 2 ^ a1.toNat ≠ 0 ∨ a2 < varint_GetPrefix.M a1) :
    Calls Tryd.prog 11 #[.int .u8 a0, .int .i64 a1, .int .u64 a2] w fun e w' => ∃ v, e = .returned (.tuple #[v, .int .i64 (if a0 % 2 ^ a1.toNat ≠ 0 then 1 else 0)]) ∧ Kd.R (Kd.int .u8) 5 w' w.heap.size (fun _ => True) v (if a0 % 2 ^ a1.toNat ≠ 0 then [] else [a0 + a2]) ∧ Below w.heap.size w w' := by
  have hd1 : decide (a1 < 1) = false := decide_eq_false (by omega)
  have hd8 : decide (8 < a1) = false := decide_eq_false (by omega)
  have hdn : decide (4611686018427387903 < a2) = false := decide_eq_false (by omega)
  obtain ⟨e1, e2, e3, e4, m1, m2, k0⟩ := varint_GetPrefix.mask a1 a0 h1 h8 h0 h00
  have e3' : bits .and .u8 a0 (varint_GetPrefix.M a1) = a0 % 2 ^ a1.toNat := by
    rw [u8_and _ _ h0 h00 (by omega) (by omega)]
    rw [u64_and _ _ h0 (by omega) (by omega) (by omega)] at e3
    exact e3
  have e5 : (2 ^ a1.toNat - 1) % 256 = varint_GetPrefix.M a1 := by unfold varint_GetPrefix.M at e2 ⊢; exact e2
  have hor : a0 % 2 ^ a1.toNat = 0 → a2 < varint_GetPrefix.M a1 → bits .or .u8 a0 a2 = a0 + a2 := fun hm hl => or8_join a1.toNat (by omega) a0 a2 h0 h00 hm h20 (by unfold varint_GetPrefix.M at hl; omega)
  have HB : a0 % 2 ^ a1.toNat = 0 → a2 < varint_GetPrefix.M a1 → a0 + a2 < 256 := fun hm hl => by
    have h6 : a0 + a2 = a0 + a2 := rfl
    rcases (show a1 = 1 ∨ a1 = 2 ∨ a1 = 3 ∨ a1 = 4 ∨ a1 = 5 ∨ a1 = 6 ∨ a1 = 7 ∨ a1 = 8 by omega) with rfl | rfl | rfl | rfl | rfl | rfl | rfl | rfl <;> simp only [varint_GetPrefix.M, show Int.toNat 1 = 1 from rfl, show Int.toNat 2 = 2 from rfl, show Int.toNat 3 = 3 from rfl, show Int.toNat 4 = 4 from rfl, show Int.toNat 5 = 5 from rfl, show Int.toNat 6 = 6 from rfl, show Int.toNat 7 = 7 from rfl, show Int.toNat 8 = 8 from rfl, Int.reducePow] at hm hl <;> omega
  obtain ⟨M, hM⟩ : ∃ M, varint_GetPrefix.M a1 = M := ⟨_, rfl⟩
  obtain ⟨K, hK⟩ : ∃ K, a0 % 2 ^ a1.toNat = K := ⟨_, rfl⟩
  rw [hM] at e1 e2 e3' e5 m1 m2 hs hor
  rw [hK] at e3' k0 hs hor ⊢
  clear e3 e4 hM hK HB
  by_cases hk : K = 0
  · rcases hs with hs | hs
    · exact absurd hk hs
    · have ho := hor hk hs
      have hk2 : (K != 0) = false := by simp [hk]
      rw [if_neg (by simp [hk]), if_neg (by simp [hk])]
      clear hor hk
      go_enter Tryd.func11, Tryd.ntmps11
      go_wp2
      go_ret2
      exact ⟨_, rfl, man_R_of_own (own_lit w w.heap.size 5 .u8 [a0 + a2] (Nat.le_refl _) (by simp)), below_alloc (Below.refl _ _) _⟩
  · have hk2 : (K != 0) = true := by simp [hk]
    rw [if_pos hk, if_pos hk]
    clear hor hs
    go_enter Tryd.func11, Tryd.ntmps11
    go_wp2
    go_ret2
    exact ⟨_, rfl, Kd.R_nil _ _ _ _ _, Below.refl _ _⟩
theorem varint_sevens.L_length (k : Nat) : ∀ n : Int, (varint_sevens.L k n).length ≤ k + 1 := by
  induction k with
  | zero => intro n; simp [varint_sevens.L]
  | succ k ih =>
    intro n
    simp only [varint_sevens.L]
    split
    · have := ih (n / 128)
      simp only [List.length_cons]
      omega
    · simp
section
attribute [local go_sem] Oper.semAt_some
set_option maxHeartbeats 3200000 in
set_option maxRecDepth 100000 in
theorem varint_PutPrefix.great (a0 a1 a2 : Int) (w : World) (h1 : 1 ≤ a1) (h8 : a1 ≤ 8) (h20 : 0 ≤ a2) (h2 : a2 ≤ 4611686018427387903) (h0 : 0 ≤ a0) (h00 : a0 < 256) (hs : a0 % 2 ^ a1.toNat = 0) (hl : ¬ a2 < varint_GetPrefix.M a1) :
    Calls Tryd.prog 11 #[.int .u8 a0, .int .i64 a1, .int .u64 a2] w fun e w' => ∃ v, e = .returned (.tuple #[v, .int .i64 0]) ∧ Kd.R (Kd.int .u8) 5 w' w.heap.size (fun _ => True) v ((a0 + varint_GetPrefix.M a1) :: varint_sevens.L 9 (a2 - varint_GetPrefix.M a1)) ∧ Below w.heap.size w w' := by
  have hd1 : decide (a1 < 1) = false := decide_eq_false (by omega)
  have hd8 : decide (8 < a1) = false := decide_eq_false (by omega)
  have hdn : decide (4611686018427387903 < a2) = false := decide_eq_false (by omega)
  obtain ⟨e1, e2, e3, e4, m1, m2, k0⟩ := varint_GetPrefix.mask a1 a0 h1 h8 h0 h00
  have e3' : bits .and .u8 a0 (varint_GetPrefix.M a1) = 0 := by
    rw [u8_and _ _ h0 h00 (by omega) (by omega)]
    rw [u64_and _ _ h0 (by omega) (by omega) (by omega), hs] at e3
    exact e3
  have e5 : (2 ^ a1.toNat - 1) % 256 = varint_GetPrefix.M a1 := by unfold varint_GetPrefix.M at e2 ⊢; exact e2
  have hor : bits .or .u8 a0 (varint_GetPrefix.M a1) = a0 + varint_GetPrefix.M a1 := or8_join a1.toNat (by omega) a0 _ h0 h00 hs (by omega) (by unfold varint_GetPrefix.M; omega)
  obtain ⟨M, hM⟩ : ∃ M, varint_GetPrefix.M a1 = M := ⟨_, rfl⟩
  rw [hM] at e1 e2 e3' e5 m1 m2 hl hor ⊢
  obtain ⟨f0, hf0⟩ : ∃ f0, a0 + M = f0 := ⟨_, rfl⟩
  rw [hf0] at hor ⊢
  clear e3 e4 hM k0 hs hf0
  obtain ⟨i0, hi, hzz⟩ := Option.map_eq_some_iff.1 man_info_u8
  simp only [Prod.mk.injEq] at hzz
  obtain ⟨hz0, hz1, hz2⟩ := hzz
  refine (callsIn_wide (n := 6)).1 ?_
  have hro : Fence.wide.round = none := rfl
  refine callsIn_of_wp_marks Tryd.func11 rfl trivial ?_ hro
  simp only [Tryd.ntmps11, List.size_toArray, List.length_cons, List.length_nil, Nat.reduceAdd, Nat.reduceSub, Array.replicate_succ, Array.replicate_zero, List.push_toArray, List.append_toArray, List.nil_append, List.cons_append]
  gi_wp2
  refine ⟨trivial, (callsIn_wide.2 (varint_sevens.calls _ _)).mono ?_⟩
  rintro e w' ⟨rfl, rfl⟩
  gi_wp2
  obtain ⟨W2, hW2⟩ : ∃ W2, ((w.alloc (Obj.cells #[Value.int IntKind.u8 f0] 5)).alloc (Obj.cells #[Value.slice (some { block := w.heap.size, off := 0 }) 1 1] 23)).alloc (Obj.cells #[Value.int IntKind.u64 (a2 - M)] 22) = W2 := ⟨_, rfl⟩
  have hsz2 : W2.heap.size = w.heap.size + 3 := by rw [← hW2]; simp
  have hbox : Boxed W2 (w.heap.size + 2) 22 (.int .u64 (a2 - M)) := by
    rw [← hW2]
    have := Boxed.new ((w.alloc (Obj.cells #[Value.int IntKind.u8 f0] 5)).alloc (Obj.cells #[Value.slice (some { block := w.heap.size, off := 0 }) 1 1] 23)) 22 (.int .u64 (a2 - M))
    simpa using this
  have hout : Boxed W2 (w.heap.size + 1) 23 (.slice (some ⟨w.heap.size, 0, none⟩) 1 1) := by
    rw [← hW2]
    have := (Boxed.new (w.alloc (Obj.cells #[Value.int IntKind.u8 f0] 5)) 23 (.slice (some ⟨w.heap.size, 0, none⟩) 1 1)).alloc (Obj.cells #[Value.int IntKind.u64 (a2 - M)] 22)
    simpa using this
  have hrow : W2.ownsRow w.heap.size 5 1 (.slice (some ⟨w.heap.size, 0, none⟩) 1 1) 1 (nums .u8 [f0]) := by
    rw [← hW2]
    exact ((own_lit w w.heap.size 5 .u8 [f0] (Nat.le_refl _) (by simp)).alloc _).alloc _
  have hbel : Below w.heap.size w W2 := by
    rw [← hW2]
    exact ((((Below.refl _ w).alloc (Nat.le_refl _) _).alloc (by simp) _).alloc (by simp; omega) _)
  rw [hW2]
  have HLEN := Aside0.mk (varint_sevens.L_length 9 (a2 - M))
  have HW2 := Aside0.mk hW2
  have HSZ := Aside0.mk hsz2
  clear hW2 hsz2
  refine wpIn_runs (n := 6) hro (by omega) (gf := 87) (lb := #[.pointer (some ⟨w.heap.size + 2, 0, none⟩)]) rfl trivial (enters_of Tryd.func87 (by kernel_rfl) rfl)
    (varint_sevens.runs Fence.wide 5 trivial hro (by omega) (w.heap.size + 2) (a2 - M) (by omega) (by omega) W2 hbox) (by rw [HSZ.out]; omega) (fun h1 h2 v hv => h2 v (h1 v hv)) ?hKb (fun _ => rfl)
    (fun pre W => (∃ v, Boxed W (w.heap.size + 1) 23 v ∧ W.ownsRow w.heap.size 5 1 v (f0 :: pre).length (nums .u8 (f0 :: pre))) ∧ (∃ u, Boxed W (w.heap.size + 2) 22 u) ∧ Below w.heap.size w W) ?hI ⟨⟨_, hout, hrow⟩, ⟨_, hbox⟩, hbel⟩ ?a1 ?assign ?body ?done
  case assign =>
    intro l x W K hK
    gi_wp2
    exact hK
  case hKb =>
    intro W l o hl v hv
    exact (World.putObj_heap_other (by rw [HSZ.out] at hl; omega)).trans hv
  case hI =>
    rintro s X Y row ⟨⟨v, hv, ho⟩, ⟨u, hu⟩, hB⟩ hg hr
    have hne : ∀ r, row = some r → some r ≠ some (w.heap.size + 1) ∧ some r ≠ v.ownBlock ∧ w.heap.size ≤ r ∧ (r = w.heap.size + 2 → ∃ u, Boxed Y (w.heap.size + 2) 22 u) := by
      intro r e
      rcases hr r e with ⟨rfl, hu'⟩ | ⟨hr1, o, hro1, hro2⟩
      · exact ⟨by simp, hu.not_row (by decide) ho, by omega, fun _ => hu'⟩
      · refine ⟨fun e2 => ?_, fun e2 => ?_, by rw [HSZ.out] at hr1; omega, fun e2 => ?_⟩
        · cases e2; rw [show X.heap[w.heap.size + 1]? = _ from hv] at hro1; cases hro1; cases hro2
        · obtain ⟨cells, hc⟩ := own_typed ho r e2.symm
          rw [hc] at hro1; cases hro1; cases hro2
        · subst e2; rw [show X.heap[w.heap.size + 2]? = _ from hu] at hro1; cases hro1; cases hro2
    refine ⟨⟨v, hv.kept hg (fun e => (hne _ e.symm).1 rfl), ho.kept hg ?_⟩, ?_, hB.grown hg hB.size (fun k e => (hne k e).2.2.1)⟩
    · cases hvb : v.ownBlock with
      | none => exact .inl rfl
      | some k => exact .inr (fun e => (hne k e.symm).2.1 hvb.symm)
    · by_cases e : row = some (w.heap.size + 2)
      · exact (hne _ e).2.2.2 rfl
      · exact ⟨u, hu.kept hg (fun e2 => e e2.symm)⟩
  case body =>
    rintro l pre x rest W hx hl ⟨⟨v, hv, ho⟩, ⟨u, hu⟩, hB⟩
    have hlen : pre.length + 1 ≤ 10 := by have := HLEN.out; rw [hx] at this; simp at this; omega
    have hc := hv.cell
    have hf := hv.frozen
    have HX := Aside0.mk hx
    have HLn := Aside0.mk hlen
    have HV := Aside0.mk hv
    have HU := Aside0.mk hu
    have HB := Aside0.mk hB
    have HO := Aside0.mk ho
    clear hx hlen hv hu hB ho
    gi_wp2_with (gi_at_builtin; go_must (refine wpListIn_append_own _ rfl _ _ 23 rfl w.heap.size 5 i0 (.int .u8 0) 1 1 Tryd.underlying23 hi hz0 hz1 hz2 rfl (by decide) _ _ _ rfl (HO.out.alloc _) ⟨W.heap.size, 0, none⟩ 1 1 [.int .u8 x] rfl rfl (cell_one_new _ _ _) (by simp [Value.oneCell']) (by simp only [maxLen, List.length_cons]; have := HLn.out; omega) (by simp only [List.length_cons]; have := HLn.out; omega) (by have := HB.out.size; simp; omega) ?_; intro v' w1 hown' hgrow _; obtain ⟨g', cap', rfl⟩ := ownsRow_succ hown'; obtain ⟨hv1, hv2, hr2, hk2, hb2⟩ := HV.out.appended (by decide) HO.out HB.out.size (by omega) hown' hgrow; have hc1 := hv1.cell; have hf1 := hv1.frozen; have HUK : ∀ u', Boxed W (w.heap.size + 2) 22 u' → Boxed (w1.setCell ⟨w.heap.size + 1, 0, none⟩ (.slice (some ⟨g', 0, none⟩) ((f0 :: pre).length + 1) cap')) (w.heap.size + 2) 22 u' := fun u' hu' => ((hu'.alloc _).kept hgrow (hu'.not_row (by decide) HO.out)).other (by omega) _; have HK2 := Aside0.mk hk2; have HB2 := Aside0.mk hb2; have HR2 := Aside0.mk hr2; have HV2 := Aside0.mk hv2; have HUK2 := Aside0.mk HUK; clear hk2 hb2 hr2 hv2 HUK hown' hgrow hv1))
    refine ⟨HK2.out, HUK2.out, ⟨_, HV2.out, ?_⟩, ⟨u, HUK2.out u HU.out⟩, HB.out.trans HB2.out⟩
    have h3 := HR2.out
    simp only [List.length_cons, List.length_append, List.length_nil, List.cons_append, nums, List.map_cons, List.map_append, List.map_nil] at h3 ⊢
    exact h3
  case done =>
    rintro D W hD ⟨⟨v, hv, ho⟩, ⟨u, hu⟩, hB⟩ hK
    have hc := hv.cell
    have hf := hv.frozen
    have HV := Aside0.mk hv
    have HU := Aside0.mk hu
    have HB := Aside0.mk hB
    have HO := Aside0.mk ho
    clear hv hu hB ho
    gi_wp2
    refine ⟨by simp, .inl ⟨_, _, rfl, run_takeDeferred hK, ?_⟩⟩
    refine ⟨.tuple #[v, .int .i64 0], ?_, ⟨v, rfl, man_R_of_own (ownsRow_putObj HO.out _ hK rfl), HB.out.trans (belowK_b (w := w) (Nat.le_refl _) W D _ _ (by rw [HSZ.out] at hD; omega) hK rfl rfl)⟩⟩
    simp [results, Tryd.results11, go_sem]
end
theorem varint_PutPrefix.calls (a0 a1 a2 : Int) (r1 : List Int) (r2 : Int) (w : World) (h : varint_PutPrefix.f a0 a1 a2 = some (r1, r2)) :
    Calls Tryd.prog 11 #[.int .u8 a0, .int .i64 a1, .int .u64 a2] w fun e w' => ∃ v0_ : Value, e = .returned (.tuple #[v0_, .int .i64 r2]) ∧ Kd.R (Kd.int .u8) 5 w' w.heap.size (fun _ => True) v0_ r1 ∧ Below w.heap.size w w' := by
  unfold varint_PutPrefix.f at h
  by_cases hb : a1 < 1 ∨ 8 < a1 ∨ 4611686018427387903 < a2
  · rw [if_pos hb] at h
    simp only [Option.some.injEq, Prod.mk.injEq] at h
    obtain ⟨rfl, rfl⟩ := h
    exact (varint_PutPrefix.bad a0 a1 a2 w hb).mono fun e w' ⟨he, hB⟩ => ⟨_, he, Kd.R_nil _ _ _ _ _, hB⟩
  · rw [if_neg hb] at h
    by_cases hr : a0 < 0 ∨ 256 ≤ a0 ∨ a2 < 0
    · rw [if_pos hr] at h
      cases h
    · rw [if_neg hr] at h
      by_cases hm : a0 % 2 ^ a1.toNat ≠ 0
      · rw [if_pos hm] at h
        simp only [Option.some.injEq, Prod.mk.injEq] at h
        obtain ⟨rfl, rfl⟩ := h
        have hc := varint_PutPrefix.small a0 a1 a2 w (by omega) (by omega) (by omega) (by omega) (by omega) (by omega) (.inl hm)
        rw [if_pos hm, if_pos hm] at hc
        exact hc
      · rw [if_neg hm] at h
        by_cases hl : a2 < varint_GetPrefix.M a1
        · rw [if_pos hl] at h
          simp only [Option.some.injEq, Prod.mk.injEq] at h
          obtain ⟨rfl, rfl⟩ := h
          have hc := varint_PutPrefix.small a0 a1 a2 w (by omega) (by omega) (by omega) (by omega) (by omega) (by omega) (.inr hl)
          rw [if_neg hm, if_neg hm] at hc
          exact hc
        · rw [if_neg hl] at h
          simp only [Option.some.injEq, Prod.mk.injEq] at h
          obtain ⟨rfl, rfl⟩ := h
          exact varint_PutPrefix.great a0 a1 a2 w (by omega) (by omega) (by omega) (by omega) (by omega) (by omega) (by omega) hl


end Go.Proofs.YtmkmefdajbdceaaDoor.PVQ
