/- Plain facts on the numbers behind the highest bits of a byte. -/
import Derived.Test.YtmkmefdajbdceaaPTXx17
import Derived.Test.YtmkmefdajbdceaaPTXx2
import Derived.Laws.BitsAllLaws
namespace Go.Proofs.Ytmkmefdajbdceaa.Pure
open Go.RowKit Go.Proofs.Ytmkmefdajbdceaa.PTX Go.Proofs.YtmkmefdajbdceaaW.PrintWords Go.Proofs.YtmkmefdajbdceaaW.PrintLast
set_option linter.unusedVariables false
set_option linter.unusedSimpArgs false

def Bytes (l : List Int) : Prop := ∀ x ∈ l, 0 ≤ x ∧ x < 256
theorem wf_u8 {x : Int} (h : (Lit.int .u8 x).wf = true) : 0 ≤ x ∧ x < 256 := by
  simp [Lit.wf, IntKind.min, IntKind.max, IntKind.signed, IntKind.bits] at h
  omega
theorem wf_u64 {x : Int} (h : (Lit.int .u64 x).wf = true) : 0 ≤ x ∧ x < 18446744073709551616 := by
  simp [Lit.wf, IntKind.min, IntKind.max, IntKind.signed, IntKind.bits] at h
  omega
theorem ok_of_bytes {l : List Int} (h : Bytes l) : varint_GetPrefix.ok l = true := List.all_eq_true.2 fun x hx => by simpa using h x hx
theorem bytes_of_ok {l : List Int} (h : varint_GetPrefix.ok l = true) : Bytes l := fun x hx => by simpa using List.all_eq_true.1 h x hx
theorem bytes_append {a b : List Int} (ha : Bytes a) (hb : Bytes b) : Bytes (a ++ b) := fun x hx => by
  rcases List.mem_append.1 hx with h | h
  · exact ha x h
  · exact hb x h
theorem rd_bd {l : List Int} (hl : Bytes l) (i : Nat) (hi : i < l.length) : 0 ≤ rd l i ∧ rd l i < 256 := by
  apply hl
  unfold rd
  rw [List.getD_eq_getElem?_getD, List.getElem?_eq_getElem (by simpa using hi)]
  exact List.getElem_mem _
theorem M_bd (a1 : Int) (h : 1 ≤ a1) (h8 : a1 ≤ 8) : 1 ≤ varint_GetPrefix.M a1 ∧ varint_GetPrefix.M a1 ≤ 255 ∧ 2 ^ a1.toNat = varint_GetPrefix.M a1 + 1 := by
  obtain ⟨_, _, _, _, m1, m2, _⟩ := varint_GetPrefix.mask a1 0 h h8 (by omega) (by omega)
  exact ⟨m1, m2, by unfold varint_GetPrefix.M; omega⟩
theorem L_ne (k : Nat) (n : Int) : varint_sevens.L k n ≠ [] := by
  cases k with
  | zero => simp [varint_sevens.L]
  | succ k => simp only [varint_sevens.L]; split <;> simp
theorem L_bytes (k : Nat) : ∀ n : Int, 0 ≤ n → n < 2 ^ (7 * (k + 1)) → Bytes (varint_sevens.L k n) := by
  induction k with
  | zero =>
    intro n h0 h1 x hx
    simp [varint_sevens.L] at hx
    omega
  | succ k ih =>
    intro n h0 h1 x hx
    simp only [varint_sevens.L] at hx
    split at hx
    · rcases List.mem_cons.1 hx with rfl | hx
      · omega
      · refine ih (n / 128) (by omega) ?_ x hx
        rw [show 7 * (k + 1 + 1) = 7 * (k + 1) + 7 by omega, Int.pow_add] at h1
        simp only [Int.reducePow] at h1
        omega
    · simp at hx
      omega
theorem rd_drop (t : List Int) (i : Nat) (c : Int) (r : List Int) (h : t.drop i = c :: r) : i < t.length ∧ rd t i = c ∧ t.drop (i + 1) = r := by
  have hl : i < t.length := by
    rcases Nat.lt_or_ge i t.length with hl | hl
    · exact hl
    · rw [List.drop_eq_nil_of_le hl] at h; cases h
  rw [List.drop_eq_getElem_cons hl] at h
  injection h with h1 h2
  refine ⟨hl, ?_, h2⟩
  simp [rd, List.getD_eq_getElem?_getD, List.getElem?_eq_getElem hl, h1]
theorem pow7 (i : Nat) : (2 : Int) ^ (7 * (i + 1)) = 2 ^ (7 * i) * 128 := by rw [show 7 * (i + 1) = 7 * i + 7 by omega, Int.pow_add]; rfl
theorem parts (x q : Int) : x % 128 * q + x / 128 * (q * 128) = x * q := by
  have : x = x % 128 + 128 * (x / 128) := by omega
  calc x % 128 * q + x / 128 * (q * 128) = (x % 128 + 128 * (x / 128)) * q := by grind
    _ = x * q := by rw [← this]
/-- What sevens hands out is what GetPrefix takes in. -/
theorem S_of_L (t : List Int) (m a : Int) (k : Nat) : ∀ (d i : Nat) (v x T : Int) (more : List Int), t.drop i = varint_sevens.L k x ++ more → k + 1 ≤ d → 0 ≤ x → x < 2 ^ (7 * (k + 1)) → v + x * 2 ^ (7 * i) = T → T ≤ 4611686018427387903 - m →
    varint_GetPrefix.S t m a d i v = (a, T + m, (i : Int) + (varint_sevens.L k x).length + 1, 0) := by
  induction k with
  | zero =>
    intro d i v x T more hd hk h0 h1 hT hm
    obtain ⟨d, rfl⟩ : ∃ j, d = j + 1 := ⟨d - 1, by omega⟩
    simp only [varint_sevens.L, Nat.mul_one, Nat.zero_add, Int.reducePow, Nat.reduceMul] at hd h1
    obtain ⟨hi, hr, _⟩ := rd_drop t i _ _ hd
    simp only [varint_GetPrefix.S]
    rw [if_pos hi, hr, if_pos (by omega), show x % 256 % 128 = x by omega, hT, if_neg (by omega)]
    simp [varint_sevens.L]
    omega
  | succ k ih =>
    intro d i v x T more hd hk h0 h1 hT hm
    obtain ⟨d, rfl⟩ : ∃ j, d = j + 1 := ⟨d - 1, by omega⟩
    by_cases hx : 128 ≤ x
    · simp only [varint_sevens.L] at hd ⊢
      rw [if_pos hx] at hd ⊢
      obtain ⟨hi, hr, hd2⟩ := rd_drop t i _ _ hd
      simp only [varint_GetPrefix.S]
      rw [if_pos hi, hr, if_neg (by omega), show (x % 128 + 128) % 128 = x % 128 by omega]
      have hb : x / 128 < 2 ^ (7 * (k + 1)) := by rw [pow7 (k + 1)] at h1; omega
      rw [ih d (i + 1) _ (x / 128) T more hd2 (by omega) (by omega) hb (by rw [pow7, Int.add_assoc, parts]; exact hT) hm]
      simp only [List.length_cons]
      congr 3
      omega
    · simp only [varint_sevens.L] at hd ⊢
      rw [if_neg hx] at hd ⊢
      obtain ⟨hi, hr, _⟩ := rd_drop t i _ _ hd
      simp only [varint_GetPrefix.S]
      rw [if_pos hi, hr, if_pos (by omega), show x % 128 = x by omega, hT, if_neg (by omega)]
      simp
      omega
theorem S_go (t : List Int) (m a : Int) (hb : ∀ i : Nat, i < t.length → 128 ≤ rd t i) (d : Nat) : ∀ (i : Nat) (v : Int), varint_GetPrefix.S t m a d i v = (0, 0, 0, if t.length ≥ 10 then 5 else 4) := by
  induction d with
  | zero => intro i v; simp only [varint_GetPrefix.S]
  | succ d ih =>
    intro i v
    simp only [varint_GetPrefix.S]
    split
    · rename_i h
      rw [if_neg (by have := hb i h; omega), ih]
    · rfl
theorem L_go (k : Nat) : ∀ (x : Int), 0 ≤ x → ∀ (j : Nat), j < (varint_sevens.L k x).length → ∀ i : Nat, i < ((varint_sevens.L k x).take j).length → 128 ≤ rd ((varint_sevens.L k x).take j) i := by
  induction k with
  | zero =>
    intro x h0 j hj i hi
    simp [varint_sevens.L] at hj hi
    omega
  | succ k ih =>
    intro x h0 j hj i hi
    simp only [varint_sevens.L] at hj hi ⊢
    split at hj
    · rename_i hx
      rw [if_pos hx] at hi ⊢
      cases j with
      | zero => simp at hi
      | succ j =>
        cases i with
        | zero => simp [rd]; omega
        | succ i =>
          simp only [List.take_succ_cons, List.length_cons] at hi hj ⊢
          have := ih (x / 128) (by omega) j (by omega) i (by omega)
          simpa [rd] using this
    · simp at hj
      subst hj
      simp at hi
/-- How many bytes: of a number below 2^(7 j), j at most. -/
theorem L_len (j : Nat) : ∀ (k : Nat) (x : Int), 0 ≤ x → x < 2 ^ (7 * (j + 1)) → (varint_sevens.L k x).length ≤ j + 1 := by
  induction j with
  | zero =>
    intro k x h0 h1
    simp only [Nat.zero_add, Nat.mul_one, Int.reducePow] at h1
    cases k with
    | zero => simp [varint_sevens.L]
    | succ k => simp only [varint_sevens.L]; rw [if_neg (by omega)]; simp
  | succ j ih =>
    intro k x h0 h1
    cases k with
    | zero => simp [varint_sevens.L]
    | succ k =>
      simp only [varint_sevens.L]
      split
      · have := ih k (x / 128) (by omega) (by rw [pow7 (j + 1)] at h1; omega)
        simp only [List.length_cons]
        omega
      · simp
/-- What is told of bytes: an error alone, or a number with its bounds. -/
theorem S_tells (t : List Int) (m a : Int) (hm0 : 0 ≤ m) (d : Nat) : ∀ (i : Nat) (v : Int), i + d = 10 → 0 ≤ v → v < 2 ^ (7 * i) → ∀ r1 r2 r3 r4, varint_GetPrefix.S t m a d i v = (r1, r2, r3, r4) →
    (r1 = 0 ∧ r2 = 0 ∧ r3 = 0 ∧ r4 ≠ 0) ∨ (r1 = a ∧ r4 = 0 ∧ ∃ (j : Nat) (T : Int), r2 = T + m ∧ 0 ≤ T ∧ T ≤ 4611686018427387903 - m ∧ T < 2 ^ (7 * (j + 1)) ∧ r3 = (j : Int) + 2 ∧ j < t.length ∧ j ≤ 9) := by
  induction d with
  | zero =>
    intro i v hi h0 h1 r1 r2 r3 r4 h
    simp only [varint_GetPrefix.S, Prod.mk.injEq] at h
    obtain ⟨rfl, rfl, rfl, rfl⟩ := h
    refine .inl ⟨rfl, rfl, rfl, ?_⟩
    split <;> decide
  | succ d ih =>
    intro i v hi h0 h1 r1 r2 r3 r4 h
    simp only [varint_GetPrefix.S] at h
    have hp0 : 0 ≤ rd t i % 128 := Int.emod_nonneg _ (by decide)
    have hp1 : rd t i % 128 < 128 := Int.emod_lt_of_pos _ (by decide)
    have hq : (0 : Int) < 2 ^ (7 * i) := Int.pow_pos (by decide)
    have hv : v + rd t i % 128 * 2 ^ (7 * i) < 2 ^ (7 * (i + 1)) := by
      have : rd t i % 128 * 2 ^ (7 * i) ≤ 127 * 2 ^ (7 * i) := Int.mul_le_mul_of_nonneg_right (by omega) (by omega)
      rw [pow7]
      omega
    have hv0 : 0 ≤ v + rd t i % 128 * 2 ^ (7 * i) := by have := Int.mul_nonneg hp0 (Int.le_of_lt hq); omega
    split at h
    · rename_i hlt
      split at h
      · split at h
        · simp only [Prod.mk.injEq] at h
          obtain ⟨rfl, rfl, rfl, rfl⟩ := h
          exact .inl ⟨rfl, rfl, rfl, by decide⟩
        · simp only [Prod.mk.injEq] at h
          obtain ⟨rfl, rfl, rfl, rfl⟩ := h
          exact .inr ⟨rfl, rfl, i, _, rfl, hv0, by omega, hv, rfl, hlt, by omega⟩
      · exact ih (i + 1) _ (by omega) hv0 hv r1 r2 r3 r4 h
    · simp only [Prod.mk.injEq] at h
      obtain ⟨rfl, rfl, rfl, rfl⟩ := h
      refine .inl ⟨rfl, rfl, rfl, ?_⟩
      split <;> decide
/-- What PutPrefix makes. -/
theorem pput_cases (a0 a1 n : Int) (h0 : 0 ≤ a0) (h1 : a0 < 256) (n0 : 0 ≤ n) : (varint_PutPrefix.f a0 a1 n = some ([], 1)) ∨
    ((1 ≤ a1 ∧ a1 ≤ 8 ∧ n ≤ 4611686018427387903 ∧ a0 % 2 ^ a1.toNat = 0) ∧
      ((n < varint_GetPrefix.M a1 ∧ varint_PutPrefix.f a0 a1 n = some ([a0 + n], 0)) ∨ (varint_GetPrefix.M a1 ≤ n ∧ varint_PutPrefix.f a0 a1 n = some ((a0 + varint_GetPrefix.M a1) :: varint_sevens.L 9 (n - varint_GetPrefix.M a1), 0)))) := by
  unfold varint_PutPrefix.f
  by_cases hb : a1 < 1 ∨ 8 < a1 ∨ 4611686018427387903 < n
  · rw [if_pos hb]; exact .inl rfl
  · rw [if_neg hb, if_neg (by omega)]
    by_cases hm : a0 % 2 ^ a1.toNat ≠ 0
    · rw [if_pos hm]; exact .inl rfl
    · rw [if_neg hm]
      refine .inr ⟨⟨by omega, by omega, by omega, by omega⟩, ?_⟩
      by_cases hl : n < varint_GetPrefix.M a1
      · rw [if_pos hl]; exact .inl ⟨hl, rfl⟩
      · rw [if_neg hl]; exact .inr ⟨by omega, rfl⟩
theorem top_bd (a0 a1 : Int) (h : 1 ≤ a1) (h8 : a1 ≤ 8) (h0 : 0 ≤ a0) (h1 : a0 < 256) (hm : a0 % 2 ^ a1.toNat = 0) : a0 + varint_GetPrefix.M a1 < 256 := by
  rcases (show a1 = 1 ∨ a1 = 2 ∨ a1 = 3 ∨ a1 = 4 ∨ a1 = 5 ∨ a1 = 6 ∨ a1 = 7 ∨ a1 = 8 by omega) with rfl | rfl | rfl | rfl | rfl | rfl | rfl | rfl <;> simp only [varint_GetPrefix.M, show Int.toNat 1 = 1 from rfl, show Int.toNat 2 = 2 from rfl, show Int.toNat 3 = 3 from rfl, show Int.toNat 4 = 4 from rfl, show Int.toNat 5 = 5 from rfl, show Int.toNat 6 = 6 from rfl, show Int.toNat 7 = 7 from rfl, show Int.toNat 8 = 8 from rfl, Int.reducePow] at hm ⊢ <;> omega
theorem mod_add (a n q : Int) (hm : a % q = 0) (n0 : 0 ≤ n) (n1 : n < q) : (a + n) % q = n := by
  rw [Int.add_emod, hm, Int.zero_add, Int.emod_emod, Int.emod_eq_of_lt n0 n1]
/-- What is put is got. -/
theorem pput_get (a0 a1 n : Int) (l : List Int) (h0 : 0 ≤ a0) (h1 : a0 < 256) (n0 : 0 ≤ n) (hp : varint_PutPrefix.f a0 a1 n = some (l, 0)) (more : List Int) (hmore : Bytes more) :
    varint_GetPrefix.f a1 (l ++ more) = some (a0, n, (l.length : Int), 0) ∧ Bytes l ∧ l ≠ [] := by
  rcases pput_cases a0 a1 n h0 h1 n0 with h | ⟨⟨b1, b8, bn, bm⟩, ⟨hl, h⟩ | ⟨hl, h⟩⟩
  · rw [hp] at h; simp at h
  · rw [hp] at h
    simp only [Option.some.injEq, Prod.mk.injEq, and_true] at h
    subst h
    obtain ⟨m1, m2, m3⟩ := M_bd a1 b1 b8
    have ht := top_bd a0 a1 b1 b8 h0 h1 bm
    have hby : Bytes [a0 + n] := by intro x hx; simp at hx; omega
    refine ⟨?_, hby, by simp⟩
    unfold varint_GetPrefix.f
    have hr : rd ([a0 + n] ++ more) 0 = a0 + n := by simp [rd]
    have hmd := mod_add a0 n (2 ^ a1.toNat) bm n0 (by omega)
    rw [if_neg (by omega), if_neg (by simp), if_pos (ok_of_bytes (bytes_append hby hmore)), hr, hmd, if_pos hl]
    simp
  · rw [hp] at h
    simp only [Option.some.injEq, Prod.mk.injEq, and_true] at h
    subst h
    obtain ⟨m1, m2, m3⟩ := M_bd a1 b1 b8
    have ht := top_bd a0 a1 b1 b8 h0 h1 bm
    have hx : n - varint_GetPrefix.M a1 < 2 ^ (7 * (9 + 1)) := by simp only [Nat.reduceAdd, Nat.reduceMul, Int.reducePow]; omega
    have hLb := L_bytes 9 (n - varint_GetPrefix.M a1) (by omega) hx
    have hby : Bytes ((a0 + varint_GetPrefix.M a1) :: varint_sevens.L 9 (n - varint_GetPrefix.M a1)) := by
      intro x hx
      rcases List.mem_cons.1 hx with rfl | hx
      · omega
      · exact hLb x hx
    refine ⟨?_, hby, by simp⟩
    unfold varint_GetPrefix.f
    have hr : rd ((a0 + varint_GetPrefix.M a1) :: varint_sevens.L 9 (n - varint_GetPrefix.M a1) ++ more) 0 = a0 + varint_GetPrefix.M a1 := by simp [rd]
    have hmd := mod_add a0 (varint_GetPrefix.M a1) (2 ^ a1.toNat) bm (by omega) (by omega)
    rw [if_neg (by omega), if_neg (by simp), if_pos (ok_of_bytes (bytes_append hby hmore)), hr, hmd, if_neg (by omega)]
    rw [S_of_L _ _ _ 9 10 0 0 (n - varint_GetPrefix.M a1) (n - varint_GetPrefix.M a1) more (by simp) (by omega) (by omega) hx (by simp) (by omega)]
    simp
/-- Of fewer bytes, none. -/
theorem pput_short (a0 a1 n : Int) (l : List Int) (h0 : 0 ≤ a0) (h1 : a0 < 256) (n0 : 0 ≤ n) (hp : varint_PutPrefix.f a0 a1 n = some (l, 0)) (j : Nat) (hj : j < l.length) :
    varint_GetPrefix.f a1 (l.take j) = some (0, 0, 0, 4) := by
  have hby := (pput_get a0 a1 n l h0 h1 n0 hp [] (fun x hx => by cases hx)).2.1
  rcases pput_cases a0 a1 n h0 h1 n0 with h | ⟨⟨b1, b8, bn, bm⟩, ⟨hl, h⟩ | ⟨hl, h⟩⟩
  · rw [hp] at h; simp at h
  · rw [hp] at h
    simp only [Option.some.injEq, Prod.mk.injEq, and_true] at h
    subst h
    have : j = 0 := by simp at hj; omega
    subst this
    unfold varint_GetPrefix.f
    rw [if_neg (by omega), if_pos (by simp)]
  · rw [hp] at h
    simp only [Option.some.injEq, Prod.mk.injEq, and_true] at h
    subst h
    obtain ⟨m1, m2, m3⟩ := M_bd a1 b1 b8
    unfold varint_GetPrefix.f
    rw [if_neg (by omega)]
    cases j with
    | zero => rw [if_pos (by simp)]
    | succ j =>
      have hok : varint_GetPrefix.ok (((a0 + varint_GetPrefix.M a1) :: varint_sevens.L 9 (n - varint_GetPrefix.M a1)).take (j + 1)) = true := ok_of_bytes fun x hx => hby x (List.mem_of_mem_take hx)
      have hr : rd (((a0 + varint_GetPrefix.M a1) :: varint_sevens.L 9 (n - varint_GetPrefix.M a1)).take (j + 1)) 0 = a0 + varint_GetPrefix.M a1 := by simp [rd]
      have hmd := mod_add a0 (varint_GetPrefix.M a1) (2 ^ a1.toNat) bm (by omega) (by omega)
      have hlen := L_len 8 9 (n - varint_GetPrefix.M a1) (by omega) (by simp only [Nat.reduceAdd, Nat.reduceMul, Int.reducePow]; omega)
      rw [if_neg (by simp), if_pos hok, hr, hmd, if_neg (by omega)]
      simp only [List.take_succ_cons, List.drop_succ_cons, List.drop_zero]
      rw [S_go _ _ _ (L_go 9 _ (by omega) j (by simp at hj; omega))]
      rw [if_neg (by rw [List.length_take]; omega)]
/-- What GetPrefix tells. -/
theorem getp_cases (a0 : Int) (l : List Int) (hl : Bytes l) : ∃ x n k e, varint_GetPrefix.f a0 l = some (x, n, k, e) ∧ ((x = 0 ∧ n = 0 ∧ k = 0 ∧ e ≠ 0) ∨ (e = 0 ∧ 1 ≤ a0 ∧ a0 ≤ 8 ∧ 0 ≤ x ∧ x < 256 ∧ x % 2 ^ a0.toNat = 0 ∧ 0 ≤ n ∧ n ≤ 4611686018427387903 ∧ 1 ≤ k ∧ k ≤ l.length ∧ k ≤ 11)) := by
  unfold varint_GetPrefix.f
  by_cases h1 : a0 < 1 ∨ 8 < a0
  · rw [if_pos h1]; exact ⟨_, _, _, _, rfl, .inl ⟨rfl, rfl, rfl, by decide⟩⟩
  · rw [if_neg h1]
    by_cases h0 : l.length = 0
    · rw [if_pos h0]; exact ⟨_, _, _, _, rfl, .inl ⟨rfl, rfl, rfl, by decide⟩⟩
    · rw [if_neg h0, if_pos (ok_of_bytes hl)]
      obtain ⟨m1, m2, m3⟩ := M_bd a0 (by omega) (by omega)
      have hb := rd_bd hl 0 (by omega)
      have hb' : 0 ≤ rd l 0 ∧ rd l 0 < 256 := hb
      have hp : (0 : Int) < 2 ^ a0.toNat := Int.pow_pos (by decide)
      have hm0 : 0 ≤ rd l 0 % 2 ^ a0.toNat := Int.emod_nonneg _ (by omega)
      have hle : rd l 0 % 2 ^ a0.toNat ≤ rd l 0 := by
        have h5 := Int.emod_add_mul_ediv (rd l 0) (2 ^ a0.toNat)
        have h6 := Int.mul_nonneg (Int.le_of_lt hp) (Int.ediv_nonneg hb'.1 (Int.le_of_lt hp))
        omega
      have hz : (rd l 0 - rd l 0 % 2 ^ a0.toNat) % 2 ^ a0.toNat = 0 := by rw [Int.sub_emod, Int.emod_emod, Int.sub_self]; rfl
      by_cases hlt : rd l 0 % 2 ^ a0.toNat < varint_GetPrefix.M a0
      · rw [if_pos hlt]
        exact ⟨_, _, _, _, rfl, .inr ⟨rfl, by omega, by omega, by omega, by omega, hz, hm0, by omega, by omega, by omega, by omega⟩⟩
      · rw [if_neg hlt]
        rcases hS : varint_GetPrefix.S (l.drop 1) (varint_GetPrefix.M a0) (rd l 0 - rd l 0 % 2 ^ a0.toNat) 10 0 0 with ⟨r1, r2, r3, r4⟩
        have := S_tells (l.drop 1) (varint_GetPrefix.M a0) (rd l 0 - rd l 0 % 2 ^ a0.toNat) (by omega) 10 0 0 rfl (by omega) (by decide) r1 r2 r3 r4 hS
        refine ⟨r1, r2, r3, r4, rfl, ?_⟩
        rcases this with h | ⟨g1, g2, j, T, g3, g4, g5, g6, g7, g8, g9⟩
        · exact .inl h
        · right
          rw [List.length_drop] at g8
          subst g1
          exact ⟨g2, by omega, by omega, by omega, by omega, hz, by omega, by omega, by omega, by omega, by omega⟩
end Go.Proofs.Ytmkmefdajbdceaa.Pure
