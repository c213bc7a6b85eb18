/- What prio.Parse says of a text that is taken apart at its commas; and PrioBack's law. -/
import Derived.Test.YtjjignoocaejiaaDoorMPa
import Derived.Test.YtjjignoocaejiaaDoorMPb
import Derived.Test.YtjjignoocaejiaaDoorPPRx18
namespace Go.Proofs.YtjjignoocaejiaaDoor.Pure
open Go.RowKit Go.Proofs.YtjjignoocaejiaaDoor.PPR Go.Proofs.YtjjignoocaejiaaDoorW.PrintWords Go.Proofs.YtjjignoocaejiaaDoorW.PrintLast
set_option linter.unusedVariables false
set_option linter.unusedSimpArgs false
def S23 (n : Nat) (sh : Bool) : ByteArray := strL (Lib.join ((prio_parts (n : Int) sh).map (·.data.toList)) [44, 32])
theorem back_own : ∀ n : Nat, n < 8 → ∀ sh : Bool, foldL (spl (S23 n sh).data.toList) (3, false) = ((n : Int), sh) := by decide +kernel
theorem S23_size : ∀ n : Nat, n < 8 → ∀ sh : Bool, (S23 n sh).size ≤ 20 := by decide +kernel
theorem S23_form : ∀ n : Nat, n < 8 → n ≠ 3 → (S23 n true).data.toList = [117, 61, UInt8.ofNat (48 + n), 44, 32, 105] := by decide +kernel
theorem S23_spl : ∀ n : Nat, n < 8 → spl [117, 61, UInt8.ofNat (48 + n), 44, 32, 105] = [[117, 61, UInt8.ofNat (48 + n)], [32, 105]] := by decide +kernel
theorem step_i (p : Int × Bool) : prio_step (strL (trim_both [32, 105])) p = (p.1, true) := by
  unfold prio_step
  rw [if_pos (by decide +kernel)]
theorem step_u_facts : ∀ n : Nat, n < 8 → (¬ (strL (trim_both [117, 61, UInt8.ofNat (48 + n)])).toList = [105]) ∧ (¬ (strL (trim_both [117, 61, UInt8.ofNat (48 + n)])).toList = [105, 61, 63, 49]) ∧ (¬ (strL (trim_both [117, 61, UInt8.ofNat (48 + n)])).toList = [105, 61, 63, 48]) ∧ ((strL (trim_both [117, 61, UInt8.ofNat (48 + n)])).size : Int) = 3 ∧ ((strL (trim_both [117, 61, UInt8.ofNat (48 + n)])).extract 0 2).toList = [117, 61] ∧ bt (strL (trim_both [117, 61, UInt8.ofNat (48 + n)])) 2 = 48 + (n : Int) := by decide +kernel
theorem step_u (n : Nat) (hn : n < 8) (p : Int × Bool) : prio_step (strL (trim_both [117, 61, UInt8.ofNat (48 + n)])) p = ((n : Int), p.2) := by
  obtain ⟨h1, h2, h3, h4, h5, h6⟩ := step_u_facts n hn
  unfold prio_step
  rw [if_neg h1, if_neg h2, if_neg h3, if_pos h4, if_pos h5, h6, if_pos (by omega), if_pos (by omega)]
  congr 1
  omega
theorem PrioBack : mailcoachlaw23_PrioBack.Pure := by
  intro a0 a1 a2 w0 hsz
  have hz : 0 ≤ a0 ∧ a0 ≤ 255 := by
    have := w0
    simp [Lit.wf, IntKind.min, IntKind.max, IntKind.signed, IntKind.bits] at this
    omega
  obtain ⟨n, hn⟩ := Int.eq_ofNat_of_zero_le hz.1
  subst hn
  have hm : wrap64 (Int.tmod (n : Int) 8) = ((n % 8 : Nat) : Int) := by
    rw [Int.tmod_eq_emod_of_nonneg (by omega), wid64 (by omega) (by omega)]
    omega
  have h8 : n % 8 < 8 := Nat.mod_lt _ (by decide)
  refine ⟨3, ?_⟩
  unfold mailcoachlaw23_PrioBack.f
  rw [hm]
  generalize n % 8 = u at h8
  have hT : prio_Text.f (u : Int) a1 = some (S23 u a1, 0) := by
    unfold prio_Text.f
    rw [if_neg (by omega)]
    rfl
  rw [hT]
  simp only [Option.bind_some, ↓reduceIte]
  have hS := S23_size u h8 a1
  rw [parse_spl _ (by omega), back_own u h8 a1]
  simp only [Option.bind_some, beq_self_eq_true, Bool.not_true, Bool.or_self]
  rw [mailcoachlaw23_PrioBack.j0, if_neg (by decide)]
  by_cases h3 : (u : Int) = 3
  · rw [if_pos h3, mailcoachlaw23_PrioBack.j1, if_pos rfl, lives_true]; rfl
  · rw [if_neg h3]
    cases a1 with
    | false => rw [show (!false) = true from rfl, mailcoachlaw23_PrioBack.j1, if_pos rfl, lives_true]; rfl
    | true =>
      have hsz2 : (a2 ++ (⟨#[44]⟩ : ByteArray)).size = a2.size + 1 := by rw [ByteArray.size_append]; rfl
      rw [show (!true) = false from rfl, mailcoachlaw23_PrioBack.j1, if_neg (by decide), if_pos (by omega), if_pos (by rw [hsz2]; omega)]
      have hd : ((a2 ++ (⟨#[44]⟩ : ByteArray)) ++ S23 u true).data.toList = a2.data.toList ++ 44 :: (S23 u true).data.toList := by
        simp [ByteArray.data_append]
      rw [parse_spl _ (by rw [ByteArray.size_append, hsz2]; omega), hd, spl_at, foldL_append, S23_form u h8 (by omega), S23_spl u h8]
      simp only [foldL, List.foldl_cons, List.foldl_nil, step_i, step_u u h8, Option.bind_some, beq_self_eq_true, Bool.and_self, ↓reduceIte]
      rw [lives_true]; rfl
end Go.Proofs.YtjjignoocaejiaaDoor.Pure
