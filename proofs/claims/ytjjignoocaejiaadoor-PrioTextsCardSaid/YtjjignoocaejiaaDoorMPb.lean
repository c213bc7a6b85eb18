/- Plain facts on prio.Parse: a text taken apart at its commas. -/
import Derived.Test.YtjjignoocaejiaaDoorPPRx8
import Derived.Lib.IndexLaws
namespace Go.Proofs.YtjjignoocaejiaaDoor.Pure
open Go.RowKit Go.Proofs.YtjjignoocaejiaaDoor.PPR Go.Proofs.YtjjignoocaejiaaDoorW.PrintWords Go.Proofs.YtjjignoocaejiaaDoorW.PrintLast
set_option linter.unusedVariables false
set_option linter.unusedSimpArgs false
theorem wid64 {x : Int} (h : -9223372036854775808 ≤ x) (h2 : x ≤ 9223372036854775807) : wrap64 x = x := by unfold wrap64; omega
/-- A text, taken apart at its commas. -/
def spl : List UInt8 → List (List UInt8)
  | [] => [[]]
  | c :: r => if c = 44 then [] :: spl r else match spl r with
    | [] => [[c]]
    | h :: t => (c :: h) :: t
theorem spl_ne : ∀ l, spl l ≠ []
  | [] => by simp [spl]
  | c :: r => by
    rw [spl]
    by_cases h : c = 44
    · rw [if_pos h]; simp
    · rw [if_neg h]; split <;> simp
theorem spl_at : ∀ (a b : List UInt8), spl (a ++ 44 :: b) = spl a ++ spl b
  | [], b => by simp [spl]
  | c :: a, b => by
    rw [List.cons_append, spl, spl, spl_at a b]
    by_cases h : c = 44
    · rw [if_pos h, if_pos h]; rfl
    · rw [if_neg h, if_neg h]
      cases hs : spl a with
      | nil => exact absurd hs (spl_ne a)
      | cons x t => rfl
theorem spl_none : ∀ (l : List UInt8), (∀ k : Nat, l[k]? ≠ some 44) → spl l = [l]
  | [], _ => rfl
  | c :: r, h => by
    have h0 : c ≠ 44 := fun e => h 0 (by simp [e])
    rw [spl, if_neg h0, spl_none r fun k => by simpa using h (k + 1)]
theorem seq_spl : ∀ (k : Nat) (s : ByteArray), s.size ≤ k → (seq_pieces 44 k s).map (·.data.toList) = spl s.data.toList
  | 0, s, h => by
    have : s.data.toList = [] := List.eq_nil_of_length_eq_zero (by simpa using h)
    rw [seq_pieces, List.map_singleton, this]; rfl
  | k + 1, s, h => by
    rw [seq_pieces]
    by_cases hn : Lib.indexByte s.data.toList 44 < 0
    · rw [if_pos hn, List.map_singleton, spl_none]
      have := Lib.indexByte_ge s.data.toList 44
      exact Lib.indexByte_none (by omega)
    · rw [if_neg hn]
      obtain ⟨o, ho⟩ := Int.eq_ofNat_of_zero_le (show 0 ≤ Lib.indexByte s.data.toList 44 by omega)
      have hlt := seq_index_lt s 44 hn
      rw [ho] at hlt ⊢
      simp only [Int.toNat_natCast, Int.ofNat_eq_natCast] at hlt ⊢
      obtain ⟨h1, h2⟩ := Lib.indexByte_some ho
      have hlen : s.data.toList.length = s.size := by simp
      rw [List.map_cons, seq_spl k _ (by rw [ByteArray.size_extract]; omega), Lib.extract_data, Lib.extract_data]
      have e : s.data.toList = s.data.toList.take o ++ 44 :: s.data.toList.drop (o + 1) := by
        have h3 : s.data.toList.drop o = 44 :: s.data.toList.drop (o + 1) := by
          rw [List.drop_eq_getElem_cons (by omega)]
          rw [List.getElem?_eq_getElem (by omega)] at h1
          rw [Option.some.inj h1]
        rw [← h3, List.take_append_drop]
      have e2 : spl s.data.toList = spl (s.data.toList.take o) ++ spl (s.data.toList.drop (o + 1)) := by
        conv => lhs; rw [e]
        rw [spl_at]
      rw [e2, spl_none (s.data.toList.take o)]
      · simp only [List.drop_zero, Nat.sub_zero, List.singleton_append]
        congr 2
        rw [List.take_of_length_le]
        rw [List.length_drop]; omega
      · intro j hj
        by_cases hjo : j < o
        · rw [List.getElem?_take_of_lt hjo] at hj
          exact h2 j hjo hj
        · rw [List.getElem?_eq_none (by rw [List.length_take]; omega)] at hj
          cases hj
def foldL (l : List (List UInt8)) (p : Int × Bool) : Int × Bool := l.foldl (fun p x => prio_step (strL (trim_both x)) p) p
theorem foldL_append (a b : List (List UInt8)) (p : Int × Bool) : foldL (a ++ b) p = foldL b (foldL a p) := by unfold foldL; rw [List.foldl_append]
theorem parse_spl (s : ByteArray) (h : s.size ≤ 140737488355328) : prio_Parse.f s = some (foldL (spl s.data.toList) (3, false)) := by
  unfold prio_Parse.f
  rw [if_pos h, ← seq_spl s.size s (Nat.le_refl _)]
  unfold prio_fold foldL
  rw [List.foldl_map]
end Go.Proofs.YtjjignoocaejiaaDoor.Pure
