/- Plain facts: the document's own Parse says what prio.Parse says. -/
import Derived.Test.YtjjignoocaejiaaDoorMPb
import Derived.Test.YtjjignoocaejiaaDoorPPRx10
namespace Go.Proofs.YtjjignoocaejiaaDoor.Pure
open Go.RowKit Go.Proofs.YtjjignoocaejiaaDoor.PPR Go.Proofs.YtjjignoocaejiaaDoorW.PrintWords Go.Proofs.YtjjignoocaejiaaDoorW.PrintLast
set_option linter.unusedVariables false
set_option linter.unusedSimpArgs false
theorem trim_right_cons (c : UInt8) (r : List UInt8) : trim_right (c :: r) = if trim_right r = [] ∧ c = 32 then [] else c :: trim_right r := by
  unfold trim_right
  rw [List.reverse_cons, List.dropWhile_append]
  cases hd : List.dropWhile (· == 32) r.reverse with
  | nil =>
    by_cases h : c = 32
    · subst h; simp [List.dropWhile_cons]
    · simp [List.dropWhile_cons, h]
  | cons a t => simp
theorem trim_left_cons (c : UInt8) (r : List UInt8) : trim_left (c :: r) = if c = 32 then trim_left r else c :: r := by
  unfold trim_left
  rw [List.dropWhile_cons]
  by_cases h : c = 32
  · subst h; simp
  · simp [h]
theorem trim_comm : ∀ l : List UInt8, trim_right (trim_left l) = trim_left (trim_right l)
  | [] => rfl
  | c :: r => by
    rw [trim_left_cons, trim_right_cons]
    by_cases h : c = 32
    · rw [if_pos h, trim_comm r]
      by_cases h2 : trim_right r = []
      · rw [if_pos ⟨h2, h⟩, h2]
      · rw [if_neg (fun e => h2 e.1), trim_left_cons, if_pos h]
    · rw [if_neg h, if_neg (fun e => h e.2), trim_left_cons, if_neg h, trim_right_cons, if_neg (fun e => h e.2)]
theorem bare_r : ∀ (d k : Nat) (s : ByteArray), s.size = d → d < k → s.size ≤ 9223372036854775807 → mailcoachref23_bare.l1 k s = some (strL (trim_right s.data.toList))
  | 0, k, s, hd, hk, hm => by
    obtain ⟨k, rfl⟩ : ∃ m, k = m + 1 := ⟨k - 1, by omega⟩
    have e : s.data.toList = [] := List.eq_nil_of_length_eq_zero (by simpa using hd)
    rw [mailcoachref23_bare.l1, if_neg (by omega), e]
    have : strL (trim_right []) = s := by rw [← strL_toList s, e]; rfl
    rw [this]
  | d + 1, k, s, hd, hk, hm => by
    obtain ⟨k, rfl⟩ : ∃ m, k = m + 1 := ⟨k - 1, by omega⟩
    have hl : s.data.toList.length = d + 1 := by simpa using hd
    have hb := bt_list s d (by omega)
    obtain ⟨r, c, hcr⟩ : ∃ r c, s.data.toList = r ++ [c] := by
      have hne : s.data.toList ≠ [] := by intro h; rw [h] at hl; simp at hl
      exact ⟨_, _, (List.dropLast_concat_getLast hne).symm⟩
    have hrl : r.length = d := by rw [hcr] at hl; simp at hl; exact hl
    have hb2 : bt s (d : Int) = ((c.toNat : Nat) : Int) := by
      rw [hb]
      simp only [hcr]
      rw [List.getElem_append_right (by omega)]
      simp [hrl]
    have w1 : wrap64 ((s.size : Int) - 1) = (d : Int) := by unfold wrap64; omega
    rw [mailcoachref23_bare.l1, if_pos (by clear w1; omega), w1, if_pos (by clear w1; omega), if_pos (by clear w1; omega), hb2]
    by_cases h : c = 32
    · subst h
      have he : (s.extract 0 d).data.toList = r := by rw [Lib.extract_data, hcr]; simp [hrl]
      rw [if_pos (by decide), if_pos (by clear w1; omega), Int.toNat_natCast, bare_r d k _ (by rw [ByteArray.size_extract]; clear w1; omega) (by omega) (by rw [ByteArray.size_extract]; clear w1; omega), he, hcr]
      simp [trim_right]
    · rw [if_neg (fun e => h (UInt8.toNat_inj.1 (by exact_mod_cast e))), hcr]
      have : trim_right (r ++ [c]) = r ++ [c] := by simp [trim_right, List.dropWhile_cons, h]
      rw [this, ← hcr, strL_toList]
theorem bare_j (k : Nat) (s : ByteArray) (hk : s.size + 2 ≤ k) (hm : s.size ≤ 9223372036854775807) : mailcoachref23_bare.j1 k s = some (strL (trim_right s.data.toList)) := by
  obtain ⟨k, rfl⟩ : ∃ m, k = m + 1 := ⟨k - 1, by omega⟩
  rw [mailcoachref23_bare.j1, bare_r s.size k s rfl (by omega) hm]
theorem bare_l : ∀ (d k : Nat) (s : ByteArray), s.size = d → d + 3 ≤ k → s.size ≤ 9223372036854775807 → mailcoachref23_bare.l0 k s = some (strL (trim_right (trim_left s.data.toList)))
  | 0, k, s, hd, hk, hm => by
    obtain ⟨k, rfl⟩ : ∃ m, k = m + 1 := ⟨k - 1, by omega⟩
    have e : s.data.toList = [] := List.eq_nil_of_length_eq_zero (by simpa using hd)
    rw [mailcoachref23_bare.l0, if_neg (by omega), bare_j k s (by omega) hm, e]
    rfl
  | d + 1, k, s, hd, hk, hm => by
    obtain ⟨k, rfl⟩ : ∃ m, k = m + 1 := ⟨k - 1, by omega⟩
    have hl : s.data.toList.length = d + 1 := by simpa using hd
    have hb := bt_list s 0 (by omega)
    obtain ⟨c, r, hcr⟩ : ∃ c r, s.data.toList = c :: r := by
      cases h : s.data.toList with
      | nil => rw [h] at hl; simp at hl
      | cons c r => exact ⟨c, r, rfl⟩
    have hb2 : bt s 0 = ((c.toNat : Nat) : Int) := by
      have : bt s ((0 : Nat) : Int) = _ := hb
      simp only [hcr, List.getElem_cons_zero] at this
      exact this
    rw [mailcoachref23_bare.l0, if_pos (by omega), if_pos (by omega), hb2]
    by_cases h : c = 32
    · subst h
      have he : (s.extract 1 s.size).data.toList = r := by
        rw [hcr, List.length_cons] at hl
        rw [Lib.extract_data, hcr, List.drop_succ_cons, List.drop_zero, List.take_of_length_le (by omega)]
      rw [if_pos (by decide), if_pos (by omega), bare_l d k _ (by rw [ByteArray.size_extract]; omega) (by omega) (by rw [ByteArray.size_extract]; omega), he, hcr, trim_left_cons, if_pos rfl]
    · rw [if_neg (fun e => h (UInt8.toNat_inj.1 (by exact_mod_cast e))), bare_j k s (by omega) hm, hcr, trim_left_cons, if_neg h]
theorem bare_eq (k : Nat) (s : ByteArray) (hk : s.size + 3 ≤ k) (hm : s.size ≤ 9223372036854775807) : mailcoachref23_bare.f k s = some (strL (trim_both s.data.toList)) := by
  unfold mailcoachref23_bare.f
  rw [bare_l s.size k s rfl hk hm, trim_comm]
  rfl
theorem size_of_toList {t : ByteArray} {l : List UInt8} (h : t.toList = l) : t.size = l.length := by
  rw [Lib.toList_data] at h
  have := congrArg List.length h
  simpa using this
/-- Behind a part of the text: what is done with it. -/
theorem ref_tail (k : Nat) (x0 t : ByteArray) (f i : Int) (p : Int × Bool) (r : Option (Int × Bool)) (h : ∀ k', k ≤ k' → mailcoachref23_Parse.l0 k' x0 f (wrap64 (i + 1)) (prio_step t p).1 (prio_step t p).2 = r) :
    (if (t.size : Int) = 3 then (if 0 ≤ (2 : Int) then (if 2 ≤ (t.size : Int) then (if (t.extract 0 2).toList = ([117, 61] : List UInt8) then (if 2 < (t.size : Int) then (if (bt t 2) ≥ 48 then (mailcoachref23_Parse.j2 (k + 2) x0 f i t (decide ((bt t 2) ≤ 55)) p.1 p.2) else (mailcoachref23_Parse.j2 (k + 2) x0 f i t false p.1 p.2)) else (none)) else (mailcoachref23_Parse.j2 (k + 2) x0 f i t false p.1 p.2)) else (none)) else (none)) else (mailcoachref23_Parse.j2 (k + 2) x0 f i t false p.1 p.2)) = r := by
  by_cases hu : (t.size : Int) = 3 ∧ (t.extract 0 2).toList = [117, 61] ∧ 48 ≤ bt t 2 ∧ bt t 2 ≤ 55
  · obtain ⟨h1, h2, h3, h4⟩ := hu
    have hs : prio_step t p = (bt t 2 - 48, p.2) := by
      unfold prio_step
      rw [if_neg (fun e => by have := size_of_toList e; simp at this; omega), if_neg (fun e => by have := size_of_toList e; simp at this; omega), if_neg (fun e => by have := size_of_toList e; simp at this; omega), if_pos h1, if_pos h2, if_pos h3, if_pos h4]
    rw [if_pos h1, if_pos (by decide), if_pos (by omega), if_pos h2, if_pos (by omega), if_pos h3, decide_eq_true h4, mailcoachref23_Parse.j2, if_pos rfl, if_pos (by omega)]
    have := h (k + 1) (by omega)
    rw [hs] at this
    rw [show (bt t 2 - 48) % 256 = bt t 2 - 48 by omega]
    exact this
  · have hT : (if (t.size : Int) = 3 then (if 0 ≤ (2 : Int) then (if 2 ≤ (t.size : Int) then (if (t.extract 0 2).toList = ([117, 61] : List UInt8) then (if 2 < (t.size : Int) then (if (bt t 2) ≥ 48 then (mailcoachref23_Parse.j2 (k + 2) x0 f i t (decide ((bt t 2) ≤ 55)) p.1 p.2) else (mailcoachref23_Parse.j2 (k + 2) x0 f i t false p.1 p.2)) else (none)) else (mailcoachref23_Parse.j2 (k + 2) x0 f i t false p.1 p.2)) else (none)) else (none)) else (mailcoachref23_Parse.j2 (k + 2) x0 f i t false p.1 p.2)) = mailcoachref23_Parse.j2 (k + 2) x0 f i t false p.1 p.2 := by
      by_cases h1 : (t.size : Int) = 3
      · rw [if_pos h1, if_pos (by decide), if_pos (by omega)]
        by_cases h2 : (t.extract 0 2).toList = ([117, 61] : List UInt8)
        · rw [if_pos h2, if_pos (by omega)]
          by_cases h3 : bt t 2 ≥ 48
          · rw [if_pos h3, decide_eq_false (fun h4 => hu ⟨h1, h2, h3, h4⟩)]
          · rw [if_neg h3]
        · rw [if_neg h2]
      · rw [if_neg h1]
    rw [hT, mailcoachref23_Parse.j2, if_neg (by decide)]
    have hj : ∀ b : Bool, mailcoachref23_Parse.j3 (k + 1) x0 f i t b p.1 p.2 = if b = true then mailcoachref23_Parse.l0 k x0 f (wrap64 (i + 1)) p.1 true else if t.toList = ([105, 61, 63, 48] : List UInt8) then mailcoachref23_Parse.l0 k x0 f (wrap64 (i + 1)) p.1 false else mailcoachref23_Parse.l0 k x0 f (wrap64 (i + 1)) p.1 p.2 := fun b => by rw [mailcoachref23_Parse.j3]
    have hk := h k (Nat.le_refl _)
    unfold prio_step at hk
    by_cases h5 : t.toList = [105]
    · rw [if_pos h5] at hk ⊢
      rw [hj, if_pos rfl]
      exact hk
    · rw [if_neg h5] at hk ⊢
      rw [hj]
      by_cases h6 : t.toList = [105, 61, 63, 49]
      · rw [if_pos h6] at hk
        rw [if_pos (by simp [h6])]
        exact hk
      · rw [if_neg h6] at hk
        rw [if_neg (by simpa using h6)]
        by_cases h7 : t.toList = [105, 61, 63, 48]
        · rw [if_pos h7] at hk ⊢
          exact hk
        · rw [if_neg h7] at hk ⊢
          by_cases h1 : (t.size : Int) = 3
          · rw [if_pos h1] at hk
            by_cases h2 : (t.extract 0 2).toList = ([117, 61] : List UInt8)
            · rw [if_pos h2] at hk
              by_cases h3 : 48 ≤ bt t 2
              · rw [if_pos h3, if_neg (fun h4 => hu ⟨h1, h2, h3, h4⟩)] at hk
                exact hk
              · rw [if_neg h3] at hk
                exact hk
            · rw [if_neg h2] at hk
              exact hk
          · rw [if_neg h1] at hk
            exact hk
theorem l0_end (k : Nat) (x : ByteArray) (f : Int) (p : Int × Bool) (hk : 0 < k) : mailcoachref23_Parse.l0 k x f ((x.size : Int) + 1) p.1 p.2 = some p := by
  obtain ⟨k, rfl⟩ : ∃ m, k = m + 1 := ⟨k - 1, by omega⟩
  rw [mailcoachref23_Parse.l0, if_neg (by omega)]
theorem ref_go (x : ByteArray) (hm : x.size ≤ 140737488355328) : ∀ (d K f i : Nat) (p : Int × Bool), i + d = x.size → f ≤ i → (∀ j : Nat, f ≤ j → j < i → x.data.toList[j]? ≠ some 44) → 4 * d + x.size + 20 ≤ K → mailcoachref23_Parse.l0 K x (f : Int) (i : Int) p.1 p.2 = some (foldL (spl (x.data.toList.drop f)) p)
  | 0, K, f, i, p, hd, hf, hn, hK => by
    obtain ⟨K, rfl⟩ : ∃ m, K = m + 4 := ⟨K - 4, by omega⟩
    have hlen : x.data.toList.length = x.size := by simp
    have hi : i = x.size := by omega
    subst hi
    have hw : wrap64 ((x.size : Int) + 1) = (x.size : Int) + 1 := wid64 (by omega) (by omega)
    rw [mailcoachref23_Parse.l0, if_pos (by omega), if_neg (by omega), mailcoachref23_Parse.j1, if_neg (by decide), if_pos (by omega), if_pos (by omega), if_pos (by omega), Int.toNat_natCast, Int.toNat_natCast, bare_eq _ _ (by rw [ByteArray.size_extract]; omega) (by rw [ByteArray.size_extract]; omega)]
    simp only [Option.bind_some]
    refine ref_tail K x _ _ _ p _ fun k' hk' => ?_
    rw [hw, l0_end k' x _ _ (by omega)]
    have hex : (x.extract f x.size).data.toList = x.data.toList.drop f := by
      rw [Lib.extract_data, List.take_of_length_le (by rw [List.length_drop]; omega)]
    rw [hex, spl_none]
    · rfl
    · intro j hj
      rw [List.getElem?_drop] at hj
      by_cases hjl : f + j < x.size
      · exact hn _ (by omega) hjl hj
      · rw [List.getElem?_eq_none (by omega)] at hj; cases hj
  | d + 1, K, f, i, p, hd, hf, hn, hK => by
    obtain ⟨K, rfl⟩ : ∃ m, K = m + 4 := ⟨K - 4, by omega⟩
    have hlen : x.data.toList.length = x.size := by simp
    have hb := bt_list x i (by omega)
    have hw : wrap64 ((i : Int) + 1) = ((i + 1 : Nat) : Int) := by rw [wid64 (by omega) (by omega)]; omega
    obtain ⟨c, hc⟩ : ∃ c, x.data.toList[i]'(by omega) = c := ⟨_, rfl⟩
    have hc? : x.data.toList[i]? = some c := by rw [List.getElem?_eq_getElem (by omega), hc]
    rw [hc] at hb
    rw [mailcoachref23_Parse.l0, if_pos (by omega), if_pos (by omega), if_pos (by omega), hb, mailcoachref23_Parse.j1]
    by_cases h : c = 44
    · subst h
      rw [if_neg (by decide), if_pos (by omega), if_pos (by omega), if_pos (by omega), Int.toNat_natCast, Int.toNat_natCast, bare_eq _ _ (by rw [ByteArray.size_extract]; omega) (by rw [ByteArray.size_extract]; omega)]
      simp only [Option.bind_some]
      refine ref_tail K x _ _ _ p _ fun k' hk' => ?_
      rw [hw, ref_go x hm d k' (i + 1) (i + 1) _ (by omega) (Nat.le_refl _) (fun j h1 h2 => by omega) (by omega)]
      have hex : (x.extract f i).data.toList = (x.data.toList.drop f).take (i - f) := by
        rw [Lib.extract_data]
      have e : x.data.toList.drop f = (x.data.toList.drop f).take (i - f) ++ 44 :: x.data.toList.drop (i + 1) := by
        have h3 : (x.data.toList.drop f).drop (i - f) = 44 :: x.data.toList.drop (i + 1) := by
          rw [List.drop_drop, show f + (i - f) = i by omega, List.drop_eq_getElem_cons (by omega), hc]
        rw [← h3, List.take_append_drop]
      have e2 : spl (x.data.toList.drop f) = spl ((x.data.toList.drop f).take (i - f)) ++ spl (x.data.toList.drop (i + 1)) := by
        conv => lhs; rw [e]
        rw [spl_at]
      rw [e2, foldL_append, spl_none ((x.data.toList.drop f).take (i - f))]
      · rw [hex]
        rfl
      · intro j hj
        by_cases hjl : j < i - f
        · rw [List.getElem?_take_of_lt hjl, List.getElem?_drop] at hj
          exact hn _ (by omega) (by omega) hj
        · rw [List.getElem?_eq_none (by rw [List.length_take]; omega)] at hj; cases hj
    · have hne : (((c.toNat : Nat) : Int) != 44) = true := by
        rw [bne_iff_ne]
        intro e
        exact h (UInt8.toNat_inj.1 (by exact_mod_cast e))
      rw [if_pos hne, hw, ref_go x hm d _ f (i + 1) p (by omega) (by omega) (fun j h1 h2 => ?_) (by omega)]
      by_cases hj : j = i
      · subst hj
        rw [hc?]
        intro e
        exact h (Option.some.inj e)
      · exact hn j h1 (by omega)
theorem ref_parse (x : ByteArray) (hm : x.size ≤ 140737488355328) : mailcoachref23_Parse.f (5 * x.size + 20) x = some (foldL (spl x.data.toList) (3, false)) := by
  unfold mailcoachref23_Parse.f
  have := ref_go x hm x.size (5 * x.size + 20) 0 0 (3, false) (by omega) (Nat.le_refl _) (fun j h1 h2 => by omega) (by omega)
  simpa using this
end Go.Proofs.YtjjignoocaejiaaDoor.Pure
