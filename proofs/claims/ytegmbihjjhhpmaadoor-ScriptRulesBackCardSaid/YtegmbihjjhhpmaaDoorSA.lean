/- A part of the walk of the laws of layer 26 (script): contracts of functions of the program, each walked once; and the plain law. -/
import Derived.Test.YtegmbihjjhhpmaaDoorPSCx0
import Derived.Lib.ParseIntB
import Derived.Lib.ItoaNum
import Derived.Lib.ItoaLen
import Derived.Lib.AtoiAllCases
import Derived.Lib.Split
import Derived.Lib.CutLaws
import Derived.RangeFuncNested
import Derived.RangeFuncBound
import Derived.RangeFuncCalls
import Derived.RangeFuncLeaves
import Derived.RangeFuncBox
import Derived.OwnWalkIn
import Derived.TacticsInMore
import Derived.LoopNIn
import Derived.LoopIn
import Derived.Deep.DeepMust
import Derived.LoopN
import Derived.Laws.BitsAllLaws
import Derived.Maps.OwnIn
import Derived.Shelf.Abstract
import Derived.Sort.CutIn
import Derived.Shelf.RegionOpen
import Derived.StillTailTactics
import Derived.Outline
import Derived.Deep.RegionHeld3
import Derived.Laws.StructEq
import Derived.Deep.RegionLaw
import Derived.Deep.RegionWith
import Derived.ArgAppend
namespace Go.Proofs.YtegmbihjjhhpmaaDoor.T
open Go.RowKit Go.Proofs.YtegmbihjjhhpmaaDoorW.PrintWords Go.Proofs.YtegmbihjjhhpmaaDoorW.PrintLast Go.Proofs.YtegmbihjjhhpmaaDoorW.PrintMore
open Go.Proofs.YtegmbihjjhhpmaaDoor.PSC
set_option linter.unusedVariables false
set_option linter.unusedSimpArgs false
/-! ### script: words, hexadecimal, numbers (plain) -/
/-- Pieces of a text between the bytes c. -/
def sc_split (c : UInt8) : List UInt8 → List (List UInt8)
  | [] => [[]]
  | x :: s => if x = c then [] :: sc_split c s else match sc_split c s with
    | [] => [[x]]
    | p :: ps => (x :: p) :: ps
def sc_join (c : UInt8) : List (List UInt8) → List UInt8
  | [] => []
  | [p] => p
  | p :: ps => p ++ c :: sc_join c ps
theorem sc_join_two (c : UInt8) (p q : List UInt8) (ps : List (List UInt8)) : sc_join c (p :: q :: ps) = p ++ c :: sc_join c (q :: ps) := rfl
theorem sc_split_ne (c : UInt8) : ∀ s, sc_split c s ≠ []
  | [] => by simp [sc_split]
  | x :: s => by
    unfold sc_split
    split
    · simp
    · split <;> simp
theorem sc_join_split (c : UInt8) : ∀ s, sc_join c (sc_split c s) = s
  | [] => rfl
  | x :: s => by
    have ih := sc_join_split c s
    have hn := sc_split_ne c s
    unfold sc_split
    split
    · rename_i h
      subst h
      cases h2 : sc_split x s with
      | nil => exact absurd h2 hn
      | cons p ps => rw [h2] at ih; simp [sc_join, ih]
    · cases h2 : sc_split c s with
      | nil => exact absurd h2 hn
      | cons p ps =>
        rw [h2] at ih
        cases ps with
        | nil => simp only [sc_join] at ih ⊢; rw [ih]
        | cons q qs => simp only [sc_join, List.cons_append] at ih ⊢; rw [ih]
theorem sc_split_free (c : UInt8) : ∀ s, ∀ p ∈ sc_split c s, c ∉ p
  | [], p, hp => by simp [sc_split] at hp; subst hp; simp
  | x :: s, p, hp => by
    have ih := sc_split_free c s
    unfold sc_split at hp
    split at hp
    · rcases List.mem_cons.1 hp with rfl | hp
      · simp
      · exact ih p hp
    · rename_i hx
      cases h2 : sc_split c s with
      | nil => exact absurd h2 (sc_split_ne c s)
      | cons q qs =>
        rw [h2] at hp
        simp only at hp
        rcases List.mem_cons.1 hp with rfl | hp
        · have := ih q (by rw [h2]; simp)
          simp only [List.mem_cons, not_or]
          exact ⟨fun e => hx e.symm, this⟩
        · exact ih p (by rw [h2]; simp [hp])
theorem sc_split_app (c : UInt8) (p s : List UInt8) (hp : c ∉ p) : sc_split c (p ++ c :: s) = p :: sc_split c s := by
  induction p with
  | nil => simp [sc_split]
  | cons x p ih =>
    have h1 : x ≠ c := fun e => hp (by simp [e])
    have h2 := ih (fun h => hp (by simp [h]))
    rw [List.cons_append, sc_split, if_neg h1, h2]
theorem sc_split_one (c : UInt8) (p : List UInt8) (hp : c ∉ p) : sc_split c p = [p] := by
  induction p with
  | nil => simp [sc_split]
  | cons x p ih =>
    have h1 : x ≠ c := fun e => hp (by simp [e])
    have h2 := ih (fun h => hp (by simp [h]))
    rw [sc_split, if_neg h1, h2]
theorem sc_split_join (c : UInt8) : ∀ ws : List (List UInt8), ws ≠ [] → (∀ p ∈ ws, c ∉ p) → sc_split c (sc_join c ws) = ws
  | [], h, _ => absurd rfl h
  | [p], _, h => sc_split_one c p (h p (by simp))
  | p :: q :: ws, _, h => by
    rw [sc_join, sc_split_app c p _ (h p (by simp)), sc_split_join c (q :: ws) (by simp) (fun x hx => h x (by simp [hx]))]
    simp
/-! hexadecimal -/
def sc_dig (n : Nat) : UInt8 := if n < 10 then UInt8.ofNat (48 + n) else UInt8.ofNat (87 + n)
def sc_hex (s : List UInt8) : List UInt8 := if s = [] then [45] else s.flatMap fun c => [sc_dig (c.toNat / 16), sc_dig (c.toNat % 16)]
def sc_undig (c : UInt8) : Option Nat := if 48 ≤ c.toNat ∧ c.toNat ≤ 57 then some (c.toNat - 48) else if 97 ≤ c.toNat ∧ c.toNat ≤ 102 then some (c.toNat - 87) else none
/-- Pairs of digits: what was got, and whether all were. -/
def sc_pairs : List UInt8 → List UInt8 × Bool
  | a :: b :: r => match sc_undig a, sc_undig b with
    | some h, some l => (UInt8.ofNat (16 * h + l) :: (sc_pairs r).1, (sc_pairs r).2)
    | _, _ => ([], false)
  | _ => ([], true)
theorem sc_undig_dig (n : Nat) (h : n < 16) : sc_undig (sc_dig n) = some n := by
  revert n
  decide
theorem sc_dig_undig (c : UInt8) (n : Nat) (h : sc_undig c = some n) : n < 16 ∧ sc_dig n = c := by
  unfold sc_undig at h
  have hc := c.toNat_lt
  split at h
  · rename_i h1
    cases h
    refine ⟨by omega, ?_⟩
    unfold sc_dig
    rw [if_pos (by omega)]
    apply UInt8.toNat_inj.1
    simp
    omega
  · split at h
    · rename_i h1
      cases h
      refine ⟨by omega, ?_⟩
      unfold sc_dig
      rw [if_neg (by omega)]
      apply UInt8.toNat_inj.1
      simp
      omega
    · cases h
def sc_raw (s : List UInt8) : List UInt8 := s.flatMap fun c => [sc_dig (c.toNat / 16), sc_dig (c.toNat % 16)]
theorem sc_pairs_raw (s : List UInt8) : sc_pairs (sc_raw s) = (s, true) := by
  induction s with
  | nil => rfl
  | cons c s ih =>
    have hc := c.toNat_lt
    unfold sc_raw at ih ⊢
    rw [List.flatMap_cons]
    simp only [List.cons_append, List.nil_append]
    rw [sc_pairs, sc_undig_dig _ (by omega), sc_undig_dig _ (by omega)]
    simp only [ih]
    congr 2
    apply UInt8.toNat_inj.1
    simp
    omega
theorem sc_pairs_ok : ∀ (w : List UInt8), w.length % 2 = 0 → (sc_pairs w).2 = true → w = sc_raw (sc_pairs w).1
  | [], _, _ => rfl
  | [_], h, _ => by simp at h
  | a :: b :: r, h, h2 => by
    have hl : r.length % 2 = 0 := by simp only [List.length_cons] at h; omega
    rw [sc_pairs] at h2 ⊢
    cases ha : sc_undig a with
    | none => rw [ha] at h2; simp at h2
    | some x =>
      cases hb : sc_undig b with
      | none => rw [ha, hb] at h2; simp at h2
      | some y =>
        rw [ha, hb] at h2
        simp only at h2 ⊢
        have ih := sc_pairs_ok r hl h2
        obtain ⟨hx, ex⟩ := sc_dig_undig a x ha
        obtain ⟨hy, ey⟩ := sc_dig_undig b y hb
        have e : (UInt8.ofNat (16 * x + y)).toNat = 16 * x + y := by simp; omega
        unfold sc_raw at ih ⊢
        rw [List.flatMap_cons, ← ih, e, show (16 * x + y) / 16 = x by omega, show (16 * x + y) % 16 = y by omega, ex, ey]
        simp
theorem sc_raw_len (s : List UInt8) : (sc_raw s).length = 2 * s.length := by
  induction s with
  | nil => rfl
  | cons c s ih => unfold sc_raw at ih ⊢; rw [List.flatMap_cons, List.length_append, ih]; simp; omega
theorem sc_dig_mem (n : Nat) (h : n < 16) : sc_dig n ≠ 32 ∧ sc_dig n ≠ 10 ∧ sc_dig n ≠ 45 := by
  revert n
  decide
theorem sc_raw_mem (s : List UInt8) (c : UInt8) (h : c ∈ sc_raw s) : c ≠ 32 ∧ c ≠ 10 ∧ c ≠ 45 := by
  unfold sc_raw at h
  rw [List.mem_flatMap] at h
  obtain ⟨x, _, hx⟩ := h
  have := x.toNat_lt
  simp only [List.mem_cons, List.not_mem_nil, or_false] at hx
  rcases hx with rfl | rfl
  · exact sc_dig_mem _ (by omega)
  · exact sc_dig_mem _ (by omega)
theorem sc_hex_raw (s : List UInt8) (h : s ≠ []) : sc_hex s = sc_raw s := by unfold sc_hex sc_raw; rw [if_neg h]
theorem sc_hex_mem (s : List UInt8) (c : UInt8) (h : c ∈ sc_hex s) : c ≠ 32 ∧ c ≠ 10 := by
  by_cases hs : s = []
  · subst hs
    simp [sc_hex] at h
    subst h
    decide
  · rw [sc_hex_raw s hs] at h
    exact ⟨(sc_raw_mem s c h).1, (sc_raw_mem s c h).2.1⟩

/-! numbers -/
theorem sc_pum (M : Nat) (hM : M < 18446744073709551616) : ∀ (n u : Nat), u ≤ n → u ≤ M → ∀ t, Lib.parseUintM M 0 (Lib.decDigits u ++ t) = Lib.parseUintM M u t := by
  intro n
  induction n with
  | zero =>
    intro u hu _ t
    obtain rfl : u = 0 := by omega
    rw [Lib.decDigits, dif_pos (by omega)]
    rw [List.singleton_append, Lib.parseUintM]
    simp
  | succ n ih =>
    intro u hu hb t
    rw [Lib.decDigits]
    by_cases h : u < 10
    · rw [dif_pos h, List.singleton_append, Lib.parseUintM]
      have e : (UInt8.ofNat (48 + u)).toNat = 48 + u := by simp; omega
      rw [e, if_pos (by omega), if_neg (by omega), if_neg (by omega)]
      congr 1
      omega
    · rw [dif_neg h, List.append_assoc, ih (u / 10) (by omega) (by omega), List.singleton_append, Lib.parseUintM]
      have e : (UInt8.ofNat (48 + u % 10)).toNat = 48 + u % 10 := by simp; omega
      rw [e, if_pos (by omega), if_neg (by omega), if_neg (by omega)]
      congr 1
      omega
theorem sc_head : ∀ (n u : Nat), u ≤ n → ∃ c r, Lib.decDigits u = c :: r ∧ 48 ≤ c.toNat := by
  intro n
  induction n with
  | zero =>
    intro u hu
    obtain rfl : u = 0 := by omega
    rw [Lib.decDigits, dif_pos (by omega)]
    exact ⟨_, _, rfl, by decide⟩
  | succ n ih =>
    intro u hu
    rw [Lib.decDigits]
    by_cases h : u < 10
    · rw [dif_pos h]
      exact ⟨_, _, rfl, by simp; omega⟩
    · rw [dif_neg h]
      obtain ⟨c, r, e, hc⟩ := ih (u / 10) (by omega)
      rw [e]
      exact ⟨c, _, rfl, hc⟩
theorem sc_mag (u : Nat) (h : u < 18446744073709551616) : Lib.parseUintB 64 (Lib.decDigits u) = .ok u := by
  obtain ⟨c, r, e, _⟩ := sc_head u u (Nat.le_refl _)
  have h1 := sc_pum (2 ^ 64 - 1) (by omega) u u (Nat.le_refl _) (by omega) []
  rw [List.append_nil] at h1
  unfold Lib.parseUintB
  rw [if_neg (by rw [e]; simp), h1]
  rfl
theorem sc_parseInt (n : Int) (h0 : -9223372036854775808 ≤ n) (h1 : n ≤ 9223372036854775807) : Lib.parseIntB 64 (Lib.itoa n) = .ok n := by
  unfold Lib.itoa
  by_cases h : n < 0
  · rw [if_pos h, Lib.parseIntB]
    have hm := sc_mag n.natAbs (by omega)
    have e : (45 : UInt8).toNat = 45 := rfl
    simp only [e]
    simp only [Nat.reduceEqDiff, or_true, if_true, hm, not_true_eq_false, false_and, if_false, true_and]
    rw [if_neg (by omega)]
    congr 1
    omega
  · rw [if_neg h]
    obtain ⟨c, r, e, hc⟩ := sc_head n.toNat n.toNat (Nat.le_refl _)
    have hm := sc_mag n.toNat (by omega)
    rw [e] at hm ⊢
    rw [Lib.parseIntB]
    have e1 : ¬ c.toNat = 45 := by omega
    have e2 : ¬ c.toNat = 43 := by omega
    simp only [e1, e2, or_self, if_false, hm, not_false_eq_true, true_and, false_and]
    rw [if_neg (by omega)]
    congr 1
    omega
theorem sc_dec_mem : ∀ (n u : Nat), u ≤ n → ∀ c ∈ Lib.decDigits u, 48 ≤ c.toNat ∧ c.toNat ≤ 57 := by
  intro n
  induction n with
  | zero =>
    intro u hu c hc
    obtain rfl : u = 0 := by omega
    rw [Lib.decDigits, dif_pos (by omega)] at hc
    simp at hc
    subst hc
    decide
  | succ n ih =>
    intro u hu c hc
    rw [Lib.decDigits] at hc
    by_cases h : u < 10
    · rw [dif_pos h] at hc
      simp only [List.mem_singleton] at hc
      subst hc
      simp
      omega
    · rw [dif_neg h, List.mem_append] at hc
      rcases hc with hc | hc
      · exact ih (u / 10) (by omega) c hc
      · simp only [List.mem_singleton] at hc
        subst hc
        simp
        omega
theorem sc_itoa_mem (n : Int) (c : UInt8) (h : c ∈ Lib.itoa n) : c ≠ 32 ∧ c ≠ 10 := by
  have key : ∀ u, c ∈ Lib.decDigits u → c ≠ 32 ∧ c ≠ 10 := fun u hu => by
    have := sc_dec_mem u u (Nat.le_refl _) c hu
    constructor <;> (intro e; subst e; simp at this)
  unfold Lib.itoa at h
  split at h
  · rcases List.mem_cons.1 h with rfl | h
    · decide
    · exact key _ h
  · exact key _ h
theorem sc_itoa_ne (n : Int) : Lib.itoa n ≠ [] := by
  unfold Lib.itoa
  split
  · simp
  · obtain ⟨c, r, e, _⟩ := sc_head n.toNat n.toNat (Nat.le_refl _)
    rw [e]
    simp

/-! ### script: what a taker takes (plain) -/
def sc_b (l : List UInt8) : ByteArray := ⟨l.toArray⟩
theorem sc_b_data (l : List UInt8) : (sc_b l).data.toList = l := rfl
theorem sc_b_of (s : ByteArray) : sc_b s.data.toList = s := rfl
theorem sc_b_inj {a b : List UInt8} (h : sc_b a = sc_b b) : a = b := by
  have := congrArg (fun s : ByteArray => s.data.toList) h
  exact this
theorem sc_data_inj {a b : ByteArray} (h : a.data.toList = b.data.toList) : a = b := by rw [← sc_b_of a, ← sc_b_of b, h]
theorem sc_b_size (l : List UInt8) : (sc_b l).size = l.length := rfl
def sc_hexB (s : ByteArray) : ByteArray := sc_b (sc_hex s.data.toList)
def sc_ints (s : ByteArray) : List Int := s.data.toList.map fun c => (c.toNat : Int)
def sc_bytes (l : List Int) : ByteArray := sc_b (l.map fun x => UInt8.ofNat x.toNat)
theorem sc_bytes_ints (s : ByteArray) : sc_bytes (sc_ints s) = s := by
  unfold sc_bytes sc_ints
  rw [List.map_map]
  have : ((fun x : Int => UInt8.ofNat x.toNat) ∘ fun c : UInt8 => (c.toNat : Int)) = id := by
    funext c
    simp
  rw [this, List.map_id]
  exact sc_b_of s
theorem sc_ints_bytes (l : List Int) (h : ∀ x ∈ l, 0 ≤ x ∧ x < 256) : sc_ints (sc_bytes l) = l := by
  unfold sc_bytes sc_ints
  rw [sc_b_data, List.map_map]
  have : ∀ x ∈ l, ((fun c : UInt8 => (c.toNat : Int)) ∘ fun x : Int => UInt8.ofNat x.toNat) x = x := by
    intro x hx
    have := h x hx
    simp
    omega
  rw [List.map_congr_left this]
  simp
theorem sc_ints_range (s : ByteArray) : ∀ x ∈ sc_ints s, 0 ≤ x ∧ x < 256 := by
  intro x hx
  unfold sc_ints at hx
  rw [List.mem_map] at hx
  obtain ⟨c, _, rfl⟩ := hx
  have := c.toNat_lt
  omega
/-- A taker: the words that are left; whether one was none. -/
abbrev Tk := List ByteArray × Bool
def tk_word (t : Tk) : ByteArray × Tk := match t.1 with | [] => (sc_b [], ([], true)) | w :: r => (w, (r, t.2))
def tk_is (s : ByteArray) (t : Tk) : Bool × Tk := match t.1 with | [] => (false, t) | w :: r => if w = s then (true, (r, t.2)) else (false, t)
def tk_hex (t : Tk) : ByteArray × Tk :=
  if (tk_word t).1 = sc_b [45] then (sc_b [], (tk_word t).2)
  else if (tk_word t).2.2 = true ∨ (tk_word t).1.size = 0 ∨ (tk_word t).1.size % 2 ≠ 0 then (sc_b [], ((tk_word t).2.1, true))
  else (sc_b (sc_pairs (tk_word t).1.data.toList).1, ((tk_word t).2.1, !(sc_pairs (tk_word t).1.data.toList).2))
def sc_num (w : ByteArray) : Int := match Lib.parseIntB 64 w.data.toList with | .ok v => v | .range => Lib.intSat 64 w.data.toList | _ => 0
def sc_isNum (w : ByteArray) : Bool := match Lib.parseIntB 64 w.data.toList with | .ok v => Lib.itoa v == w.data.toList | _ => false
def tk_number (t : Tk) : Int × Tk := (sc_num (tk_word t).1, ((tk_word t).2.1, (tk_word t).2.2 || !sc_isNum (tk_word t).1))
def tk_fields (sign : ByteArray) : Nat → Tk → List S49 → List S49 × Tk
  | 0, t, acc => (acc, t)
  | k + 1, t, acc => if t.2 = true then (acc, t) else if (tk_is sign t).1 = true then tk_fields sign k (tk_hex (tk_hex (tk_is sign t).2).2).2 (acc ++ [⟨(tk_hex (tk_is sign t).2).1, (tk_hex (tk_hex (tk_is sign t).2).2).1⟩]) else (acc, (tk_is sign t).2)
def tk_body (t : Tk) : List Int × Tk :=
  if (tk_is (sc_b [98]) t).1 = true then (sc_ints (tk_hex (tk_is (sc_b [98]) t).2).1, ((tk_hex (tk_is (sc_b [98]) t).2).2.1, (tk_hex (tk_is (sc_b [98]) t).2).2.2 || decide ((tk_hex (tk_is (sc_b [98]) t).2).1 = sc_b []))) else ([], t)
theorem tk_hex_cons (w : ByteArray) (l : List ByteArray) (b : Bool) : tk_hex (w :: l, b) = if w = sc_b [45] then (sc_b [], (l, b)) else if b = true ∨ w.size = 0 ∨ w.size % 2 ≠ 0 then (sc_b [], (l, true)) else (sc_b (sc_pairs w.data.toList).1, (l, !(sc_pairs w.data.toList).2)) := rfl
theorem tk_hex_nil (b : Bool) : tk_hex ([], b) = (sc_b [], ([], true)) := by
  unfold tk_hex tk_word
  simp only [true_or, if_true]
  rw [if_neg (by intro e; exact absurd (sc_b_inj e) (by simp))]
theorem tk_is_cons (s w : ByteArray) (l : List ByteArray) (b : Bool) : tk_is s (w :: l, b) = if w = s then (true, (l, b)) else (false, (w :: l, b)) := rfl
theorem tk_word_iff (t : Tk) (w : ByteArray) (r : List ByteArray) : tk_word t = (w, (r, false)) ↔ t = (w :: r, false) := by
  obtain ⟨l, b⟩ := t
  cases l with
  | nil => simp [tk_word]
  | cons x l => simp [tk_word, and_assoc]
theorem tk_is_true (s : ByteArray) (t : Tk) (t2 : Tk) : tk_is s t = (true, t2) ↔ t = (s :: t2.1, t2.2) := by
  obtain ⟨l, b⟩ := t
  obtain ⟨l2, b2⟩ := t2
  cases l with
  | nil => simp [tk_is]
  | cons x l =>
    rw [tk_is_cons]
    by_cases h : x = s
    · subst h
      simp
    · simp [h]
theorem tk_is_false (s : ByteArray) (t : Tk) (h : t.1.head? ≠ some s) : tk_is s t = (false, t) := by
  obtain ⟨l, b⟩ := t
  cases l with
  | nil => rfl
  | cons x l => rw [tk_is_cons, if_neg (by intro e; subst e; simp at h)]
theorem tk_is_cases (s : ByteArray) (t : Tk) : (∃ r, t = (s :: r, t.2) ∧ tk_is s t = (true, (r, t.2))) ∨ (t.1.head? ≠ some s ∧ tk_is s t = (false, t)) := by
  obtain ⟨l, b⟩ := t
  cases l with
  | nil => exact .inr ⟨by simp, rfl⟩
  | cons x l =>
    by_cases h : x = s
    · subst h
      exact .inl ⟨l, rfl, by simp [tk_is_cons]⟩
    · exact .inr ⟨by simp [h], by simp [tk_is_cons, h]⟩
theorem tk_hex_iff (t : Tk) (s : ByteArray) (r : List ByteArray) : tk_hex t = (s, (r, false)) ↔ t = (sc_hexB s :: r, false) := by
  obtain ⟨l, b⟩ := t
  cases l with
  | nil =>
    rw [tk_hex_nil]
    simp
  | cons w l =>
    rw [tk_hex_cons]
    have e45 : sc_hexB (sc_b []) = sc_b [45] := rfl
    by_cases h1 : w = sc_b [45]
    · rw [if_pos h1]
      constructor
      · intro h
        simp only [Prod.mk.injEq] at h
        obtain ⟨rfl, rfl, rfl⟩ := h
        rw [e45, h1]
      · intro h
        simp only [Prod.mk.injEq, List.cons.injEq] at h
        obtain ⟨⟨h2, rfl⟩, rfl⟩ := h
        have : s = sc_b [] := by
          by_cases hs : s.data.toList = []
          · exact sc_data_inj hs
          · exfalso
            rw [h1] at h2
            have h3 := sc_b_inj h2
            rw [sc_hex_raw _ hs] at h3
            have := sc_raw_mem s.data.toList 45 (by rw [← h3]; simp)
            exact this.2.2 rfl
        rw [this]
    · rw [if_neg h1]
      by_cases h2 : b = true ∨ w.size = 0 ∨ w.size % 2 ≠ 0
      · rw [if_pos h2]
        constructor
        · intro h
          simp at h
        · intro h
          exfalso
          simp only [Prod.mk.injEq, List.cons.injEq] at h
          obtain ⟨⟨rfl, rfl⟩, rfl⟩ := h
          by_cases hs : s.data.toList = []
          · apply h1
            unfold sc_hexB
            rw [hs]
            rfl
          · have hl := sc_raw_len s.data.toList
            rw [← sc_hex_raw _ hs] at hl
            have e : (sc_hexB s).size = 2 * s.data.toList.length := hl
            have hp : 0 < s.data.toList.length := List.length_pos_iff.2 hs
            rcases h2 with h2 | h2 | h2
            · cases h2
            · omega
            · omega
      · rw [if_neg h2]
        simp only [not_or, Bool.not_eq_true, ne_eq, Classical.not_not] at h2
        obtain ⟨rfl, h3, h4⟩ := h2
        constructor
        · intro h
          simp only [Prod.mk.injEq, Bool.not_eq_false'] at h
          obtain ⟨rfl, rfl, h5⟩ := h
          have h6 := sc_pairs_ok w.data.toList h4 h5
          refine Prod.ext ?_ rfl
          simp only
          congr 1
          apply sc_data_inj
          unfold sc_hexB
          rw [sc_b_data, sc_b_data, sc_hex_raw]
          · exact h6
          · intro e
            rw [e] at h6
            apply h3
            have : w.data.toList.length = 0 := by rw [h6]; rfl
            exact this
        · intro h
          simp only [Prod.mk.injEq, List.cons.injEq] at h
          obtain ⟨⟨rfl, rfl⟩, _⟩ := h
          by_cases hs : s.data.toList = []
          · exfalso
            apply h1
            unfold sc_hexB
            rw [hs]
            rfl
          · have e : (sc_hexB s).data.toList = sc_raw s.data.toList := by unfold sc_hexB; rw [sc_b_data, sc_hex_raw _ hs]
            rw [e, sc_pairs_raw]
            rfl
theorem sc_pib_range (l : List UInt8) (v : Int) (h : Lib.parseIntB 64 l = .ok v) : -9223372036854775808 ≤ v ∧ v ≤ 9223372036854775807 := by
  cases l with
  | nil => cases h
  | cons c r =>
    unfold Lib.parseIntB at h
    simp only at h
    split at h
    · cases h
    · cases h
    · split at h
      · cases h
      · split at h
        · cases h
        · rename_i u _ h1 h2
          injection h with h
          subst h
          simp only [not_and, Nat.not_le, Nat.not_lt, Nat.reduceSub, Nat.reducePow] at h1 h2
          by_cases hc : c.toNat = 45
          · rw [if_pos hc]
            have := h2 hc
            omega
          · rw [if_neg hc]
            have := h1 hc
            omega
theorem sc_sat_range (l : List UInt8) : -9223372036854775808 ≤ Lib.intSat 64 l ∧ Lib.intSat 64 l ≤ 9223372036854775807 := by
  unfold Lib.intSat
  split
  · simp only [Nat.reduceSub, Nat.reducePow]; omega
  · simp only [Nat.reduceSub, Nat.reducePow]; omega
theorem sc_isNum_iff (w : ByteArray) : sc_isNum w = true ↔ w = sc_b (Lib.itoa (sc_num w)) ∧ -9223372036854775808 ≤ sc_num w ∧ sc_num w ≤ 9223372036854775807 := by
  constructor
  · intro h
    unfold sc_isNum at h
    unfold sc_num
    cases hp : Lib.parseIntB 64 w.data.toList with
    | ok v =>
      rw [hp] at h
      simp only [beq_iff_eq] at h ⊢
      exact ⟨by rw [h]; exact (sc_b_of w).symm, sc_pib_range _ _ hp⟩
    | _ => rw [hp] at h; cases h
  · rintro ⟨h1, h2, h3⟩
    have hp := sc_parseInt (sc_num w) h2 h3
    have hd : w.data.toList = Lib.itoa (sc_num w) := by conv => lhs; rw [h1]
                                                        rfl
    unfold sc_isNum
    rw [hd, hp]
    simp
theorem tk_number_iff (t : Tk) (n : Int) (r : List ByteArray) : tk_number t = (n, (r, false)) ↔ t = (sc_b (Lib.itoa n) :: r, false) ∧ -9223372036854775808 ≤ n ∧ n ≤ 9223372036854775807 := by
  obtain ⟨l, b⟩ := t
  cases l with
  | nil => simp [tk_number, tk_word]
  | cons w l =>
    simp only [tk_number, tk_word, Prod.mk.injEq, Bool.or_eq_false_iff, Bool.not_eq_false', List.cons.injEq]
    constructor
    · rintro ⟨rfl, rfl, rfl, h⟩
      obtain ⟨h1, h2⟩ := (sc_isNum_iff w).1 h
      exact ⟨⟨⟨h1, rfl⟩, rfl⟩, h2⟩
    · rintro ⟨⟨⟨rfl, rfl⟩, rfl⟩, h0, h1⟩
      have hp := sc_parseInt n h0 h1
      have e : sc_num (sc_b (Lib.itoa n)) = n := by unfold sc_num; rw [sc_b_data, hp]
      refine ⟨e, rfl, rfl, ?_⟩
      rw [sc_isNum_iff, e]
      exact ⟨rfl, h0, h1⟩
def sc_fw (sign : ByteArray) (l : List S49) : List ByteArray := l.flatMap fun f => [sign, sc_hexB f.f0, sc_hexB f.f1]
theorem sc_fw_cons (sign : ByteArray) (f : S49) (l : List S49) : sc_fw sign (f :: l) = sign :: sc_hexB f.f0 :: sc_hexB f.f1 :: sc_fw sign l := rfl
theorem tk_fields_iff (sign : ByteArray) : ∀ (k : Nat) (t : Tk) (acc l : List S49) (r : List ByteArray), t.1.length ≤ k → (tk_fields sign k t acc = (l, (r, false)) ↔ ∃ l2, l = acc ++ l2 ∧ t = (sc_fw sign l2 ++ r, false) ∧ r.head? ≠ some sign)
  | 0, t, acc, l, r, hk => by
    obtain ⟨x, b⟩ := t
    obtain rfl : x = [] := List.eq_nil_of_length_eq_zero (by simpa using hk)
    simp only [tk_fields]
    constructor
    · intro h
      simp only [Prod.mk.injEq] at h
      obtain ⟨rfl, rfl, rfl⟩ := h
      exact ⟨[], by simp, rfl, by simp⟩
    · rintro ⟨l2, rfl, h, hr⟩
      cases l2 with
      | nil => simp only [sc_fw, List.flatMap_nil, List.nil_append, Prod.mk.injEq] at h; obtain ⟨rfl, rfl⟩ := h; simp
      | cons f l2 => rw [sc_fw_cons] at h; simp at h
  | k + 1, t, acc, l, r, hk => by
    rw [tk_fields]
    by_cases hb : t.2 = true
    · rw [if_pos hb]
      constructor
      · intro h
        exfalso
        simp only [Prod.mk.injEq] at h
        rw [h.2] at hb
        cases hb
      · rintro ⟨l2, _, h, _⟩
        rw [h] at hb
        cases hb
    · rw [if_neg hb]
      rcases tk_is_cases sign t with ⟨x, ht, his⟩ | ⟨hh, his⟩
      · rw [his]
        simp only [if_true]
        have hlen : x.length ≤ k := by rw [ht] at hk; simp at hk; exact hk
        have hb2 : t.2 = false := by simpa using hb
        rw [hb2] at ht ⊢
        have mono : ∀ (u : Tk), (tk_hex u).2.1.length ≤ u.1.length := by
          rintro ⟨u, c⟩
          cases u with
          | nil => rw [tk_hex_nil]; simp
          | cons a u =>
            rw [tk_hex_cons]
            split <;> (try split) <;> simp
        rw [tk_fields_iff sign k _ _ l r (by have := mono (tk_hex (x, false)).2; have := mono (x, false); simp only at *; omega)]
        constructor
        · rintro ⟨l2, rfl, h2, hr⟩
          have e2 := (tk_hex_iff (tk_hex (x, false)).2 (tk_hex (tk_hex (x, false)).2).1 _).1 (Prod.ext rfl h2)
          have e1 := (tk_hex_iff (x, false) (tk_hex (x, false)).1 _).1 (Prod.ext rfl e2)
          refine ⟨⟨(tk_hex (x, false)).1, (tk_hex (tk_hex (x, false)).2).1⟩ :: l2, by simp, ?_, hr⟩
          rw [ht, sc_fw_cons]
          simp only [Prod.mk.injEq, and_true, List.cons_append, List.cons.injEq, true_and] at e1 ⊢
          exact e1
        · rintro ⟨l2, rfl, h2, hr⟩
          cases l2 with
          | nil =>
            exfalso
            rw [ht] at h2
            simp only [sc_fw, List.flatMap_nil, List.nil_append, Prod.mk.injEq] at h2
            apply hr
            rw [← h2.1]
            rfl
          | cons f l2 =>
            rw [ht, sc_fw_cons] at h2
            simp only [Prod.mk.injEq, List.cons_append, List.cons.injEq, and_true, true_and] at h2
            subst h2
            have e1 := (tk_hex_iff (sc_hexB f.f0 :: sc_hexB f.f1 :: (sc_fw sign l2 ++ r), false) f.f0 _).2 rfl
            have e2 := (tk_hex_iff (sc_hexB f.f1 :: (sc_fw sign l2 ++ r), false) f.f1 _).2 rfl
            rw [e1]
            simp only
            rw [e2]
            exact ⟨l2, by simp, rfl, hr⟩
      · rw [his]
        simp only [Bool.false_eq_true, if_false]
        constructor
        · intro h
          simp only [Prod.mk.injEq] at h
          obtain ⟨rfl, rfl⟩ := h
          exact ⟨[], by simp, rfl, hh⟩
        · rintro ⟨l2, rfl, h2, hr⟩
          cases l2 with
          | nil =>
            rw [h2]
            simp [sc_fw]
          | cons f l2 =>
            exfalso
            rw [h2, sc_fw_cons] at hh
            simp at hh
def sc_bw (b : List Int) : List ByteArray := if b = [] then [] else [sc_b [98], sc_hexB (sc_bytes b)]
theorem tk_body_iff (t : Tk) (b : List Int) (r : List ByteArray) (hb : ∀ x ∈ b, 0 ≤ x ∧ x < 256) : tk_body t = (b, (r, false)) ↔ t = (sc_bw b ++ r, false) ∧ (b = [] → r.head? ≠ some (sc_b [98])) := by
  unfold tk_body
  rcases tk_is_cases (sc_b [98]) t with ⟨x, ht, his⟩ | ⟨hh, his⟩
  · rw [his]
    simp only [if_true]
    constructor
    · intro h
      simp only [Prod.mk.injEq, Bool.or_eq_false_iff, decide_eq_false_iff_not] at h
      obtain ⟨rfl, h1, h2, h3⟩ := h
      have e1 := (tk_hex_iff (x, t.2) (tk_hex (x, t.2)).1 r).1 (Prod.ext rfl (Prod.ext h1 h2))
      have hne : sc_ints (tk_hex (x, t.2)).1 ≠ [] := by
        intro e
        apply h3
        rw [← sc_bytes_ints (tk_hex (x, t.2)).1, e]
        rfl
      refine ⟨?_, fun h => absurd h hne⟩
      unfold sc_bw
      rw [if_neg hne, sc_bytes_ints, ht]
      obtain ⟨e1a, e1b⟩ := Prod.mk.inj e1
      rw [e1b] at e1a ⊢
      simp only [List.cons_append, List.nil_append, Prod.mk.injEq, and_true, List.cons.injEq, true_and]
      exact e1a
    · rintro ⟨h, h2⟩
      by_cases hn : b = []
      · exfalso
        subst hn
        rw [ht] at h
        simp only [sc_bw, if_true, List.nil_append, Prod.mk.injEq] at h
        apply h2 rfl
        rw [← h.1]
        rfl
      · unfold sc_bw at h
        rw [if_neg hn, ht] at h
        simp only [List.cons_append, List.nil_append, Prod.mk.injEq, List.cons.injEq, true_and] at h
        obtain ⟨rfl, h3⟩ := h
        rw [h3]
        have e1 := (tk_hex_iff (sc_hexB (sc_bytes b) :: r, false) (sc_bytes b) r).2 rfl
        rw [e1]
        simp only [Prod.mk.injEq, Bool.false_or, decide_eq_false_iff_not, true_and]
        refine ⟨sc_ints_bytes b hb, ?_⟩
        intro e
        apply hn
        rw [← sc_ints_bytes b hb, e]
        rfl
  · rw [his]
    simp only [Bool.false_eq_true, if_false]
    constructor
    · intro h
      simp only [Prod.mk.injEq] at h
      obtain ⟨rfl, rfl⟩ := h
      exact ⟨by simp [sc_bw], fun _ => hh⟩
    · rintro ⟨h, h2⟩
      by_cases hn : b = []
      · subst hn
        rw [h]
        simp [sc_bw]
      · exfalso
        apply hh
        rw [h]
        unfold sc_bw
        rw [if_neg hn]
        rfl

/-! ### script: events and rules (plain) -/
def sc_ask : ByteArray := ⟨#[97, 115, 107]⟩
def sc_cancel : ByteArray := ⟨#[99, 97, 110, 99, 101, 108]⟩
def sc_goaway : ByteArray := ⟨#[103, 111, 97, 119, 97, 121]⟩
def sc_tick : ByteArray := ⟨#[116, 105, 99, 107]⟩
def sc_send : ByteArray := ⟨#[115, 101, 110, 100]⟩
def sc_pass : ByteArray := ⟨#[112, 97, 115, 115]⟩
def sc_drop : ByteArray := ⟨#[100, 114, 111, 112]⟩
def sc_twice : ByteArray := ⟨#[116, 119, 105, 99, 101]⟩
def sc_forge : ByteArray := ⟨#[102, 111, 114, 103, 101]⟩
def sc_rule : ByteArray := ⟨#[114, 117, 108, 101]⟩
def sc_echo : ByteArray := ⟨#[101, 99, 104, 111]⟩
def sc_f : ByteArray := ⟨#[102]⟩
def sc_t : ByteArray := ⟨#[116]⟩
/-- The rows of the program: word, kind, whether a number, whether data follow. -/
def sc_rows : List (ByteArray × Int × Bool × Bool) := [(sc_ask, 1, false, false), (sc_cancel, 2, true, false), (sc_goaway, 3, false, false), (sc_tick, 4, true, false), (sc_send, 5, true, false), (sc_pass, 6, true, false), (sc_drop, 7, true, false), (sc_twice, 8, true, false), (sc_forge, 9, true, true)]
def sc_row (w : ByteArray) : Option (ByteArray × Int × Bool × Bool) := sc_rows.find? fun r => decide (r.1 = w)
def sc_msg0 : S45 := ⟨[], [], []⟩
/-- The message of a line. -/
def tk_msg (t : Tk) : S45 × Tk :=
  (⟨(tk_fields sc_f t.1.length t []).1, (tk_body (tk_fields sc_f t.1.length t []).2).1, (tk_fields sc_t (tk_body (tk_fields sc_f t.1.length t []).2).2.1.length (tk_body (tk_fields sc_f t.1.length t []).2).2 []).1⟩, (tk_fields sc_t (tk_body (tk_fields sc_f t.1.length t []).2).2.1.length (tk_body (tk_fields sc_f t.1.length t []).2).2 []).2)
def tk_msgIf (b : Bool) (t : Tk) : S45 × Tk := if b = true then tk_msg t else (sc_msg0, t)
def tk_numIf (b : Bool) (t : Tk) : Int × Tk := if b = true then tk_number t else (0, t)
def tk_dataIf (b : Bool) (t : Tk) : List Int × Tk := if b = true then (sc_ints (tk_hex t).1, (tk_hex t).2) else ([], t)
def tk_rest (r : ByteArray × Int × Bool × Bool) (t : Tk) : S47 × Tk :=
  (⟨r.2.1, (tk_numIf r.2.2.1 (tk_msgIf (decide (r.2.1 = 1)) t).2).1, (tk_msgIf (decide (r.2.1 = 1)) t).1, (tk_dataIf r.2.2.2 (tk_numIf r.2.2.1 (tk_msgIf (decide (r.2.1 = 1)) t).2).2).1⟩, (tk_dataIf r.2.2.2 (tk_numIf r.2.2.1 (tk_msgIf (decide (r.2.1 = 1)) t).2).2).2)
def tk_event (t : Tk) : S47 × Tk :=
  match sc_row (tk_word t).1 with
  | none => (⟨0, 0, sc_msg0, []⟩, ((tk_word t).2.1, true))
  | some r => tk_rest r (tk_word t).2
def sc_mw (m : S45) : List ByteArray := sc_fw sc_f m.f0 ++ sc_bw m.f1 ++ sc_fw sc_t m.f2
def sc_okB (l : List Int) : Prop := ∀ x ∈ l, 0 ≤ x ∧ x < 256
def sc_ok64 (n : Int) : Prop := -9223372036854775808 ≤ n ∧ n ≤ 9223372036854775807
theorem sc_fw_head (sign s : ByteArray) (l : List S49) (r : List ByteArray) (h : sign ≠ s) (hr : r.head? ≠ some s) : (sc_fw sign l ++ r).head? ≠ some s := by
  cases l with
  | nil => simpa [sc_fw] using hr
  | cons f l => rw [sc_fw_cons]; simp [h]
theorem sc_bw_head (b : List Int) (s : ByteArray) (r : List ByteArray) (h : sc_b [98] ≠ s) (hr : r.head? ≠ some s) : (sc_bw b ++ r).head? ≠ some s := by
  unfold sc_bw
  split
  · simpa using hr
  · simp [h]
theorem sc_f_ne : sc_b [98] ≠ sc_f ∧ sc_t ≠ sc_f ∧ sc_t ≠ sc_b [98] ∧ sc_echo ≠ sc_f ∧ sc_echo ≠ sc_b [98] := by
  refine ⟨?_, ?_, ?_, ?_, ?_⟩ <;> (intro h; have := congrArg (fun s : ByteArray => s.data.toList) h; revert this; decide)
theorem tk_msg_iff (t : Tk) (m : S45) (hm : sc_okB m.f1) : tk_msg t = (m, ([], false)) ↔ t = (sc_mw m, false) := by
  obtain ⟨n1, n2, n3, _, _⟩ := sc_f_ne
  unfold tk_msg
  generalize hA : tk_fields sc_f t.1.length t [] = A
  generalize hB : tk_body A.2 = B
  generalize hC : tk_fields sc_t B.2.1.length B.2 [] = C
  constructor
  · intro h
    obtain ⟨h1, h2⟩ := Prod.mk.inj h
    subst h1
    simp only at hm
    obtain ⟨l2, hl2, h3, _⟩ := (tk_fields_iff sc_t _ B.2 [] C.1 [] (Nat.le_refl _)).1 (by rw [hC, ← h2])
    rw [List.append_nil] at h3
    have e2 := (tk_body_iff A.2 B.1 _ hm).1 (by rw [hB, ← h3])
    obtain ⟨l1, hl1, h4, _⟩ := (tk_fields_iff sc_f _ t [] A.1 _ (Nat.le_refl _)).1 (by rw [hA, ← e2.1])
    rw [h4]
    unfold sc_mw
    simp only
    rw [hl1, hl2]
    simp
  · intro h
    subst h
    have e1 := (tk_fields_iff sc_f _ (sc_mw m, false) [] m.f0 (sc_bw m.f1 ++ sc_fw sc_t m.f2) (Nat.le_refl _)).2 ⟨m.f0, by simp, by simp [sc_mw], sc_bw_head _ _ _ n1 (by have := sc_fw_head sc_t sc_f m.f2 [] n2 (by simp); simpa using this)⟩
    rw [e1] at hA
    subst hA
    have e2 := (tk_body_iff (sc_bw m.f1 ++ sc_fw sc_t m.f2, false) m.f1 (sc_fw sc_t m.f2) hm).2 ⟨rfl, fun _ => by have := sc_fw_head sc_t (sc_b [98]) m.f2 [] n3 (by simp); simpa using this⟩
    simp only at hB
    rw [e2] at hB
    subst hB
    have e3 := (tk_fields_iff sc_t _ (sc_fw sc_t m.f2, false) [] m.f2 [] (Nat.le_refl _)).2 ⟨m.f2, by simp, by simp, by simp⟩
    simp only at hC
    rw [e3] at hC
    subst hC
    rfl
def sc_empty (m : S45) : Prop := m.f0 = [] ∧ m.f1 = [] ∧ m.f2 = []
/-- The words of an event's line, by its row. -/
def sc_ew (r : ByteArray × Int × Bool × Bool) (e : S47) : List ByteArray :=
  r.1 :: ((if r.2.1 = 1 then sc_mw e.f2 else []) ++ (if r.2.2.1 = true then [sc_b (Lib.itoa e.f1)] else []) ++ (if r.2.2.2 = true then [sc_hexB (sc_bytes e.f3)] else []))
/-- May the event be told by the row? -/
def sc_may (r : ByteArray × Int × Bool × Bool) (e : S47) : Prop := e.f0 = r.2.1 ∧ (r.2.1 ≠ 1 → sc_empty e.f2) ∧ (r.2.2.1 = false → e.f1 = 0) ∧ (r.2.2.2 = false → e.f3 = [])
def sc_okE (e : S47) : Prop := sc_okB e.f2.f1 ∧ sc_okB e.f3 ∧ sc_ok64 e.f1
theorem tk_numIf_iff (b : Bool) (t : Tk) (n : Int) (r : List ByteArray) (hn : sc_ok64 n) : tk_numIf b t = (n, (r, false)) ↔ t = ((if b = true then [sc_b (Lib.itoa n)] else []) ++ r, false) ∧ (b = false → n = 0) := by
  cases b with
  | false =>
    simp only [tk_numIf, Bool.false_eq_true, if_false, Prod.mk.injEq, List.nil_append, true_implies]
    constructor
    · rintro ⟨rfl, rfl⟩; exact ⟨rfl, rfl⟩
    · rintro ⟨rfl, rfl⟩; exact ⟨rfl, rfl⟩
  | true =>
    simp only [tk_numIf, if_true]
    rw [tk_number_iff]
    simp only [List.cons_append, List.nil_append, Bool.true_eq_false, false_implies, and_true, and_iff_left_iff_imp]
    exact fun _ => hn
theorem tk_dataIf_iff (b : Bool) (t : Tk) (d : List Int) (r : List ByteArray) (hd : sc_okB d) : tk_dataIf b t = (d, (r, false)) ↔ t = ((if b = true then [sc_hexB (sc_bytes d)] else []) ++ r, false) ∧ (b = false → d = []) := by
  cases b with
  | false =>
    simp only [tk_dataIf, Bool.false_eq_true, if_false, Prod.mk.injEq, List.nil_append, true_implies]
    constructor
    · rintro ⟨rfl, rfl⟩; exact ⟨rfl, rfl⟩
    · rintro ⟨rfl, rfl⟩; exact ⟨rfl, rfl⟩
  | true =>
    simp only [tk_dataIf, if_true, List.cons_append, List.nil_append, Bool.true_eq_false, false_implies, and_true]
    rw [← tk_hex_iff]
    constructor
    · intro h
      obtain ⟨h1, h2⟩ := Prod.mk.inj h
      subst h1
      rw [sc_bytes_ints]
      exact Prod.ext rfl h2
    · intro h
      rw [h, sc_ints_bytes d hd]
theorem tk_msgIf_iff (b : Bool) (t : Tk) (m : S45) (hm : sc_okB m.f1) (hne : b = true → t.1 = [] ∨ True) (u : Tk) (hu : b = true → u = ([], false)) : tk_msgIf b t = (m, u) ↔ (b = true ∧ t = (sc_mw m, false)) ∨ (b = false ∧ m = sc_msg0 ∧ t = u) := by
  cases b with
  | false =>
    simp only [tk_msgIf, Bool.false_eq_true, if_false, Prod.mk.injEq, false_and, false_or, true_and]
    constructor
    · rintro ⟨rfl, rfl⟩; exact ⟨rfl, rfl⟩
    · rintro ⟨rfl, rfl⟩; exact ⟨rfl, rfl⟩
  | true =>
    simp only [tk_msgIf, if_true, true_and, Bool.true_eq_false, false_and, or_false]
    rw [hu rfl]
    exact tk_msg_iff t m hm
theorem sc_row_mem (w : ByteArray) (r : ByteArray × Int × Bool × Bool) (h : sc_row w = some r) : r ∈ sc_rows ∧ r.1 = w := by
  unfold sc_row at h
  exact ⟨List.mem_of_find?_eq_some h, by simpa using List.find?_some h⟩
theorem sc_row_of (r : ByteArray × Int × Bool × Bool) (h : r ∈ sc_rows) : sc_row r.1 = some r := by
  have key : ∀ r ∈ sc_rows, (sc_row r.1) = some r := by
    intro r hr
    simp only [sc_rows, List.mem_cons, List.not_mem_nil, or_false] at hr
    rcases hr with rfl | rfl | rfl | rfl | rfl | rfl | rfl | rfl | rfl <;> decide +kernel
  exact key r h
theorem tk_rest_iff (r : ByteArray × Int × Bool × Bool) (hr : r ∈ sc_rows) (t : Tk) (e : S47) (he : sc_okE e) : tk_rest r t = (e, ([], false)) ↔ (r.1 :: t.1, t.2) = (sc_ew r e, false) ∧ sc_may r e := by
  have h1 : r.2.1 = 1 → r.2.2.1 = false ∧ r.2.2.2 = false := by
    intro h
    simp only [sc_rows, List.mem_cons, List.not_mem_nil, or_false] at hr
    rcases hr with rfl | rfl | rfl | rfl | rfl | rfl | rfl | rfl | rfl <;> simp_all
  unfold tk_rest
  constructor
  · generalize hM : tk_msgIf (decide (r.2.1 = 1)) t = M
    generalize hN : tk_numIf r.2.2.1 M.2 = N
    generalize hD : tk_dataIf r.2.2.2 N.2 = D
    intro h
    obtain ⟨h2, h3⟩ := Prod.mk.inj h
    subst h2
    obtain ⟨o1, o2, o3⟩ := he
    simp only at o1 o2 o3
    obtain ⟨d1, d2⟩ := (tk_dataIf_iff _ N.2 D.1 [] o2).1 (by rw [hD, ← h3])
    obtain ⟨n1, n2⟩ := (tk_numIf_iff _ M.2 N.1 _ o3).1 (by rw [hN, ← d1])
    rw [List.append_nil] at n1
    by_cases hk : r.2.1 = 1
    · obtain ⟨a1, a2⟩ := h1 hk
      rw [a1, a2] at n1
      simp only [Bool.false_eq_true, if_false, List.append_nil] at n1
      have hd : decide (r.2.1 = 1) = true := decide_eq_true hk
      rw [hd] at hM
      have hm2 := (tk_msg_iff t M.1 o1).1 (by rw [show tk_msg t = tk_msgIf true t from rfl, hM, ← n1])
      refine ⟨?_, rfl, fun h => absurd hk h, n2, d2⟩
      unfold sc_ew
      simp only [hk, if_true, a1, a2, Bool.false_eq_true, if_false, List.append_nil]
      rw [hm2]
    · have hd : decide (r.2.1 = 1) = false := decide_eq_false hk
      rw [hd] at hM
      have hM2 : M = (sc_msg0, t) := hM.symm
      subst hM2
      simp only at n1
      refine ⟨?_, rfl, fun _ => ⟨rfl, rfl, rfl⟩, n2, d2⟩
      unfold sc_ew
      simp only [hk, if_false, List.nil_append]
      rw [n1]
  · rintro ⟨h, m0, m1, m2, m3⟩
    obtain ⟨o1, o2, o3⟩ := he
    obtain ⟨tl, tb⟩ := t
    unfold sc_ew at h
    simp only [Prod.mk.injEq, List.cons.injEq, true_and] at h
    obtain ⟨rfl, rfl⟩ := h
    by_cases hk : r.2.1 = 1
    · obtain ⟨a1, a2⟩ := h1 hk
      have hd : decide (r.2.1 = 1) = true := decide_eq_true hk
      simp only [hk, if_true, a1, a2, Bool.false_eq_true, if_false, List.append_nil, decide_true]
      have := (tk_msg_iff (sc_mw e.f2, false) e.f2 o1).2 rfl
      simp only [tk_msgIf, if_true, this, tk_numIf, Bool.false_eq_true, if_false, tk_dataIf]
      obtain ⟨e0, e1, e2, e3⟩ := e
      simp only at m0 m2 m3
      rw [m0, m2 a1, m3 a2, hk]
    · have hd : decide (r.2.1 = 1) = false := decide_eq_false hk
      obtain ⟨e0, e1, e2, e3⟩ := e
      simp only at m0 m1 m2 m3 o1 o2 o3 ⊢
      have hm := m1 hk
      obtain ⟨g0, g1, g2⟩ := e2
      obtain ⟨rfl, rfl, rfl⟩ := hm
      simp only [hk, if_false, List.nil_append, tk_msgIf, Bool.false_eq_true, decide_false]
      have hn := (tk_numIf_iff r.2.2.1 ((if r.2.2.1 = true then [sc_b (Lib.itoa e1)] else []) ++ (if r.2.2.2 = true then [sc_hexB (sc_bytes e3)] else []), false) e1 (if r.2.2.2 = true then [sc_hexB (sc_bytes e3)] else []) o3).2 ⟨rfl, m2⟩
      rw [hn]
      have hdd := (tk_dataIf_iff r.2.2.2 ((if r.2.2.2 = true then [sc_hexB (sc_bytes e3)] else []), false) e3 [] o2).2 ⟨by simp, m3⟩
      simp only
      rw [hdd, m0]
      rfl
theorem tk_event_iff (t : Tk) (e : S47) (he : sc_okE e) : tk_event t = (e, ([], false)) ↔ ∃ r, r ∈ sc_rows ∧ t = (sc_ew r e, false) ∧ sc_may r e := by
  obtain ⟨l, b⟩ := t
  cases l with
  | nil =>
    constructor
    · intro h
      exfalso
      have : (tk_event ([], b)).2.2 = true := by
        have : sc_row (sc_b []) = none := by decide +kernel
        unfold tk_event
        simp only [tk_word]
        rw [this]
      rw [h] at this
      cases this
    · rintro ⟨r, _, h, _⟩
      unfold sc_ew at h
      simp at h
  | cons w l =>
    unfold tk_event
    simp only [tk_word]
    cases hw : sc_row w with
    | none =>
      simp only
      constructor
      · intro h
        simp at h
      · rintro ⟨r, hr, h, _⟩
        exfalso
        have h2 := sc_row_of r hr
        unfold sc_ew at h
        simp only [Prod.mk.injEq, List.cons.injEq] at h
        rw [h.1.1, h2] at hw
        cases hw
    | some r =>
      simp only
      obtain ⟨hr, rfl⟩ := sc_row_mem w r hw
      rw [tk_rest_iff r hr (l, b) e he]
      constructor
      · rintro ⟨h1, h2⟩
        exact ⟨r, hr, h1, h2⟩
      · rintro ⟨r2, hr2, h, h2⟩
        have h3 := sc_row_of r2 hr2
        have e1 : r.1 = r2.1 := by
          unfold sc_ew at h
          simp only [Prod.mk.injEq, List.cons.injEq] at h
          exact h.1.1
        rw [← e1, hw] at h3
        cases h3
        exact ⟨h, h2⟩

/-! ### script: rules, texts, lines (plain) -/
/-- A rule of a line: the first word is "rule", or what is left is bad. -/
def tk_rule1 (t : Tk) : Tk := ((tk_word t).2.1, !decide ((tk_word t).1 = sc_rule))
def tk_rule (t : Tk) : S51 × Tk :=
  (⟨(tk_hex (tk_rule1 t)).1, (tk_hex (tk_hex (tk_rule1 t)).2).1, (tk_number (tk_hex (tk_hex (tk_rule1 t)).2).2).1,
    (tk_fields sc_f (tk_number (tk_hex (tk_hex (tk_rule1 t)).2).2).2.1.length (tk_number (tk_hex (tk_hex (tk_rule1 t)).2).2).2 []).1,
    (tk_body (tk_fields sc_f (tk_number (tk_hex (tk_hex (tk_rule1 t)).2).2).2.1.length (tk_number (tk_hex (tk_hex (tk_rule1 t)).2).2).2 []).2).1,
    (tk_is sc_echo (tk_body (tk_fields sc_f (tk_number (tk_hex (tk_hex (tk_rule1 t)).2).2).2.1.length (tk_number (tk_hex (tk_hex (tk_rule1 t)).2).2).2 []).2).2).1⟩,
   (tk_is sc_echo (tk_body (tk_fields sc_f (tk_number (tk_hex (tk_hex (tk_rule1 t)).2).2).2.1.length (tk_number (tk_hex (tk_hex (tk_rule1 t)).2).2).2 []).2).2).2)
def sc_rw (r : S51) : List ByteArray := sc_rule :: sc_hexB r.f0 :: sc_hexB r.f1 :: sc_b (Lib.itoa r.f2) :: (sc_fw sc_f r.f3 ++ (sc_bw r.f4 ++ (if r.f5 = true then [sc_echo] else [])))
def sc_okR (r : S51) : Prop := sc_okB r.f4 ∧ sc_ok64 r.f2
theorem tk_rule_iff (t : Tk) (r : S51) (hr : sc_okR r) : tk_rule t = (r, ([], false)) ↔ t.1 = sc_rw r := by
  obtain ⟨n1, n2, n3, n4, n5⟩ := sc_f_ne
  have hrule : sc_b [] ≠ sc_rule := by intro h; have := congrArg (fun s : ByteArray => s.data.toList) h; revert this; decide
  unfold tk_rule
  generalize hA : tk_hex (tk_rule1 t) = A
  generalize hB : tk_hex A.2 = B
  generalize hC : tk_number B.2 = C
  generalize hD : tk_fields sc_f C.2.1.length C.2 [] = D
  generalize hE : tk_body D.2 = E
  generalize hF : tk_is sc_echo E.2 = F
  have e1 : tk_rule1 t = (t.1.tail, !decide ((tk_word t).1 = sc_rule)) := by
    obtain ⟨l, b⟩ := t
    cases l <;> rfl
  constructor
  · intro h
    obtain ⟨h1, h2⟩ := Prod.mk.inj h
    subst h1
    obtain ⟨o1, o2⟩ := hr
    simp only at o1 o2
    have f1 : E.2 = ((if F.1 = true then [sc_echo] else []) ++ [], false) := by
      rcases tk_is_cases sc_echo E.2 with ⟨x, hx, his⟩ | ⟨hx, his⟩
      · rw [hF] at his
        rw [his] at h2 ⊢
        simp only [Prod.mk.injEq] at h2
        rw [hx, h2.1, h2.2]
        rfl
      · rw [hF] at his
        rw [his] at h2 ⊢
        simp only at h2
        rw [h2]
        rfl
    rw [List.append_nil] at f1
    obtain ⟨f2, _⟩ := (tk_body_iff D.2 E.1 _ o1).1 (by rw [hE, ← f1])
    obtain ⟨l1, hl1, f3, _⟩ := (tk_fields_iff sc_f _ C.2 [] D.1 _ (Nat.le_refl _)).1 (by rw [hD, ← f2])
    rw [List.nil_append] at hl1
    subst hl1
    obtain ⟨f4, _⟩ := (tk_number_iff B.2 C.1 _).1 (by rw [hC, ← f3])
    have f5 := (tk_hex_iff A.2 B.1 _).1 (by rw [hB, ← f4])
    have f6 := (tk_hex_iff (tk_rule1 t) A.1 _).1 (by rw [hA, ← f5])
    rw [e1] at f6
    obtain ⟨g1, g2⟩ := Prod.mk.inj f6
    obtain ⟨l, b⟩ := t
    cases l with
    | nil => simp at g1
    | cons w l =>
      simp only [tk_word, Bool.not_eq_false'] at g2
      simp only [List.tail_cons] at g1
      have g3 := of_decide_eq_true g2
      subst g1
      subst g3
      rfl
  · intro h
    obtain ⟨o1, o2⟩ := hr
    obtain ⟨l, b⟩ := t
    simp only at h
    subst h
    have e2 : tk_rule1 (sc_rw r, b) = ((sc_rw r).tail, false) := by
      unfold tk_rule1 sc_rw
      simp [tk_word]
    rw [e2, sc_rw, List.tail_cons, (tk_hex_iff _ r.f0 _).2 rfl] at hA
    subst hA
    simp only at hB
    rw [(tk_hex_iff _ r.f1 _).2 rfl] at hB
    subst hB
    simp only at hC
    rw [(tk_number_iff _ r.f2 _).2 ⟨rfl, o2⟩] at hC
    subst hC
    simp only at hD
    have q1 : ((if r.f5 = true then [sc_echo] else []) : List ByteArray).head? ≠ some sc_f := by
      split
      · simp [n4]
      · simp
    have q2 : ((if r.f5 = true then [sc_echo] else []) : List ByteArray).head? ≠ some (sc_b [98]) := by
      split
      · simp [n5]
      · simp
    rw [(tk_fields_iff sc_f _ _ [] r.f3 _ (Nat.le_refl _)).2 ⟨r.f3, rfl, rfl, sc_bw_head _ _ _ n1 q1⟩] at hD
    subst hD
    simp only at hE
    rw [(tk_body_iff _ r.f4 _ o1).2 ⟨rfl, fun _ => q2⟩] at hE
    subst hE
    simp only at hF
    obtain ⟨r0, r1, r2, r3, r4, r5⟩ := r
    cases r5 with
    | true =>
      simp only [if_true] at hF
      rw [(tk_is_true sc_echo _ ([], false)).2 rfl] at hF
      subst hF
      rfl
    | false =>
      simp only [Bool.false_eq_true, if_false] at hF
      rw [tk_is_false _ _ (by simp)] at hF
      subst hF
      rfl
/-! lines and words -/
def sc_words (p : List UInt8) : List ByteArray := (sc_split 32 p).map sc_b
def sc_tail (ws : List ByteArray) : List UInt8 := ws.flatMap fun w => 32 :: w.data.toList
theorem sc_join_tail : ∀ (ws : List ByteArray) (w : ByteArray), sc_join 32 ((w :: ws).map fun x => x.data.toList) = w.data.toList ++ sc_tail ws
  | [], w => by simp [sc_join, sc_tail]
  | v :: ws, w => by
    have := sc_join_tail ws v
    rw [List.map_cons] at this
    rw [List.map_cons, List.map_cons, sc_join_two, this]
    simp [sc_tail]
theorem sc_words_iff (p : List UInt8) (w : ByteArray) (ws : List ByteArray) (h : ∀ x ∈ w :: ws, (32 : UInt8) ∉ x.data.toList) : sc_words p = w :: ws ↔ p = w.data.toList ++ sc_tail ws := by
  have e : (fun x : ByteArray => x.data.toList) ∘ sc_b = id := by funext l; rfl
  rw [← sc_join_tail]
  constructor
  · intro h1
    have h2 := congrArg (List.map fun x : ByteArray => x.data.toList) h1
    unfold sc_words at h2
    rw [List.map_map, e, List.map_id] at h2
    rw [← h2, sc_join_split]
  · intro h1
    subst h1
    unfold sc_words
    rw [sc_split_join 32 _ (by simp) (by
      intro q hq
      rw [List.mem_map] at hq
      obtain ⟨x, hx, rfl⟩ := hq
      exact h x hx), List.map_map]
    have : sc_b ∘ (fun x : ByteArray => x.data.toList) = id := by funext l; rfl
    rw [this, List.map_id]
/-- Texts of lines, each by a function that tells it. -/
def sc_text {α : Type} (f : α → Option ByteArray) : List α → Nat → Bool → List UInt8 → List UInt8 × Int
  | [], _, long, out => if long = true then ([], 3) else (out, 0)
  | x :: l, i, long, out => match f x with
    | none => ([], 1)
    | some s => if long = true ∨ 65536 < s.size ∨ 4096 ≤ i then sc_text f l (i + 1) true out else sc_text f l (i + 1) false (out ++ s.data.toList ++ [10])
def sc_parse {α : Type} (f : Tk → α × Tk) : List (List UInt8) → Nat → List α → List α × Int × Int
  | [], _, acc => (acc, 0, 0)
  | [p], i, acc => if p = [] then (acc, 0, 0) else ([], (i : Int), 5)
  | p :: q :: ps, i, acc =>
    if (f (sc_words p, false)).2.2 = true ∨ (f (sc_words p, false)).2.1 ≠ [] ∨ 65536 < p.length ∨ 4096 ≤ i then ([], (i : Int), 5)
    else sc_parse f (q :: ps) (i + 1) (acc ++ [(f (sc_words p, false)).1])
theorem sc_text_long {α : Type} (f : α → Option ByteArray) : ∀ (l : List α) (i : Nat) (out : List UInt8), (sc_text f l i true out).2 ≠ 0 ∧ (sc_text f l i true out).1 = []
  | [], _, _ => by simp [sc_text]
  | x :: l, i, out => by
    rw [sc_text]
    cases f x with
    | none => simp
    | some s =>
      simp only [true_or, if_true]
      exact sc_text_long f l (i + 1) out
theorem sc_text_bad {α : Type} (f : α → Option ByteArray) : ∀ (l : List α) (i : Nat) (b : Bool) (out : List UInt8), (sc_text f l i b out).2 ≠ 0 → (sc_text f l i b out).1 = []
  | [], _, b, out, h => by
    rw [sc_text] at h ⊢
    split
    · rfl
    · rename_i hb; rw [if_neg hb] at h; simp at h
  | x :: l, i, b, out, h => by
    rw [sc_text] at h ⊢
    cases hx : f x with
    | none => rfl
    | some s =>
      rw [hx] at h
      simp only at h ⊢
      split
      · rename_i hc; rw [if_pos hc] at h; exact sc_text_bad f l _ _ _ h
      · rename_i hc; rw [if_neg hc] at h; exact sc_text_bad f l _ _ _ h
theorem sc_parse_bad {α : Type} (f : Tk → α × Tk) : ∀ (ps : List (List UInt8)) (i : Nat) (acc : List α), (sc_parse f ps i acc).2.2 ≠ 0 → (sc_parse f ps i acc).1 = [] ∧ 0 ≤ (sc_parse f ps i acc).2.1
  | [], _, _, h => by simp [sc_parse] at h
  | [p], i, acc, h => by
    rw [sc_parse] at h ⊢
    split
    · rename_i hp; rw [if_pos hp] at h; simp at h
    · simp
  | p :: q :: ps, i, acc, h => by
    rw [sc_parse] at h ⊢
    split
    · simp
    · rename_i hc; rw [if_neg hc] at h; exact sc_parse_bad f (q :: ps) (i + 1) _ h
theorem sc_parse_zero {α : Type} (f : Tk → α × Tk) : ∀ (ps : List (List UInt8)) (i : Nat) (acc : List α), (sc_parse f ps i acc).2.2 = 0 → (sc_parse f ps i acc).2.1 = 0
  | [], _, _, _ => by simp [sc_parse]
  | [p], i, acc, h => by
    rw [sc_parse] at h ⊢
    split
    · rfl
    · rename_i hp; rw [if_neg hp] at h; simp at h
  | p :: q :: ps, i, acc, h => by
    rw [sc_parse] at h ⊢
    split
    · rename_i hc; rw [if_pos hc] at h; simp at h
    · rename_i hc; rw [if_neg hc] at h; exact sc_parse_zero f (q :: ps) (i + 1) _ h
theorem sc_again {α : Type} (f : Tk → α × Tk) (g : α → Option ByteArray) (hf : ∀ p e, f (sc_words p, false) = (e, ([], false)) → g e = some (sc_b p)) :
    ∀ (ps : List (List UInt8)) (i : Nat) (acc l : List α) (out : List UInt8), ps ≠ [] → (sc_parse f ps i acc).2.2 = 0 → (sc_parse f ps i acc).1 = l → ∃ l2, l = acc ++ l2 ∧ sc_text g l2 i false out = (out ++ sc_join 10 ps, 0)
  | [], _, _, _, _, h, _, _ => absurd rfl h
  | [p], i, acc, l, out, _, h, h2 => by
    rw [sc_parse] at h h2
    by_cases hp : p = []
    · rw [if_pos hp] at h2
      subst hp
      exact ⟨[], by rw [← h2]; simp, by simp [sc_text, sc_join]⟩
    · rw [if_neg hp] at h
      simp at h
  | p :: q :: ps, i, acc, l, out, _, h, h2 => by
    rw [sc_parse] at h h2
    by_cases hc : (f (sc_words p, false)).2.2 = true ∨ (f (sc_words p, false)).2.1 ≠ [] ∨ 65536 < p.length ∨ 4096 ≤ i
    · rw [if_pos hc] at h
      simp at h
    · rw [if_neg hc] at h h2
      simp only [not_or, Bool.not_eq_true, ne_eq, Classical.not_not, Nat.not_lt, Nat.not_le] at hc
      obtain ⟨c1, c2, c3, c4⟩ := hc
      obtain ⟨l2, h3, h4⟩ := sc_again f g hf (q :: ps) (i + 1) _ l (out ++ p ++ [10]) (by simp) h h2
      refine ⟨(f (sc_words p, false)).1 :: l2, by rw [h3]; simp, ?_⟩
      rw [sc_text, hf p _ (Prod.ext rfl (Prod.ext c2 c1))]
      simp only [Bool.false_eq_true, false_or, sc_b_size, sc_b_data]
      rw [if_neg (by omega), h4, sc_join_two]
      simp
theorem sc_back {α : Type} (f : Tk → α × Tk) (g : α → Option ByteArray) (ok : α → Prop) (hg : ∀ e x, ok e → g e = some x → (10 : UInt8) ∉ x.data.toList ∧ f (sc_words x.data.toList, false) = (e, ([], false))) :
    ∀ (l : List α) (i : Nat) (acc : List α) (out : List UInt8), (∀ e ∈ l, ok e) → (sc_text g l i false out).2 = 0 → ∃ ps, ps ≠ [] ∧ (∀ p ∈ ps, (10 : UInt8) ∉ p) ∧ (sc_text g l i false out).1 = out ++ sc_join 10 ps ∧ sc_parse f ps i acc = (acc ++ l, 0, 0)
  | [], i, acc, out, _, h => ⟨[[]], by simp, by simp, by simp [sc_text, sc_join], by simp [sc_parse]⟩
  | e :: l, i, acc, out, ho, h => by
    rw [sc_text] at h ⊢
    cases hx : g e with
    | none => rw [hx] at h; simp at h
    | some s =>
      rw [hx] at h
      simp only at h ⊢
      by_cases hc : false = true ∨ 65536 < s.size ∨ 4096 ≤ i
      · rw [if_pos hc] at h
        exact absurd h (sc_text_long g l (i + 1) out).1
      · rw [if_neg hc] at h ⊢
        simp only [Bool.false_eq_true, false_or, not_or, Nat.not_lt, Nat.not_le] at hc
        obtain ⟨h10, hfx⟩ := hg e s (ho e (by simp)) hx
        obtain ⟨ps, p1, p2, p3, p4⟩ := sc_back f g ok hg l (i + 1) (acc ++ [e]) (out ++ s.data.toList ++ [10]) (fun x hx => ho x (by simp [hx])) h
        cases ps with
        | nil => exact absurd rfl p1
        | cons q ps =>
          refine ⟨s.data.toList :: q :: ps, by simp, ?_, ?_, ?_⟩
          · intro p hp
            rcases List.mem_cons.1 hp with rfl | hp
            · exact h10
            · exact p2 p hp
          · rw [p3, sc_join_two]
            simp
          · have hs : s.data.toList.length = s.size := rfl
            rw [sc_parse, hfx]
            simp only [Bool.false_eq_true, ne_eq, not_true_eq_false, false_or]
            rw [if_neg (by omega), p4]
            simp

/-! ### script: the laws (plain) -/
def sc_none (m : S45) : Bool := m.f0.isEmpty && m.f1.isEmpty && m.f2.isEmpty
def sc_mayB (r : ByteArray × Int × Bool × Bool) (e : S47) : Bool := (sc_none e.f2 || decide (r.2.1 = 1)) && (decide (e.f1 = 0) || r.2.2.1) && (e.f3.isEmpty || r.2.2.2)
def sc_krow (k : Int) : Option (ByteArray × Int × Bool × Bool) := sc_rows.find? fun r => decide (r.2.1 = k)
def sc_line (e : S47) : Option ByteArray :=
  match sc_krow e.f0 with
  | none => none
  | some r => if sc_mayB r e = true then some (sc_b (r.1.data.toList ++ sc_tail (sc_ew r e).tail)) else none
def sc_ruled (r : S51) : Option ByteArray := some (sc_b (sc_rule.data.toList ++ sc_tail (sc_rw r).tail))
theorem sc_mayB_iff (r : ByteArray × Int × Bool × Bool) (e : S47) : (e.f0 = r.2.1 ∧ sc_mayB r e = true) ↔ sc_may r e := by
  unfold sc_mayB sc_may sc_none sc_empty
  simp only [Bool.and_eq_true, Bool.or_eq_true, decide_eq_true_eq, List.isEmpty_iff]
  constructor
  · rintro ⟨h0, ⟨h1, h2⟩, h3⟩
    refine ⟨h0, fun h => ?_, fun h => ?_, fun h => ?_⟩
    · rcases h1 with ⟨⟨a, b⟩, c⟩ | h1
      · exact ⟨a, b, c⟩
      · exact absurd h1 h
    · rcases h2 with h2 | h2
      · exact h2
      · rw [h] at h2; cases h2
    · rcases h3 with h3 | h3
      · exact h3
      · rw [h] at h3; cases h3
  · rintro ⟨h0, h1, h2, h3⟩
    refine ⟨h0, ⟨?_, ?_⟩, ?_⟩
    · by_cases h : r.2.1 = 1
      · exact .inr h
      · obtain ⟨a, b, c⟩ := h1 h
        exact .inl ⟨⟨a, b⟩, c⟩
    · cases h : r.2.2.1 with
      | true => exact .inr rfl
      | false => exact .inl (h2 h)
    · cases h : r.2.2.2 with
      | true => exact .inr rfl
      | false => exact .inl (h3 h)
theorem sc_krow_mem (k : Int) (r : ByteArray × Int × Bool × Bool) (h : sc_krow k = some r) : r ∈ sc_rows ∧ r.2.1 = k := by
  unfold sc_krow at h
  exact ⟨List.mem_of_find?_eq_some h, by simpa using List.find?_some h⟩
theorem sc_krow_of (r : ByteArray × Int × Bool × Bool) (h : r ∈ sc_rows) : sc_krow r.2.1 = some r := by
  have key : ∀ r ∈ sc_rows, (sc_krow r.2.1) = some r := by
    intro r hr
    simp only [sc_rows, List.mem_cons, List.not_mem_nil, or_false] at hr
    rcases hr with rfl | rfl | rfl | rfl | rfl | rfl | rfl | rfl | rfl <;> rfl
  exact key r h
def sc_fine (w : ByteArray) : Prop := ∀ c ∈ w.data.toList, c ≠ 32 ∧ c ≠ 10
theorem sc_fine_hex (s : ByteArray) : sc_fine (sc_hexB s) := fun c hc => sc_hex_mem s.data.toList c hc
theorem sc_fine_itoa (n : Int) : sc_fine (sc_b (Lib.itoa n)) := fun c hc => sc_itoa_mem n c hc
theorem sc_fine_fw (sign : ByteArray) (h : sc_fine sign) (l : List S49) : ∀ w ∈ sc_fw sign l, sc_fine w := by
  intro w hw
  unfold sc_fw at hw
  rw [List.mem_flatMap] at hw
  obtain ⟨f, _, hw⟩ := hw
  simp only [List.mem_cons, List.not_mem_nil, or_false] at hw
  rcases hw with rfl | rfl | rfl
  · exact h
  · exact sc_fine_hex _
  · exact sc_fine_hex _
theorem sc_fine_bw (b : List Int) : ∀ w ∈ sc_bw b, sc_fine w := by
  intro w hw
  unfold sc_bw at hw
  split at hw
  · simp at hw
  · simp only [List.mem_cons, List.not_mem_nil, or_false] at hw
    rcases hw with rfl | rfl
    · intro c hc; revert c; decide
    · exact sc_fine_hex _
theorem sc_fine_mw (m : S45) : ∀ w ∈ sc_mw m, sc_fine w := by
  intro w hw
  unfold sc_mw at hw
  rw [List.mem_append, List.mem_append] at hw
  rcases hw with (hw | hw) | hw
  · exact sc_fine_fw _ (by unfold sc_fine; decide) _ w hw
  · exact sc_fine_bw _ w hw
  · exact sc_fine_fw _ (by unfold sc_fine; decide) _ w hw
theorem sc_fine_row (r : ByteArray × Int × Bool × Bool) (h : r ∈ sc_rows) : sc_fine r.1 := by
  simp only [sc_rows, List.mem_cons, List.not_mem_nil, or_false] at h
  rcases h with rfl | rfl | rfl | rfl | rfl | rfl | rfl | rfl | rfl <;> (unfold sc_fine; decide)
theorem sc_fine_ew (r : ByteArray × Int × Bool × Bool) (hr : r ∈ sc_rows) (e : S47) : ∀ w ∈ sc_ew r e, sc_fine w := by
  intro w hw
  unfold sc_ew at hw
  rcases List.mem_cons.1 hw with rfl | hw
  · exact sc_fine_row r hr
  · rw [List.mem_append, List.mem_append] at hw
    rcases hw with (hw | hw) | hw
    · split at hw
      · exact sc_fine_mw _ w hw
      · simp at hw
    · split at hw
      · rw [List.mem_singleton] at hw; rw [hw]; exact sc_fine_itoa _
      · simp at hw
    · split at hw
      · rw [List.mem_singleton] at hw; rw [hw]; exact sc_fine_hex _
      · simp at hw
theorem sc_fine_rw (r : S51) : ∀ w ∈ sc_rw r, sc_fine w := by
  intro w hw
  unfold sc_rw at hw
  simp only [List.mem_cons, List.mem_append] at hw
  rcases hw with rfl | rfl | rfl | rfl | hw | hw | hw
  · unfold sc_fine; decide
  · exact sc_fine_hex _
  · exact sc_fine_hex _
  · exact sc_fine_itoa _
  · exact sc_fine_fw _ (by unfold sc_fine; decide) _ w hw
  · exact sc_fine_bw _ w hw
  · split at hw
    · rw [List.mem_singleton] at hw; rw [hw]; unfold sc_fine; decide
    · simp at hw
theorem sc_tail_ten (ws : List ByteArray) (h : ∀ w ∈ ws, sc_fine w) : (10 : UInt8) ∉ sc_tail ws := by
  intro hc
  unfold sc_tail at hc
  rw [List.mem_flatMap] at hc
  obtain ⟨w, hw, hc⟩ := hc
  rcases List.mem_cons.1 hc with hc | hc
  · revert hc; decide
  · exact (h w hw 10 hc).2 rfl
theorem sc_num_ok (w : ByteArray) : sc_ok64 (sc_num w) := by
  unfold sc_num sc_ok64
  split
  · rename_i v hp
    exact sc_pib_range _ _ hp
  · exact sc_sat_range _
  · exact ⟨by omega, by omega⟩
theorem sc_okB_ints (s : ByteArray) : sc_okB (sc_ints s) := sc_ints_range s
theorem sc_okB_nil : sc_okB [] := fun x hx => by simp at hx
theorem tk_body_ok (t : Tk) : sc_okB (tk_body t).1 := by
  unfold tk_body
  split
  · exact sc_okB_ints _
  · exact sc_okB_nil
theorem tk_rest_ok (r : ByteArray × Int × Bool × Bool) (t : Tk) : sc_okE (tk_rest r t).1 := by
  unfold tk_rest
  refine ⟨?_, ?_, ?_⟩
  · show sc_okB (tk_msgIf (decide (r.2.1 = 1)) t).1.f1
    unfold tk_msgIf
    split
    · exact tk_body_ok _
    · exact sc_okB_nil
  · show sc_okB (tk_dataIf r.2.2.2 _).1
    unfold tk_dataIf
    split
    · exact sc_okB_ints _
    · exact sc_okB_nil
  · show sc_ok64 (tk_numIf r.2.2.1 _).1
    unfold tk_numIf
    split
    · exact sc_num_ok _
    · exact (show sc_ok64 0 from ⟨by decide, by decide⟩)
theorem tk_event_ok (t : Tk) : sc_okE (tk_event t).1 := by
  unfold tk_event
  split
  · exact ⟨sc_okB_nil, sc_okB_nil, (show sc_ok64 0 from ⟨by decide, by decide⟩)⟩
  · exact tk_rest_ok _ _
theorem tk_rule_ok (t : Tk) : sc_okR (tk_rule t).1 := ⟨tk_body_ok _, sc_num_ok _⟩
theorem sc_event_again (p : List UInt8) (e : S47) (h : tk_event (sc_words p, false) = (e, ([], false))) : sc_line e = some (sc_b p) := by
  have he : sc_okE e := by have := tk_event_ok (sc_words p, false); rw [h] at this; exact this
  obtain ⟨r, hr, h1, h2⟩ := (tk_event_iff _ e he).1 h
  obtain ⟨h3, h4⟩ := (sc_mayB_iff r e).2 h2
  have h5 : sc_words p = sc_ew r e := (Prod.mk.inj h1).1
  unfold sc_line
  rw [h3, sc_krow_of r hr]
  simp only
  rw [if_pos h4]
  have h6 := (sc_words_iff p r.1 (sc_ew r e).tail (fun x hx => fun hc => (sc_fine_ew r hr e x (by simpa [sc_ew] using hx) 32 hc).1 rfl)).1 (by rw [h5]; rfl)
  rw [h6]
theorem sc_event_back (e : S47) (x : ByteArray) (he : sc_okE e) (h : sc_line e = some x) : (10 : UInt8) ∉ x.data.toList ∧ tk_event (sc_words x.data.toList, false) = (e, ([], false)) := by
  unfold sc_line at h
  cases hk : sc_krow e.f0 with
  | none => rw [hk] at h; cases h
  | some r =>
    rw [hk] at h
    simp only at h
    obtain ⟨hr, hk2⟩ := sc_krow_mem _ r hk
    split at h
    · rename_i hm
      cases h
      have hfine := sc_fine_ew r hr e
      rw [sc_b_data]
      refine ⟨?_, ?_⟩
      · rw [List.mem_append, not_or]
        exact ⟨fun hc => (sc_fine_row r hr 10 hc).2 rfl, sc_tail_ten _ (fun w hw => hfine w (List.mem_of_mem_tail hw))⟩
      · rw [tk_event_iff _ e he]
        refine ⟨r, hr, ?_, (sc_mayB_iff r e).1 ⟨hk2.symm, hm⟩⟩
        rw [(sc_words_iff _ r.1 (sc_ew r e).tail (fun x hx => fun hc => (hfine x (by simpa [sc_ew] using hx) 32 hc).1 rfl)).2 rfl]
        rfl
    · cases h
theorem sc_rule_again (p : List UInt8) (r : S51) (h : tk_rule (sc_words p, false) = (r, ([], false))) : sc_ruled r = some (sc_b p) := by
  have hr : sc_okR r := by have := tk_rule_ok (sc_words p, false); rw [h] at this; exact this
  have h1 := (tk_rule_iff _ r hr).1 h
  unfold sc_ruled
  have h6 := (sc_words_iff p sc_rule (sc_rw r).tail (fun x hx => fun hc => (sc_fine_rw r x (by simpa [sc_rw] using hx) 32 hc).1 rfl)).1 h1
  rw [h6]
theorem sc_rule_back (r : S51) (x : ByteArray) (hr : sc_okR r) (h : sc_ruled r = some x) : (10 : UInt8) ∉ x.data.toList ∧ tk_rule (sc_words x.data.toList, false) = (r, ([], false)) := by
  unfold sc_ruled at h
  cases h
  have hfine := sc_fine_rw r
  rw [sc_b_data]
  refine ⟨?_, ?_⟩
  · rw [List.mem_append, not_or]
    exact ⟨by decide, sc_tail_ten _ (fun w hw => hfine w (List.mem_of_mem_tail hw))⟩
  · rw [tk_rule_iff _ r hr]
    exact (sc_words_iff _ sc_rule (sc_rw r).tail (fun x hx => fun hc => (hfine x (by simpa [sc_rw] using hx) 32 hc).1 rfl)).2 rfl
def sc_Parse (s : ByteArray) : List S47 × Int × Int := sc_parse tk_event (sc_split 10 s.data.toList) 0 []
def sc_Rules (s : ByteArray) : List S51 × Int × Int := sc_parse tk_rule (sc_split 10 s.data.toList) 0 []
def sc_Text (l : List S47) : List UInt8 × Int := sc_text sc_line l 0 false []
def sc_RulesText (l : List S51) : List UInt8 × Int := sc_text sc_ruled l 0 false []
theorem sc_ScriptBack (l : List S47) (hl : ∀ e ∈ l, sc_okE e) (h : (sc_Text l).2 = 0) : sc_Parse (sc_b (sc_Text l).1) = (l, 0, 0) := by
  obtain ⟨ps, p1, p2, p3, p4⟩ := sc_back tk_event sc_line sc_okE sc_event_back l 0 [] [] hl h
  unfold sc_Parse sc_Text
  rw [p3, List.nil_append, sc_b_data, sc_split_join 10 ps p1 p2, p4, List.nil_append]
theorem sc_ScriptAgain (s : ByteArray) (h : (sc_Parse s).2.2 = 0) : sc_Text (sc_Parse s).1 = (s.data.toList, 0) := by
  obtain ⟨l2, h1, h2⟩ := sc_again tk_event sc_line sc_event_again (sc_split 10 s.data.toList) 0 [] _ [] (sc_split_ne _ _) h rfl
  rw [List.nil_append] at h1
  rw [List.nil_append, sc_join_split] at h2
  unfold sc_Text sc_Parse
  rw [h1]
  exact h2
theorem sc_RulesBack (l : List S51) (hl : ∀ e ∈ l, sc_okR e) (h : (sc_RulesText l).2 = 0) : sc_Rules (sc_b (sc_RulesText l).1) = (l, 0, 0) := by
  obtain ⟨ps, p1, p2, p3, p4⟩ := sc_back tk_rule sc_ruled sc_okR sc_rule_back l 0 [] [] hl h
  unfold sc_Rules sc_RulesText
  rw [p3, List.nil_append, sc_b_data, sc_split_join 10 ps p1 p2, p4, List.nil_append]
theorem sc_RulesAgain (s : ByteArray) (h : (sc_Rules s).2.2 = 0) : sc_RulesText (sc_Rules s).1 = (s.data.toList, 0) := by
  obtain ⟨l2, h1, h2⟩ := sc_again tk_rule sc_ruled sc_rule_again (sc_split 10 s.data.toList) 0 [] _ [] (sc_split_ne _ _) h rfl
  rw [List.nil_append] at h1
  rw [List.nil_append, sc_join_split] at h2
  unfold sc_RulesText sc_Rules
  rw [h1]
  exact h2

end Go.Proofs.YtegmbihjjhhpmaaDoor.T
