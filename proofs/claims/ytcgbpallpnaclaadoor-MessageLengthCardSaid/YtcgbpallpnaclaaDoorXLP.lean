/- A part of the walk of the laws of layer 22 (message): contracts of functions of the program, each walked once. -/
import Derived.Test.YtcgbpallpnaclaaDoorXL
import Derived.RangeFuncNested
import Derived.RangeFuncBound
import Derived.RangeFuncCalls
import Derived.RangeFuncLeaves
import Derived.RangeFuncBox
import Derived.OwnWalkIn
import Derived.TacticsInMore
import Derived.LoopNIn
import Derived.LoopIn
import Derived.Deep.DeepMust
import Derived.LoopN
import Derived.Laws.BitsAllLaws
import Derived.Maps.OwnIn
import Derived.Maps.Own
import Derived.Maps.OwnSet
import Derived.Maps.OwnOps
import Derived.Shelf.Abstract
import Derived.Sort.CutIn
import Derived.Shelf.RegionOpen
import Derived.StillTailTactics
import Derived.Outline
import Derived.Deep.RegionHeld3
import Derived.Laws.StructEq
import Derived.Laws.RangeAny
import Derived.Laws.EntriesVeiled
import Derived.WalkSpells
import Derived.Lib.SlBytesConst
import Derived.Lib.ItoaLen
import Derived.Deep.RegionLaw
import Derived.Deep.RegionWith
import Derived.ArgAppend
import Derived.Shelf.Strings.SlTrimAscii
import Derived.Shelf.Strings.IndexAnyAll
import Derived.Test.YtcgbpallpnaclaaDoorSh
import Derived.Test.YtcgbpallpnaclaaDoorWEqStruct
namespace Go.Proofs.YtcgbpallpnaclaaDoor.T
open Go.RowKit Go.Proofs.YtcgbpallpnaclaaDoorW.PrintWords Go.Proofs.YtcgbpallpnaclaaDoorW.PrintLast Go.Proofs.YtcgbpallpnaclaaDoorW.PrintMore
open Go.Proofs.YtcgbpallpnaclaaDoor.PMG
set_option linter.unusedVariables false
set_option linter.unusedSimpArgs false
/-! ### what message.Request answers of a request with a told length: plain Lean -/
def digB (l : List UInt8) : Prop := ∀ b ∈ l, 48 ≤ b.toNat ∧ b.toNat ≤ 57
open Lib in
theorem dig_dec : ∀ (f m : Nat), m < f → digB (decDigits m)
  | 0, m, h => absurd h (by omega)
  | f + 1, m, h => by
    have hd : ∀ d : Nat, d < 10 → 48 ≤ (UInt8.ofNat (48 + d)).toNat ∧ (UInt8.ofNat (48 + d)).toNat ≤ 57 := by
      intro d hd
      have : ∀ i : Fin 10, 48 ≤ (UInt8.ofNat (48 + i.val)).toNat ∧ (UInt8.ofNat (48 + i.val)).toNat ≤ 57 := by decide +kernel
      exact this ⟨d, hd⟩
    rw [decDigits]
    by_cases hm : m < 10
    · rw [dif_pos hm]
      intro b hb
      obtain rfl := List.mem_singleton.1 hb
      exact hd m hm
    · rw [dif_neg hm]
      intro b hb
      rcases List.mem_append.1 hb with hb | hb
      · exact dig_dec f (m / 10) (by omega) b hb
      · obtain rfl := List.mem_singleton.1 hb
        exact hd _ (Nat.mod_lt _ (by omega))
theorem dig_none {l : List UInt8} (h : digB l) (c : UInt8) (hc : c.toNat < 48) : l.contains c = false := by
  cases hx : l.contains c with
  | false => rfl
  | true =>
    have := h c (List.contains_iff_mem.1 hx)
    omega
theorem dig_any (cs : List UInt8) (hcs : ∀ b : UInt8, 48 ≤ b.toNat → cs.contains b = false) : ∀ l : List UInt8, digB l → Lib.indexAny l cs = -1
  | [], _ => rfl
  | b :: l, h => by
    have hb := (h b List.mem_cons_self).1
    rw [Lib.indexAny, hcs b hb, dig_any cs hcs l (fun x hx => h x (List.mem_cons_of_mem _ hx))]
    rfl
theorem dig_drop (p : UInt8 → Bool) (l : List UInt8) (h : ∀ b ∈ l, p b = false) : l.dropWhile p = l := by
  cases l with
  | nil => rfl
  | cons a r => rw [List.dropWhile_cons_of_neg (by rw [h a List.mem_cons_self]; decide)]
theorem dig_not (cs : List UInt8) (hcs : cs.all (fun c => decide (c.toNat < 48)) = true) (b : UInt8) (hb : 48 ≤ b.toNat) : cs.contains b = false := by
  cases hx : cs.contains b with
  | false => rfl
  | true =>
    have := List.all_eq_true.1 hcs b (List.contains_iff_mem.1 hx)
    have := of_decide_eq_true this
    omega
theorem dig_value (a s : ByteArray) (ha : a.toList ≠ [116, 101]) (h : digB s.data.toList) (hs : s.size ≤ 4294967280) : message_value.f a s = some true := by
  have hc : strings_ContainsAny.f s ⟨#[0, 10, 13]⟩ = some false := by
    unfold strings_ContainsAny.f
    rw [if_pos ⟨List.all_eq_true.2 (fun b hb => decide_eq_true (by have := h b hb; omega)), by kernel_rfl, hs, by decide⟩]
    unfold Lib.containsAny
    rw [dig_any _ (fun b hb => dig_not _ (by decide) b hb) _ h]
    rfl
  have ht : strings_Trim.f s ⟨#[9, 32]⟩ = some s := by
    unfold strings_Trim.f
    rw [if_pos ⟨by kernel_rfl, by omega, by decide⟩]
    unfold Lib.trimS Lib.trimLeftS Lib.trimRightS
    rw [dig_drop _ s.data.toList.reverse (fun b hb => dig_not _ (by decide) b (h b (List.mem_reverse.1 hb)).1), List.reverse_reverse, dig_drop _ _ (fun b hb => dig_not _ (by decide) b (h b hb).1), strL_toList]
  unfold message_value.f
  rw [if_neg ha, hc, Option.bind_some, if_neg Bool.false_ne_true, ht, Option.bind_some]
  simp
def len_field (s : ByteArray) : S45 := ⟨⟨#[99, 111, 110, 116, 101, 110, 116, 45, 108, 101, 110, 103, 116, 104]⟩, s⟩
def len_path : ByteArray := ⟨#[47]⟩
theorem len_te : (⟨#[99, 111, 110, 116, 101, 110, 116, 45, 108, 101, 110, 103, 116, 104]⟩ : ByteArray).toList ≠ [116, 101] := by rw [Lib.toList_data]; decide
theorem len_lead (s : ByteArray) : msg_lead (lv_get len_path ++ [len_field s]) 0 = some (some 3) := by kernel_rfl
theorem len_great (s : ByteArray) (l1 : List Int) (hs : s.size ≤ 100) (hl : l1.length ≤ 10000) : message_great.f (lv_get len_path ++ [len_field s]) l1 [] = some false := by
  have h1 : msg_sum (lv_get len_path ++ [len_field s]) = 7 + 3 + (7 + 5 + (5 + 1 + (14 + s.size + 0))) := by
    simp only [msg_sum, lv_get, len_field, len_path, List.cons_append, List.nil_append, List.map_cons, List.map_nil, List.sum_cons, List.sum_nil]
    rfl
  have h2 : msg_sum ([] : List S45) = 0 := rfl
  have h3 : (lv_get len_path ++ [len_field s]).length = 4 := rfl
  unfold message_great.f
  rw [h1, h2, h3, if_pos ⟨by omega, by simp⟩, decide_eq_false (by simp), decide_eq_false (by omega), decide_eq_false (by omega)]
  rfl
theorem len_wrong (s : ByteArray) (n : Nat) (h : digB s.data.toList) (hs : s.size ≤ 100) : msg_wrong n (len_field s) = some (s.toList != (msg_itoa n).toList) := by
  have hb : msg_bad (len_field s) = some false := by
    unfold msg_bad
    rw [if_pos (by kernel_rfl), show (len_field s).f1 = s from rfl, show (len_field s).f0 = ⟨#[99, 111, 110, 116, 101, 110, 116, 45, 108, 101, 110, 103, 116, 104]⟩ from rfl, dig_value _ s len_te h (by omega)]
    rfl
  unfold msg_wrong
  rw [hb, Option.bind_some, if_neg Bool.false_ne_true, if_pos (by kernel_rfl)]
  rfl
theorem len_req (s : ByteArray) (l1 : List Int) (h : digB s.data.toList) (hs : s.size ≤ 100) (hl : l1.length ≤ 10000) : message_Request.f (lv_get len_path ++ [len_field s]) l1 [] = some (if s.toList = (msg_itoa l1.length).toList then 0 else 14) := by
  have hm : message_marks.f (lv_get len_path ++ [len_field s]) l1 [] = if s.toList = (msg_itoa l1.length).toList then some (lv_get len_path, true) else some ([], false) := by
    unfold message_marks.f
    rw [len_lead, Option.bind_some]
    have ha : anyO (msg_wrong l1.length) [len_field s] = some (s.toList != (msg_itoa l1.length).toList) := by
      show ((msg_wrong l1.length (len_field s)).bind fun b => if b = true then some true else some false) = _
      rw [len_wrong s _ h hs, Option.bind_some]
      cases s.toList != (msg_itoa l1.length).toList <;> rfl
    show ((anyO (msg_wrong l1.length) [len_field s]).bind _) = _
    rw [ha, Option.bind_some]
    by_cases hq : s.toList = (msg_itoa l1.length).toList
    · rw [if_pos hq, hq]
      simp only [bne_self_eq_false, Bool.false_eq_true, if_false, anyO, Option.bind_some]
      rfl
    · rw [if_neg hq]
      have : (s.toList != (msg_itoa l1.length).toList) = true := by simpa using hq
      rw [this, if_pos rfl]
  unfold message_Request.f
  rw [len_great s l1 hs hl, Option.bind_some, if_neg Bool.false_ne_true, hm]
  by_cases hq : s.toList = (msg_itoa l1.length).toList
  · rw [if_pos hq, if_pos hq]
    rw [Option.bind_some]
    refine (if_pos ⟨by kernel_rfl, by decide⟩).trans ?_
    kernel_rfl
  · rw [if_neg hq, if_neg hq]
    rw [Option.bind_some]
    refine (if_pos ⟨rfl, by decide⟩).trans ?_
    kernel_rfl
end Go.Proofs.YtcgbpallpnaclaaDoor.T
