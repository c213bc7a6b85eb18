/- A part of the walk of the laws of layer 22 (message): contracts of functions of the program, each walked once. -/
import Derived.Test.YtcgbpallpnaclaaDoorYQ3
import Derived.Lib.AtoiAllCases
import Derived.Lib.ItoaLen
import Derived.RangeFuncNested
import Derived.RangeFuncBound
import Derived.RangeFuncCalls
import Derived.RangeFuncLeaves
import Derived.RangeFuncBox
import Derived.OwnWalkIn
import Derived.TacticsInMore
import Derived.LoopNIn
import Derived.LoopIn
import Derived.Deep.DeepMust
import Derived.LoopN
import Derived.Laws.BitsAllLaws
import Derived.Maps.OwnIn
import Derived.Maps.Own
import Derived.Maps.OwnSet
import Derived.Maps.OwnOps
import Derived.Shelf.Abstract
import Derived.Sort.CutIn
import Derived.Shelf.RegionOpen
import Derived.StillTailTactics
import Derived.Outline
import Derived.Deep.RegionHeld3
import Derived.Laws.StructEq
import Derived.Laws.RangeAny
import Derived.Laws.EntriesVeiled
import Derived.WalkSpells
import Derived.Lib.SlBytesConst
import Derived.Deep.RegionLaw
import Derived.Deep.RegionWith
import Derived.ArgAppend
import Derived.Shelf.Strings.SlTrimAscii
import Derived.Shelf.Strings.IndexAnyAll
import Derived.Test.YtcgbpallpnaclaaDoorSh
import Derived.Test.YtcgbpallpnaclaaDoorWEqStruct
namespace Go.Proofs.YtcgbpallpnaclaaDoor.T
open Go.RowKit Go.Proofs.YtcgbpallpnaclaaDoorW.PrintWords Go.Proofs.YtcgbpallpnaclaaDoorW.PrintLast Go.Proofs.YtcgbpallpnaclaaDoorW.PrintMore
open Go.Proofs.YtcgbpallpnaclaaDoor.PMH
set_option linter.unusedVariables false
set_option linter.unusedSimpArgs false
/-! ### strconv.Atoi of strconv.Itoa -/
theorem ma_parse : ∀ (n u : Nat), u ≤ n → u < 18446744073709551616 → ∀ t, Lib.parseUint10 0 (Lib.decDigits u ++ t) = Lib.parseUint10 u t := by
  intro n
  induction n with
  | zero =>
    intro u hu _ t
    obtain rfl : u = 0 := by omega
    rw [Lib.decDigits, dif_pos (by omega)]
    rfl
  | succ n ih =>
    intro u hu hb t
    rw [Lib.decDigits]
    by_cases h : u < 10
    · rw [dif_pos h, List.singleton_append, Lib.parseUint10]
      have e : (UInt8.ofNat (48 + u)).toNat = 48 + u := by simp; omega
      rw [e, if_pos (by omega), if_neg (by omega), if_neg (by omega)]
      congr 1
      omega
    · rw [dif_neg h, List.append_assoc, ih (u / 10) (by omega) (by omega), List.singleton_append, Lib.parseUint10]
      have e : (UInt8.ofNat (48 + u % 10)).toNat = 48 + u % 10 := by simp; omega
      rw [e, if_pos (by omega), if_neg (by omega), if_neg (by omega)]
      congr 1
      omega
theorem ma_head : ∀ (n u : Nat), u ≤ n → ∃ c r, Lib.decDigits u = c :: r ∧ 48 ≤ c.toNat := by
  intro n
  induction n with
  | zero =>
    intro u hu
    obtain rfl : u = 0 := by omega
    rw [Lib.decDigits, dif_pos (by omega)]
    exact ⟨_, _, rfl, by decide⟩
  | succ n ih =>
    intro u hu
    rw [Lib.decDigits]
    by_cases h : u < 10
    · rw [dif_pos h]
      exact ⟨_, _, rfl, by simp; omega⟩
    · rw [dif_neg h]
      obtain ⟨c, r, e, hc⟩ := ih (u / 10) (by omega)
      rw [e]
      exact ⟨c, _, rfl, hc⟩
theorem ma_mag (u : Nat) (h : u < 18446744073709551616) : Lib.parseMag (Lib.decDigits u) = .ok u := by
  obtain ⟨c, r, e, _⟩ := ma_head u u (Nat.le_refl _)
  have h1 := ma_parse u u (Nat.le_refl _) h []
  rw [List.append_nil] at h1
  unfold Lib.parseMag
  rw [if_neg (by rw [e]; simp), h1]
  rfl
theorem ma_atoi (n : Int) (h0 : -9223372036854775808 ≤ n) (h1 : n ≤ 9223372036854775807) : Lib.atoiAll (Lib.itoa n) = .ok n := by
  unfold Lib.itoa
  by_cases h : n < 0
  · rw [if_pos h, Lib.atoiAll]
    have hm := ma_mag n.natAbs (by omega)
    have e : (45 : UInt8).toNat = 45 := rfl
    simp only [e]
    simp only [Nat.reduceEqDiff, or_true, if_true, hm, not_true_eq_false, false_and, if_false, true_and]
    rw [if_neg (by omega)]
    congr 1
    omega
  · rw [if_neg h]
    obtain ⟨c, r, e, hc⟩ := ma_head n.toNat n.toNat (Nat.le_refl _)
    have hm := ma_mag n.toNat (by omega)
    rw [e] at hm ⊢
    rw [Lib.atoiAll]
    have e1 : ¬ c.toNat = 45 := by omega
    have e2 : ¬ c.toNat = 43 := by omega
    simp only [e1, e2, or_self, if_false, hm, not_false_eq_true, true_and, false_and]
    rw [if_neg (by omega)]
    congr 1
    omega
/-! ### the functions of message answer at every request of texts that a machine can hold: plain Lean -/
def okF (l : List S45) : Prop := ∀ x ∈ l, x.f0.size ≤ 140737488351232 ∧ x.f1.size ≤ 4294967280
theorem tt_contains (s : ByteArray) (h : s.size ≤ 4294967280) : ∃ b, strings_ContainsAny.f s ⟨#[0, 10, 13]⟩ = some b := by
  unfold strings_ContainsAny.f
  rw [if_pos ⟨by decide, by kernel_rfl, h, by decide⟩]
  exact ⟨_, rfl⟩
theorem tt_trim (s : ByteArray) (h : s.size ≤ 4294967280) : ∃ b, strings_Trim.f s ⟨#[9, 32]⟩ = some b := by
  unfold strings_Trim.f
  rw [if_pos ⟨by kernel_rfl, by omega, by decide⟩]
  exact ⟨_, rfl⟩
theorem tt_value (a s : ByteArray) (h : s.size ≤ 4294967280) : ∃ b, message_value.f a s = some b := by
  obtain ⟨c, hc⟩ := tt_contains s h
  obtain ⟨t, ht⟩ := tt_trim s h
  unfold message_value.f
  rw [hc, ht]
  simp only [Option.bind_some]
  cases c <;> (repeat' split) <;> exact ⟨_, rfl⟩
theorem tt_bad (x : S45) (h : x.f1.size ≤ 4294967280) : ∃ b, msg_bad x = some b := by
  obtain ⟨v, hv⟩ := tt_value x.f0 x.f1 h
  unfold msg_bad
  rw [hv]
  split
  · exact ⟨_, rfl⟩
  · exact ⟨_, rfl⟩
theorem tt_wrong (n : Nat) (x : S45) (h : x.f1.size ≤ 4294967280) : ∃ b, msg_wrong n x = some b := by
  obtain ⟨v, hv⟩ := tt_bad x h
  unfold msg_wrong
  rw [hv, Option.bind_some]
  cases v
  · rw [if_neg Bool.false_ne_true]
    split <;> exact ⟨_, rfl⟩
  · exact ⟨_, rfl⟩
theorem tt_any {p : S45 → Option Bool} : ∀ l : List S45, (∀ x ∈ l, ∃ b, p x = some b) → ∃ b, anyO p l = some b
  | [], _ => ⟨_, rfl⟩
  | x :: r, h => by
    obtain ⟨b, hb⟩ := h x List.mem_cons_self
    obtain ⟨c, hc⟩ := tt_any r (fun y hy => h y (List.mem_cons_of_mem _ hy))
    rw [anyO, hb, Option.bind_some]
    cases b
    · rw [if_neg Bool.false_ne_true]; exact ⟨c, hc⟩
    · exact ⟨_, rfl⟩
theorem tt_lead : ∀ (l : List S45) (n : Nat), okF l → ∃ t, msg_lead l n = some t
  | [], n, _ => ⟨_, rfl⟩
  | x :: r, n, h => by
    rw [msg_lead]
    split
    · obtain ⟨b, hb⟩ := tt_value ⟨#[]⟩ x.f1 (h x List.mem_cons_self).2
      rw [hb, Option.bind_some]
      cases b
      · exact ⟨_, rfl⟩
      · exact tt_lead r (n + 1) (fun y hy => h y (List.mem_cons_of_mem _ hy))
    · exact ⟨_, rfl⟩
theorem tt_marks (l0 : List S45) (l1 : List Int) (l2 : List S45) (h0 : okF l0) (h2 : okF l2) : ∃ r, message_marks.f l0 l1 l2 = some r ∧ ∃ n, r.1 = l0.take n := by
  obtain ⟨t, ht⟩ := tt_lead l0 0 h0
  unfold message_marks.f
  rw [ht, Option.bind_some]
  cases t with
  | none => exact ⟨_, rfl, 0, rfl⟩
  | some n =>
    obtain ⟨a, ha⟩ := tt_any (p := msg_wrong l1.length) (l0.drop n) (fun x hx => tt_wrong _ x (h0 x (List.mem_of_mem_drop hx)).2)
    obtain ⟨b, hb⟩ := tt_any (p := msg_bad) l2 (fun x hx => tt_bad x (h2 x hx).2)
    obtain ⟨c, hc⟩ := tt_any (p := fun x => some (msg_longP x)) l2 (fun x hx => ⟨_, rfl⟩)
    dsimp only
    rw [ha, hb, hc]
    simp only [Option.bind_some]
    cases a <;> cases b <;> cases c <;> first | exact ⟨_, rfl, 0, rfl⟩ | exact ⟨_, rfl, n, rfl⟩
theorem tt_great (l0 : List S45) (l1 : List Int) (l2 : List S45) (h : msg_sum l0 + msg_sum l2 ≤ 4611686018427387904) (hl : l0.length + l2.length ≤ 4611686018427387904) : ∃ b, message_great.f l0 l1 l2 = some b := by
  unfold message_great.f
  rw [if_pos ⟨h, hl⟩]
  exact ⟨_, rfl⟩
theorem tt_small {l : List S45} (h : msg_sum l ≤ 60000) : ∀ x ∈ l, x.f0.size ≤ 60000 ∧ x.f1.size ≤ 60000 := by
  induction l with
  | nil => intro x hx; cases hx
  | cons y r ih =>
    intro x hx
    have e : msg_sum (y :: r) = y.f0.size + y.f1.size + msg_sum r := by simp [msg_sum]
    rcases List.mem_cons.1 hx with rfl | hx
    · omega
    · exact ih (by omega) x hx
theorem tt_okF {l : List S45} (h : msg_sum l ≤ 60000) : okF l := fun x hx => by have := tt_small h x hx; omega
theorem tt_req (l0 : List S45) (l1 : List Int) (l2 : List S45) (h0 : msg_sum l0 ≤ 60000) (h2 : msg_sum l2 ≤ 60000) (n0 : l0.length ≤ 60000) (n2 : l2.length ≤ 60000) : ∃ e, message_Request.f l0 l1 l2 = some e := by
  obtain ⟨g, hg⟩ := tt_great l0 l1 l2 (by omega) (by omega)
  obtain ⟨p, hp, n, hn⟩ := tt_marks l0 l1 l2 (tt_okF h0) (tt_okF h2)
  unfold message_Request.f
  rw [hg, hp, Option.bind_some, Option.bind_some]
  cases g
  · rw [if_neg Bool.false_ne_true]
    have hc : p.1.all (fun x => decide (x.f0.size ≤ 4294967280)) = true ∧ p.1.length ≤ 1000000 := by
      rw [hn]
      refine ⟨List.all_eq_true.2 (fun x hx => decide_eq_true (by have := tt_small h0 x (List.mem_of_mem_take hx); omega)), ?_⟩
      rw [List.length_take]
      omega
    rw [if_pos hc]
    exact ⟨_, rfl⟩
  · exact ⟨_, rfl⟩
theorem tt_itoa (n : Int) (h0 : -9223372036854775808 ≤ n) (h1 : n ≤ 9223372036854775807) : (msg_itoa n).size ≤ 24 := by
  have h := Lib.itoa_length_le n h0 h1
  show (Lib.itoa n).toArray.size ≤ 24
  rw [List.size_toArray]
  omega
theorem tt_status (n : Int) (h0 : -9223372036854775808 ≤ n) (h1 : n ≤ 9223372036854775807) : ∃ p, resp_tail (ans_status n) = some p := by
  unfold resp_tail
  have hs := tt_itoa n h0 h1
  rw [if_pos (show (ans_status n).f1.size ≤ 4294967280 from by show (msg_itoa n).size ≤ _; omega)]
  rw [show Lib.atoiAll (ans_status n).f1.data.toList = .ok n from ma_atoi n h0 h1]
  exact ⟨_, rfl⟩
theorem tt_resp (n : Int) (l0 : List S45) (Y : List Int) (h0 : -9223372036854775808 ≤ n) (h1 : n ≤ 9223372036854775807) (hs : msg_sum l0 ≤ 55000) (hl : l0.length ≤ 55000) : ∃ p, message_Response.f (ans_status n :: l0) Y [] = some p := by
  have hi := tt_itoa n h0 h1
  have e : msg_sum (ans_status n :: l0) = 7 + (msg_itoa n).size + msg_sum l0 := by simp [msg_sum, ans_status]; rfl
  obtain ⟨g, hg⟩ := tt_great (ans_status n :: l0) Y [] (by rw [e, show msg_sum ([] : List S45) = 0 from rfl]; omega) (by simp; omega)
  obtain ⟨p, hp, k, hk⟩ := tt_marks (ans_status n :: l0) Y [] (tt_okF (by omega)) (fun x hx => by cases hx)
  unfold message_Response.f
  rw [hg, hp, Option.bind_some, Option.bind_some]
  cases g
  · rw [if_neg Bool.false_ne_true]
    split
    · rw [hk]
      by_cases hlen : ((ans_status n :: l0).take k).length = 1
      · obtain ⟨x, hx⟩ : ∃ x, (ans_status n :: l0).take k = [x] := by
          match h : (ans_status n :: l0).take k, hlen with
          | [x], _ => exact ⟨x, rfl⟩
        have hxx : x = ans_status n := by
          cases k with
          | zero => rw [List.take_zero] at hx; cases hx
          | succ k => rw [List.take_succ_cons] at hx; exact ((List.cons.inj hx).1).symm
        rw [hx, hxx, resp_marks]
        split
        · exact ⟨_, rfl⟩
        · exact tt_status n h0 h1
      · exact ⟨_, resp_more hlen⟩
    · exact ⟨_, rfl⟩
  · exact ⟨_, rfl⟩
end Go.Proofs.YtcgbpallpnaclaaDoor.T
