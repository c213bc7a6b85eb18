/- A part of the walk of the laws of layer 22 (message): contracts of functions of the program, each walked once. -/
import Derived.Test.YtcgbpallpnaclaaGreatDoorUL
import Derived.Test.YtcgbpallpnaclaaGreatDoorPMWx3
import Derived.Test.YtcgbpallpnaclaaGreatDoorPMWx16
import Derived.Test.YtcgbpallpnaclaaGreatDoorPMWx18
import Derived.RangeFuncNested
import Derived.RangeFuncBound
import Derived.RangeFuncCalls
import Derived.RangeFuncLeaves
import Derived.RangeFuncBox
import Derived.OwnWalkIn
import Derived.TacticsInMore
import Derived.LoopNIn
import Derived.LoopIn
import Derived.Deep.DeepMust
import Derived.LoopN
import Derived.Laws.BitsAllLaws
import Derived.Maps.OwnIn
import Derived.Maps.Own
import Derived.Maps.OwnSet
import Derived.Maps.OwnOps
import Derived.Shelf.Abstract
import Derived.Sort.CutIn
import Derived.Shelf.RegionOpen
import Derived.StillTailTactics
import Derived.Outline
import Derived.Deep.RegionHeld3
import Derived.Laws.StructEq
import Derived.Laws.RangeAny
import Derived.Laws.EntriesVeiled
import Derived.WalkSpells
import Derived.Lib.SlBytesConst
import Derived.Deep.RegionLaw
import Derived.Deep.RegionWith
import Derived.ArgAppend
import Derived.Shelf.Strings.SlTrimAscii
import Derived.Shelf.Strings.IndexAnyAll
import Derived.Test.YtcgbpallpnaclaaGreatDoorSh
import Derived.Test.YtcgbpallpnaclaaGreatDoorWEqStruct
namespace Go.Proofs.YtcgbpallpnaclaaGreatDoor.T
open Go.RowKit Go.Proofs.YtcgbpallpnaclaaGreatDoorW.PrintWords Go.Proofs.YtcgbpallpnaclaaGreatDoorW.PrintLast Go.Proofs.YtcgbpallpnaclaaGreatDoorW.PrintMore
open Go.Proofs.YtcgbpallpnaclaaGreatDoor.PMW
set_option linter.unusedVariables false
set_option linter.unusedSimpArgs false
/-! ### sizes, and likeness, of messages and rules: plain Lean -/
theorem w64 (n : Int) (h0 : -9223372036854775808 ≤ n) (h1 : n ≤ 9223372036854775807) : wrap64 n = n := by unfold wrap64; omega
def strF (l : List S62) : Prop := ∀ x ∈ l, x.f0.size ≤ 140737488355328 ∧ x.f1.size ≤ 140737488355328
theorem sz_sum (l : List S62) (i : Nat) (h : i < l.length) : msg_sum (l.drop i) = (rd_T62 l (i : Int)).f0.size + (rd_T62 l (i : Int)).f1.size + msg_sum (l.drop (i + 1)) := by
  conv => lhs; rw [msg_rd_drop l i h]
  simp [msg_sum]
theorem sz_at {α : Type} {p : α → Prop} {l : List α} {z : α} (hs : ∀ x ∈ l, p x) (i : Nat) (h : i < l.length) : p (l.getD i z) := by
  rw [List.getD_eq_getElem?_getD, List.getElem?_eq_getElem h]
  exact hs _ (List.getElem_mem h)
theorem sz_go (l : List S62) (hs : strF l) (hl : l.length ≤ 140737488355328) : ∀ (d k i : Nat) (x : Int), i + d = l.length → d < k → 0 ≤ x → x ≤ 1125899906842624 →
    ∃ r, mailcoachlaw01_FieldsSize.l0 k l x (i : Int) = some r ∧ 0 ≤ r ∧ r ≤ 1125899906842624 ∧ (r ≤ 1048576 → r = x + (msg_sum (l.drop i) : Nat)) := by
  intro d
  induction d with
  | zero =>
    intro k i x hi hk h0 h1
    obtain ⟨k, rfl⟩ : ∃ k', k = k' + 1 := ⟨k - 1, by omega⟩
    rw [mailcoachlaw01_FieldsSize.l0, if_neg (by omega)]
    refine ⟨x, rfl, h0, h1, fun _ => ?_⟩
    rw [List.drop_eq_nil_of_le (by omega)]
    simp [msg_sum]
  | succ d ih =>
    intro k i x hi hk h0 h1
    obtain ⟨k, rfl⟩ : ∃ k', k = k' + 1 := ⟨k - 1, by omega⟩
    rw [mailcoachlaw01_FieldsSize.l0, if_pos (by omega)]
    by_cases hx : x ≤ 1048576
    · rw [if_pos hx, if_pos (by omega)]
      have hb : (rd_T62 l (i : Int)).f0.size ≤ 140737488355328 ∧ (rd_T62 l (i : Int)).f1.size ≤ 140737488355328 := sz_at (p := fun x : S62 => x.f0.size ≤ 140737488355328 ∧ x.f1.size ≤ 140737488355328) hs i (by omega)
      rw [w64 (x + _) (by omega) (by omega), w64 (_ + _) (by omega) (by omega), w64 ((i : Int) + 1) (by omega) (by omega)]
      obtain ⟨r, hr, r0, r1, hr2⟩ := ih k (i + 1) (x + ((rd_T62 l (i : Int)).f0.size : Int) + ((rd_T62 l (i : Int)).f1.size : Int)) (by omega) (by omega) (by omega) (by omega)
      rw [Int.natCast_add] at hr
      refine ⟨r, hr, r0, r1, fun h => ?_⟩
      rw [hr2 h, sz_sum l i (by omega)]
      push_cast
      omega
    · rw [if_neg hx]
      exact ⟨x, rfl, h0, h1, fun h => absurd h hx⟩
theorem sz_fields (l : List S62) (k : Nat) (hs : strF l) (hl : l.length ≤ 140737488355328) (hk : l.length < k) :
    ∃ r, mailcoachlaw01_FieldsSize.f k l = some r ∧ 0 ≤ r ∧ r ≤ 1125899906842624 ∧ (r ≤ 1048576 → r = l.length + (msg_sum l : Nat)) := by
  have h := sz_go l hs hl l.length k 0 (l.length : Int) (by omega) hk (by omega) (by omega)
  rw [List.drop_zero] at h
  exact h
theorem sz_message (l0 : List S62) (l1 : List Int) (l2 : List S62) (k : Nat) (s0 : strF l0) (s2 : strF l2) (n0 : l0.length ≤ 140737488355328) (n1 : l1.length ≤ 140737488355328) (n2 : l2.length ≤ 140737488355328) (hk0 : l0.length < k) (hk2 : l2.length + 1 < k) :
    ∃ r, mailcoachlaw01_MessageSize.f k l0 l1 l2 = some r ∧ (r ≤ 1048576 → (l0.length : Int) + (msg_sum l0 : Nat) + l1.length + l2.length + (msg_sum l2 : Nat) ≤ r) := by
  obtain ⟨a, ha, a0, a1, a2⟩ := sz_fields l0 k s0 n0 hk0
  obtain ⟨k, rfl⟩ : ∃ k', k = k' + 1 := ⟨k - 1, by omega⟩
  obtain ⟨b, hb, b0, b1, b2⟩ := sz_fields l2 k s2 n2 (by omega)
  unfold mailcoachlaw01_MessageSize.f
  rw [if_pos (by decide), ha, Option.bind_some, w64 (1 + a) (by omega) (by omega), mailcoachlaw01_MessageSize.j0]
  by_cases h1 : 1 + a ≤ 1048576
  · rw [if_pos h1]
    unfold mailcoachlaw01_BytesSize.f
    rw [Option.bind_some, w64 (1 + a + _) (by omega) (by omega)]
    by_cases h2 : 1 + a + (l1.length : Int) ≤ 1048576
    · rw [if_pos h2, hb, Option.bind_some, w64 _ (by omega) (by omega)]
      refine ⟨_, rfl, fun h => ?_⟩
      have e1 := a2 (by omega)
      have e2 := b2 (by omega)
      omega
    · rw [if_neg h2]
      exact ⟨_, rfl, fun h => absurd h h2⟩
  · rw [if_neg h1]
    exact ⟨_, rfl, fun h => absurd h h1⟩
def strR (x : S64) : Prop := x.f0.size ≤ 140737488355328 ∧ x.f1.size ≤ 140737488355328 ∧ strF x.f3 ∧ x.f3.length ≤ 140737488355328 ∧ x.f4.length ≤ 140737488355328
end Go.Proofs.YtcgbpallpnaclaaGreatDoor.T
