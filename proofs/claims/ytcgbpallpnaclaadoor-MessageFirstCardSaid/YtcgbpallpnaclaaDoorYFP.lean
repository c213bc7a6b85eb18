/- A part of the walk of the laws of layer 22 (message): contracts of functions of the program, each walked once. -/
import Derived.Test.YtcgbpallpnaclaaDoorYTT
import Derived.Test.YtcgbpallpnaclaaDoorPMHx7
import Derived.Test.YtcgbpallpnaclaaDoorPMHx9
import Derived.RangeFuncNested
import Derived.RangeFuncBound
import Derived.RangeFuncCalls
import Derived.RangeFuncLeaves
import Derived.RangeFuncBox
import Derived.OwnWalkIn
import Derived.TacticsInMore
import Derived.LoopNIn
import Derived.LoopIn
import Derived.Deep.DeepMust
import Derived.LoopN
import Derived.Laws.BitsAllLaws
import Derived.Maps.OwnIn
import Derived.Maps.Own
import Derived.Maps.OwnSet
import Derived.Maps.OwnOps
import Derived.Shelf.Abstract
import Derived.Sort.CutIn
import Derived.Shelf.RegionOpen
import Derived.StillTailTactics
import Derived.Outline
import Derived.Deep.RegionHeld3
import Derived.Laws.StructEq
import Derived.Laws.RangeAny
import Derived.Laws.EntriesVeiled
import Derived.WalkSpells
import Derived.Lib.SlBytesConst
import Derived.Deep.RegionLaw
import Derived.Deep.RegionWith
import Derived.ArgAppend
import Derived.Shelf.Strings.SlTrimAscii
import Derived.Shelf.Strings.IndexAnyAll
import Derived.Test.YtcgbpallpnaclaaDoorSh
import Derived.Test.YtcgbpallpnaclaaDoorWEqStruct
namespace Go.Proofs.YtcgbpallpnaclaaDoor.T
open Go.RowKit Go.Proofs.YtcgbpallpnaclaaDoorW.PrintWords Go.Proofs.YtcgbpallpnaclaaDoorW.PrintLast Go.Proofs.YtcgbpallpnaclaaDoorW.PrintMore
open Go.Proofs.YtcgbpallpnaclaaDoor.PMH
set_option linter.unusedVariables false
set_option linter.unusedSimpArgs false
/-! ### sizes, and likeness, of messages and rules: plain Lean -/
theorem w64 (n : Int) (h0 : -9223372036854775808 ≤ n) (h1 : n ≤ 9223372036854775807) : wrap64 n = n := by unfold wrap64; omega
def strF (l : List S45) : Prop := ∀ x ∈ l, x.f0.size ≤ 140737488355328 ∧ x.f1.size ≤ 140737488355328
theorem sz_sum (l : List S45) (i : Nat) (h : i < l.length) : msg_sum (l.drop i) = (rd_T45 l (i : Int)).f0.size + (rd_T45 l (i : Int)).f1.size + msg_sum (l.drop (i + 1)) := by
  conv => lhs; rw [msg_rd_drop l i h]
  simp [msg_sum]
theorem sz_at {α : Type} {p : α → Prop} {l : List α} {z : α} (hs : ∀ x ∈ l, p x) (i : Nat) (h : i < l.length) : p (l.getD i z) := by
  rw [List.getD_eq_getElem?_getD, List.getElem?_eq_getElem h]
  exact hs _ (List.getElem_mem h)
theorem sz_go (l : List S45) (hs : strF l) (hl : l.length ≤ 140737488355328) : ∀ (d k i : Nat) (x : Int), i + d = l.length → d < k → 0 ≤ x → x ≤ 1125899906842624 →
    ∃ r, mailcoachlaw01_FieldsSize.l0 k l x (i : Int) = some r ∧ 0 ≤ r ∧ r ≤ 1125899906842624 ∧ (r ≤ 1048576 → r = x + (msg_sum (l.drop i) : Nat)) := by
  intro d
  induction d with
  | zero =>
    intro k i x hi hk h0 h1
    obtain ⟨k, rfl⟩ : ∃ k', k = k' + 1 := ⟨k - 1, by omega⟩
    rw [mailcoachlaw01_FieldsSize.l0, if_neg (by omega)]
    refine ⟨x, rfl, h0, h1, fun _ => ?_⟩
    rw [List.drop_eq_nil_of_le (by omega)]
    simp [msg_sum]
  | succ d ih =>
    intro k i x hi hk h0 h1
    obtain ⟨k, rfl⟩ : ∃ k', k = k' + 1 := ⟨k - 1, by omega⟩
    rw [mailcoachlaw01_FieldsSize.l0, if_pos (by omega)]
    by_cases hx : x ≤ 1048576
    · rw [if_pos hx, if_pos (by omega)]
      have hb : (rd_T45 l (i : Int)).f0.size ≤ 140737488355328 ∧ (rd_T45 l (i : Int)).f1.size ≤ 140737488355328 := sz_at (p := fun x : S45 => x.f0.size ≤ 140737488355328 ∧ x.f1.size ≤ 140737488355328) hs i (by omega)
      rw [w64 (x + _) (by omega) (by omega), w64 (_ + _) (by omega) (by omega), w64 ((i : Int) + 1) (by omega) (by omega)]
      obtain ⟨r, hr, r0, r1, hr2⟩ := ih k (i + 1) (x + ((rd_T45 l (i : Int)).f0.size : Int) + ((rd_T45 l (i : Int)).f1.size : Int)) (by omega) (by omega) (by omega) (by omega)
      rw [Int.natCast_add] at hr
      refine ⟨r, hr, r0, r1, fun h => ?_⟩
      rw [hr2 h, sz_sum l i (by omega)]
      push_cast
      omega
    · rw [if_neg hx]
      exact ⟨x, rfl, h0, h1, fun h => absurd h hx⟩
theorem sz_fields (l : List S45) (k : Nat) (hs : strF l) (hl : l.length ≤ 140737488355328) (hk : l.length < k) :
    ∃ r, mailcoachlaw01_FieldsSize.f k l = some r ∧ 0 ≤ r ∧ r ≤ 1125899906842624 ∧ (r ≤ 1048576 → r = l.length + (msg_sum l : Nat)) := by
  have h := sz_go l hs hl l.length k 0 (l.length : Int) (by omega) hk (by omega) (by omega)
  rw [List.drop_zero] at h
  exact h
theorem sz_message (l0 : List S45) (l1 : List Int) (l2 : List S45) (k : Nat) (s0 : strF l0) (s2 : strF l2) (n0 : l0.length ≤ 140737488355328) (n1 : l1.length ≤ 140737488355328) (n2 : l2.length ≤ 140737488355328) (hk0 : l0.length < k) (hk2 : l2.length + 1 < k) :
    ∃ r, mailcoachlaw01_MessageSize.f k l0 l1 l2 = some r ∧ (r ≤ 1048576 → (l0.length : Int) + (msg_sum l0 : Nat) + l1.length + l2.length + (msg_sum l2 : Nat) ≤ r) := by
  obtain ⟨a, ha, a0, a1, a2⟩ := sz_fields l0 k s0 n0 hk0
  obtain ⟨k, rfl⟩ : ∃ k', k = k' + 1 := ⟨k - 1, by omega⟩
  obtain ⟨b, hb, b0, b1, b2⟩ := sz_fields l2 k s2 n2 (by omega)
  unfold mailcoachlaw01_MessageSize.f
  rw [if_pos (by decide), ha, Option.bind_some, w64 (1 + a) (by omega) (by omega), mailcoachlaw01_MessageSize.j0]
  by_cases h1 : 1 + a ≤ 1048576
  · rw [if_pos h1]
    unfold mailcoachlaw01_BytesSize.f
    rw [Option.bind_some, w64 (1 + a + _) (by omega) (by omega)]
    by_cases h2 : 1 + a + (l1.length : Int) ≤ 1048576
    · rw [if_pos h2, hb, Option.bind_some, w64 _ (by omega) (by omega)]
      refine ⟨_, rfl, fun h => ?_⟩
      have e1 := a2 (by omega)
      have e2 := b2 (by omega)
      omega
    · rw [if_neg h2]
      exact ⟨_, rfl, fun h => absurd h h2⟩
  · rw [if_neg h1]
    exact ⟨_, rfl, fun h => absurd h h1⟩
def strR (x : S40) : Prop := x.f0.size ≤ 140737488355328 ∧ x.f1.size ≤ 140737488355328 ∧ strF x.f3 ∧ x.f3.length ≤ 140737488355328 ∧ x.f4.length ≤ 140737488355328
theorem sz_rule (x : S40) (k : Nat) (hs : strR x) (hk : x.f3.length < k) :
    ∃ r, mailcoachlaw01_RuleSize.f k x.f0 x.f1 x.f2 x.f3 x.f4 x.f5 = some r ∧ 0 ≤ r ∧ r ≤ 2251799813685248 ∧ (r ≤ 1048576 → (x.f3.length : Int) + (msg_sum x.f3 : Nat) + x.f4.length ≤ r) := by
  obtain ⟨s0, s1, s3, n3, n4⟩ := hs
  obtain ⟨a, ha, a0, a1, a2⟩ := sz_fields x.f3 k s3 n3 hk
  unfold mailcoachlaw01_RuleSize.f mailcoachlaw01_BytesSize.f
  rw [w64 (1 + _) (by omega) (by omega), w64 (1 + _ + _) (by omega) (by omega), ha]
  simp only [Option.bind_some]
  rw [w64 (1 + _ + _ + a) (by omega) (by omega), w64 (1 + _ + _ + a + _) (by omega) (by omega)]
  by_cases h1 : 1 + (x.f0.size : Int) + (x.f1.size : Int) ≤ 1048576
  · rw [if_pos h1]
    by_cases h2 : 1 + (x.f0.size : Int) + (x.f1.size : Int) + a ≤ 1048576
    · rw [if_pos h2]
      refine ⟨_, rfl, by omega, by omega, fun h => ?_⟩
      have e1 := a2 (by omega)
      omega
    · rw [if_neg h2]
      exact ⟨_, rfl, by omega, by omega, fun h => absurd h h2⟩
  · rw [if_neg h1]
    exact ⟨_, rfl, by omega, by omega, fun h => absurd h h1⟩
theorem sz_rules_go (l : List S40) (K : Nat) (hs : ∀ x ∈ l, strR x ∧ x.f3.length < K) (hl : l.length ≤ 140737488355328) : ∀ (d k i : Nat) (x : Int), i + d = l.length → d + K < k → 0 ≤ x → x ≤ 4503599627370496 →
    ∃ r, mailcoachlaw01_RulesSize.l0 k l x (i : Int) = some r ∧ x ≤ r ∧ (r ≤ 1048576 → ∀ y ∈ l.drop i, (y.f3.length : Int) + (msg_sum y.f3 : Nat) + y.f4.length ≤ r) := by
  intro d
  induction d with
  | zero =>
    intro k i x hi hk h0 h1
    obtain ⟨k, rfl⟩ : ∃ k', k = k' + 1 := ⟨k - 1, by omega⟩
    rw [mailcoachlaw01_RulesSize.l0, if_neg (by omega)]
    refine ⟨x, rfl, Int.le_refl _, fun _ y hy => ?_⟩
    rw [List.drop_eq_nil_of_le (by omega)] at hy
    cases hy
  | succ d ih =>
    intro k i x hi hk h0 h1
    obtain ⟨k, rfl⟩ : ∃ k', k = k' + 1 := ⟨k - 1, by omega⟩
    rw [mailcoachlaw01_RulesSize.l0, if_pos (by omega)]
    by_cases hx : x ≤ 1048576
    · rw [if_pos hx, if_pos (by omega)]
      have hb : strR (rd_T40 l (i : Int)) ∧ (rd_T40 l (i : Int)).f3.length < K := sz_at (p := fun x : S40 => strR x ∧ x.f3.length < K) hs i (by omega)
      obtain ⟨t, ht, t0, t1, t2⟩ := sz_rule _ k hb.1 (by omega)
      rw [ht, Option.bind_some, w64 (x + t) (by omega) (by omega), w64 ((i : Int) + 1) (by omega) (by omega)]
      obtain ⟨r, hr, r0, hr2⟩ := ih k (i + 1) (x + t) (by omega) (by omega) (by omega) (by omega)
      rw [Int.natCast_add] at hr
      refine ⟨r, hr, by omega, fun h y hy => ?_⟩
      rw [rule_rd_drop l i (by omega)] at hy
      rcases List.mem_cons.1 hy with rfl | hy
      · have := t2 (by omega)
        omega
      · exact hr2 h y hy
    · rw [if_neg hx]
      exact ⟨x, rfl, Int.le_refl _, fun h => absurd h hx⟩
theorem sz_rules (l : List S40) (K k : Nat) (hs : ∀ x ∈ l, strR x ∧ x.f3.length < K) (hl : l.length ≤ 140737488355328) (hk : l.length + K < k) :
    ∃ r, mailcoachlaw01_RulesSize.f k l = some r ∧ (r ≤ 1048576 → ∀ y ∈ l, (y.f3.length : Int) + (msg_sum y.f3 : Nat) + y.f4.length ≤ r) := by
  obtain ⟨r, hr, _, h⟩ := sz_rules_go l K hs hl l.length k 0 (l.length : Int) (by omega) hk (by omega) (by omega)
  exact ⟨r, hr, fun h2 y hy => h h2 y (by simpa using hy)⟩
theorem sm_fields_go (l : List S45) (hl : l.length ≤ 140737488355328) : ∀ (d k i : Nat), i + d = l.length → d < k → mailcoachlaw01_SameFields.l0 k l l (i : Int) = some true := by
  intro d
  induction d with
  | zero =>
    intro k i hi hk
    obtain ⟨k, rfl⟩ : ∃ k', k = k' + 1 := ⟨k - 1, by omega⟩
    rw [mailcoachlaw01_SameFields.l0, if_neg (by omega)]
  | succ d ih =>
    intro k i hi hk
    obtain ⟨k, rfl⟩ : ∃ k', k = k' + 1 := ⟨k - 1, by omega⟩
    rw [mailcoachlaw01_SameFields.l0, if_pos (by omega), if_pos (by omega), if_pos (by omega), if_neg (by simp), w64 ((i : Int) + 1) (by omega) (by omega)]
    have := ih k (i + 1) (by omega) (by omega)
    rw [Int.natCast_add] at this
    exact this
theorem sm_bytes_go (l : List Int) (hl : l.length ≤ 140737488355328) : ∀ (d k i : Nat), i + d = l.length → d < k → mailcoachlaw01_SameBytes.l0 k l l (i : Int) = some true := by
  intro d
  induction d with
  | zero =>
    intro k i hi hk
    obtain ⟨k, rfl⟩ : ∃ k', k = k' + 1 := ⟨k - 1, by omega⟩
    rw [mailcoachlaw01_SameBytes.l0, if_neg (by omega)]
  | succ d ih =>
    intro k i hi hk
    obtain ⟨k, rfl⟩ : ∃ k', k = k' + 1 := ⟨k - 1, by omega⟩
    rw [mailcoachlaw01_SameBytes.l0, if_pos (by omega), if_pos (by omega), if_pos (by omega), if_pos rfl, w64 ((i : Int) + 1) (by omega) (by omega)]
    have := ih k (i + 1) (by omega) (by omega)
    rw [Int.natCast_add] at this
    exact this
theorem sm_message (l0 : List S45) (l1 : List Int) (k : Nat) (n0 : l0.length ≤ 140737488355328) (n1 : l1.length ≤ 140737488355328) (k0 : l0.length < k) (k1 : l1.length < k) : mailcoachlaw01_SameMessage.f k l0 l1 [] l0 l1 [] = some true := by
  have f0 : mailcoachlaw01_SameFields.f k l0 l0 = some true := by
    unfold mailcoachlaw01_SameFields.f
    rw [if_pos rfl]
    exact sm_fields_go l0 n0 l0.length k 0 (by omega) k0
  have f1 : mailcoachlaw01_SameBytes.f k l1 l1 = some true := by
    unfold mailcoachlaw01_SameBytes.f
    rw [if_pos rfl]
    exact sm_bytes_go l1 n1 l1.length k 0 (by omega) k1
  have f2 : mailcoachlaw01_SameFields.f k [] [] = some true := by
    unfold mailcoachlaw01_SameFields.f
    rw [if_pos rfl]
    exact sm_fields_go [] (by simp) 0 k 0 rfl (by omega)
  unfold mailcoachlaw01_SameMessage.f
  rw [f0, f1, f2]
  rfl
end Go.Proofs.YtcgbpallpnaclaaDoor.T
