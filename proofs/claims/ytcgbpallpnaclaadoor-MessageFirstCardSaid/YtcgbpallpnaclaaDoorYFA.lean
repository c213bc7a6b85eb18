/- A part of the walk of the laws of layer 22 (message): contracts of functions of the program, each walked once. -/
import Derived.Test.YtcgbpallpnaclaaDoorYL
import Derived.Test.YtcgbpallpnaclaaDoorPMHx7
import Derived.Test.YtcgbpallpnaclaaDoorPMHx9
import Derived.RangeFuncNested
import Derived.RangeFuncBound
import Derived.RangeFuncCalls
import Derived.RangeFuncLeaves
import Derived.RangeFuncBox
import Derived.OwnWalkIn
import Derived.TacticsInMore
import Derived.LoopNIn
import Derived.LoopIn
import Derived.Deep.DeepMust
import Derived.LoopN
import Derived.Laws.BitsAllLaws
import Derived.Maps.OwnIn
import Derived.Maps.Own
import Derived.Maps.OwnSet
import Derived.Maps.OwnOps
import Derived.Shelf.Abstract
import Derived.Sort.CutIn
import Derived.Shelf.RegionOpen
import Derived.StillTailTactics
import Derived.Outline
import Derived.Deep.RegionHeld3
import Derived.Laws.StructEq
import Derived.Laws.RangeAny
import Derived.Laws.EntriesVeiled
import Derived.WalkSpells
import Derived.Lib.SlBytesConst
import Derived.Deep.RegionLaw
import Derived.Deep.RegionWith
import Derived.ArgAppend
import Derived.Shelf.Strings.SlTrimAscii
import Derived.Shelf.Strings.IndexAnyAll
import Derived.Test.YtcgbpallpnaclaaDoorSh
import Derived.Test.YtcgbpallpnaclaaDoorWEqStruct
namespace Go.Proofs.YtcgbpallpnaclaaDoor.T
open Go.RowKit Go.Proofs.YtcgbpallpnaclaaDoorW.PrintWords Go.Proofs.YtcgbpallpnaclaaDoorW.PrintLast Go.Proofs.YtcgbpallpnaclaaDoorW.PrintMore
open Go.Proofs.YtcgbpallpnaclaaDoor.PMH
set_option linter.unusedVariables false
set_option linter.unusedSimpArgs false
/-! ### what message.Answer answers: plain Lean -/
theorem first_out (x : S40) (l1 : List Int) (hs : (x.f3.length : Int) + (msg_sum x.f3 : Nat) + x.f4.length ≤ 50000) (h0 : -9223372036854775808 ≤ x.f2) (h1 : x.f2 ≤ 9223372036854775807) (hl : l1.length ≤ 60000) : ∃ a1 a2 e, ans_out x l1 = some ((a1, a2), e) := by
  obtain ⟨p, hp⟩ := tt_resp x.f2 x.f3 (ans_body x l1) h0 h1 (by omega) (by omega)
  unfold ans_out
  rw [if_pos ⟨by omega, by omega, h0, h1⟩, hp, Option.bind_some]
  split
  · exact ⟨_, _, _, rfl⟩
  · exact ⟨_, _, _, rfl⟩
theorem first_answer (l : List S40) (l0 : List S45) (l1 : List Int) (l2 : List S45) (e : Int) (he : message_Request.f l0 l1 l2 = some e) (hs : ∀ x ∈ l, (x.f3.length : Int) + (msg_sum x.f3 : Nat) + x.f4.length ≤ 50000 ∧ -9223372036854775808 ≤ x.f2 ∧ x.f2 ≤ 9223372036854775807) (hl : l1.length ≤ 60000) : ∃ a1 a2 e1, message_Answer.f l l0 l1 l2 = some ((a1, a2), e1) := by
  unfold message_Answer.f
  rw [he, Option.bind_some]
  by_cases h : e = 0
  · rw [if_pos h]
    cases hf : l.find? (rule_fits (req_get req_m l0) (req_get req_p l0)) with
    | none => exact ⟨_, _, _, rfl⟩
    | some x =>
      have hx := List.mem_of_find?_eq_some hf
      obtain ⟨q1, q2, q3⟩ := hs x hx
      exact first_out x l1 q1 q2 q3 hl
  · rw [if_neg h]
    exact ⟨_, _, _, rfl⟩
theorem first_bad {l : List S40} {l0 : List S45} {l1 : List Int} {l2 : List S45} {e e1 : Int} {a1 : List S45} {a2 : List Int} (he : message_Request.f l0 l1 l2 = some e) (h0 : e ≠ 0) (h : message_Answer.f l l0 l1 l2 = some ((a1, a2), e1)) : e1 = e := by
  unfold message_Answer.f at h
  rw [he, Option.bind_some, if_neg h0] at h
  exact ((Prod.mk.inj (Option.some.inj h)).2).symm
theorem first_find {l : List S40} {l0 : List S45} {l1 : List Int} {l2 : List S45} {r : (List S45 × List Int) × Int} (he : message_Request.f l0 l1 l2 = some 0) (h : message_Answer.f l l0 l1 l2 = some r) :
    (∀ x, l.find? (rule_fits (req_get req_m l0) (req_get req_p l0)) = some x → ans_out x l1 = some r) ∧ (l.find? (rule_fits (req_get req_m l0) (req_get req_p l0)) = none → r = (([ans_404], []), 0)) := by
  unfold message_Answer.f at h
  rw [he, Option.bind_some, if_pos rfl] at h
  refine ⟨fun x hx => ?_, fun hx => ?_⟩
  · rw [hx] at h; exact h
  · rw [hx] at h; exact (Option.some.inj h).symm
theorem first_one_no {x : S40} {l0 : List S45} {l1 : List Int} {l2 : List S45} (he : message_Request.f l0 l1 l2 = some 0) (hx : rule_fits (req_get req_m l0) (req_get req_p l0) x = false) : message_Answer.f [x] l0 l1 l2 = some (([ans_404], []), 0) := by
  unfold message_Answer.f
  rw [he, Option.bind_some, if_pos rfl, List.find?_cons, hx]
  rfl
theorem first_one_yes {x : S40} {l0 : List S45} {l1 : List Int} {l2 : List S45} (he : message_Request.f l0 l1 l2 = some 0) (hx : rule_fits (req_get req_m l0) (req_get req_p l0) x = true) : message_Answer.f [x] l0 l1 l2 = ans_out x l1 := by
  unfold message_Answer.f
  rw [he, Option.bind_some, if_pos rfl, List.find?_cons, hx]
theorem first_resp {x : S40} {l1 : List Int} {a1 : List S45} {a2 : List Int} {e1 : Int} (h : ans_out x l1 = some ((a1, a2), e1)) : ∃ v g, message_Response.f a1 a2 [] = some (v, g) ∧ (e1 = 0 → g = 0) := by
  unfold ans_out at h
  split at h
  · obtain ⟨⟨v, g⟩, hp, h⟩ := Option.bind_eq_some_iff.mp h
    by_cases hg : g = 0
    · rw [if_pos hg] at h
      obtain ⟨h1, rfl⟩ := Prod.mk.inj (Option.some.inj h)
      obtain ⟨rfl, rfl⟩ := Prod.mk.inj h1
      exact ⟨v, g, hp, fun _ => hg⟩
    · rw [if_neg hg] at h
      obtain ⟨h1, rfl⟩ := Prod.mk.inj (Option.some.inj h)
      obtain ⟨rfl, rfl⟩ := Prod.mk.inj h1
      exact ⟨0, 14, by kernel_rfl, fun h => absurd h (by decide)⟩
  · cases h
/-- The answer to the one rule: the same answer where it fits, 404 where it does not. -/
theorem first_one {l : List S40} {x : S40} {l0 : List S45} {l1 : List Int} {l2 : List S45} {a1 : List S45} {a2 : List Int} {e1 : Int} {i : Nat} (he : message_Request.f l0 l1 l2 = some 0) (h : message_Answer.f l l0 l1 l2 = some ((a1, a2), e1))
    (hf : l.find? (rule_fits (req_get req_m l0) (req_get req_p l0)) = (x :: l.drop (i + 1)).find? (rule_fits (req_get req_m l0) (req_get req_p l0))) :
    ∃ b1 b2 eb, message_Answer.f [x] l0 l1 l2 = some ((b1, b2), eb) ∧ (rule_fits (req_get req_m l0) (req_get req_p l0) x = true → b1 = a1 ∧ b2 = a2 ∧ eb = e1 ∧ ∃ v g, message_Response.f a1 a2 [] = some (v, g) ∧ (e1 = 0 → g = 0)) ∧ (rule_fits (req_get req_m l0) (req_get req_p l0) x = false → b1 = [ans_404] ∧ eb = 0 ∧ l.find? (rule_fits (req_get req_m l0) (req_get req_p l0)) = (l.drop (i + 1)).find? (rule_fits (req_get req_m l0) (req_get req_p l0))) := by
  cases hx : rule_fits (req_get req_m l0) (req_get req_p l0) x with
  | false => exact ⟨_, _, _, first_one_no he hx, fun h => (by cases h), fun _ => ⟨rfl, rfl, by rw [hf, List.find?_cons, hx]⟩⟩
  | true =>
    have h1 := (first_find he h).1 x (by rw [hf, List.find?_cons, hx])
    exact ⟨a1, a2, e1, (first_one_yes he hx).trans h1, fun _ => ⟨rfl, rfl, rfl, first_resp h1⟩, fun h => (by cases h)⟩
theorem first_pref (s p : ByteArray) : prefB s p = (decide (p.size ≤ s.size) && ((s.extract 0 p.size).toList == p.toList)) := by
  unfold prefB strings_HasPrefix.f stringslite_HasPrefix.f
  by_cases h : (s.size : Int) ≥ (p.size : Int)
  · rw [if_pos h, if_pos (by omega), if_pos (by omega), decide_eq_true (show p.size ≤ s.size by omega)]
    simp
  · rw [if_neg h, decide_eq_false (show ¬ p.size ≤ s.size by omega)]
    rfl
theorem first_shape {l1 : List Int} (l : List S40) {l0 : List S45} {l2 : List S45} {a1 : List S45} {a2 : List Int} {e1 : Int} (he : message_Request.f l0 l1 l2 = some 0) (h : message_Answer.f l l0 l1 l2 = some ((a1, a2), e1)) (hs : ∀ x ∈ l, x.f3.length ≤ 60000 ∧ x.f4.length ≤ 60000) (hl : l1.length ≤ 60000) : a1.length ≤ 140737488355328 ∧ a2.length ≤ 140737488355328 := by
  cases hf : l.find? (rule_fits (req_get req_m l0) (req_get req_p l0)) with
  | none =>
    have := (first_find he h).2 hf
    obtain ⟨h1, _⟩ := Prod.mk.inj this
    obtain ⟨rfl, rfl⟩ := Prod.mk.inj h1
    simp
  | some x =>
    have h1 := (first_find he h).1 x hf
    have hx := hs x (List.mem_of_find?_eq_some hf)
    unfold ans_out at h1
    split at h1
    · obtain ⟨p, _, h1⟩ := Option.bind_eq_some_iff.mp h1
      split at h1
      · obtain ⟨h2, _⟩ := Prod.mk.inj (Option.some.inj h1)
        obtain ⟨rfl, rfl⟩ := Prod.mk.inj h2
        have := ans_body_le x l1
        rw [List.length_cons]
        omega
      · obtain ⟨h2, _⟩ := Prod.mk.inj (Option.some.inj h1)
        obtain ⟨rfl, rfl⟩ := Prod.mk.inj h2
        simp
    · cases h1
theorem first_mid (l : List S40) (i : Nat) (h : i < l.length) : [rd_T40 l (i : Int)] = (l.take (i + 1)).drop i := by
  rw [List.take_succ_eq_append_getElem h, List.drop_append_of_le_length (by rw [List.length_take]; omega), List.drop_eq_nil_of_le (by rw [List.length_take]; omega), List.nil_append]
  simp [rd_T40, List.getD_eq_getElem?_getD, List.getElem?_eq_getElem h]
theorem far_row {α : Type} {R R' : α → List Value → Prop} {size : Nat} {W W' : World} {A : Option Addr} {n : Nat} {xs : List α} {B : Nat} {cells : Array Value} {t : TypeId} (h : ReadsRow R size W A n xs) (hB : W.heap[B]? = some (.cells cells t (0, 0))) (hsl : ∀ u ∈ cells, ∃ a b c, u = Value.slice a b c)
    (hR : ∀ p c, R p c → R' p c ∧ ∀ u ∈ c, ∀ a b c', u ≠ Value.slice a b c') (ho : ∀ k, k ≠ B → W'.heap[k]? = W.heap[k]?) : ReadsRow R' size W' A n xs := by
  obtain ⟨h1, h2, h3⟩ := h
  refine ⟨h1, h2, fun hp => ?_⟩
  obtain ⟨ad, e, hc⟩ := h3 hp
  refine ⟨ad, e, fun j p hj => ?_⟩
  obtain ⟨c, hl, hr, hcell⟩ := hc j p hj
  refine ⟨c, hl, (hR p c hr).1, fun i u hu => ?_⟩
  have h4 := hcell i u hu
  have hne : (ad.add (j * size + i)).block ≠ B := by
    intro eb
    unfold World.cell? at h4
    rw [eb, hB] at h4
    simp only at h4
    split at h4
    · cases h4
    · obtain ⟨a, b, c', e'⟩ := hsl u (Array.mem_of_getElem? h4)
      exact (hR p c hr).2 u (List.mem_of_getElem? hu) a b c' e'
  unfold World.cell? at h4 ⊢
  rw [ho _ hne]
  exact h4
theorem far_fields {W W' : World} {A : Option Addr} {n : Nat} {xs : List S45} {B : Nat} {cells : Array Value} {t : TypeId} (h : Kd.C k45 W A n xs) (hB : W.heap[B]? = some (.cells cells t (0, 0))) (hsl : ∀ u ∈ cells, ∃ a b c, u = Value.slice a b c) (ho : ∀ k, k ≠ B → W'.heap[k]? = W.heap[k]?) : Kd.C k45 W' A n xs :=
  far_row h hB hsl (fun p c hp => by obtain rfl := k45_open hp; exact ⟨k45_mk W' p, by simp⟩) ho
theorem far_bytes {W W' : World} {A : Option Addr} {n : Nat} {xs : List Int} {B : Nat} {cells : Array Value} {t : TypeId} (h : Kd.C (Kd.int .u8) W A n xs) (hB : W.heap[B]? = some (.cells cells t (0, 0))) (hsl : ∀ u ∈ cells, ∃ a b c, u = Value.slice a b c) (ho : ∀ k, k ≠ B → W'.heap[k]? = W.heap[k]?) : Kd.C (Kd.int .u8) W' A n xs :=
  far_row h hB hsl (fun p c (hp : c = [Value.int .u8 p]) => by subst hp; exact ⟨rfl, by simp⟩) ho
end Go.Proofs.YtcgbpallpnaclaaDoor.T
