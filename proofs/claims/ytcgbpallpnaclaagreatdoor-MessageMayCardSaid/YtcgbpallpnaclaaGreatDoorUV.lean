/- A part of the walk of the laws of layer 22 (message): contracts of functions of the program, each walked once. -/
import Derived.Test.YtcgbpallpnaclaaGreatDoorUU
import Derived.Test.YtcgbpallpnaclaaGreatDoorPMWx5
import Derived.RangeFuncNested
import Derived.RangeFuncBound
import Derived.RangeFuncCalls
import Derived.RangeFuncLeaves
import Derived.RangeFuncBox
import Derived.OwnWalkIn
import Derived.TacticsInMore
import Derived.LoopNIn
import Derived.LoopIn
import Derived.Deep.DeepMust
import Derived.LoopN
import Derived.Laws.BitsAllLaws
import Derived.Maps.OwnIn
import Derived.Maps.Own
import Derived.Maps.OwnSet
import Derived.Maps.OwnOps
import Derived.Shelf.Abstract
import Derived.Sort.CutIn
import Derived.Shelf.RegionOpen
import Derived.StillTailTactics
import Derived.Outline
import Derived.Deep.RegionHeld3
import Derived.Laws.StructEq
import Derived.Laws.RangeAny
import Derived.Laws.EntriesVeiled
import Derived.WalkSpells
import Derived.Lib.SlBytesConst
import Derived.Deep.RegionLaw
import Derived.Deep.RegionWith
import Derived.ArgAppend
import Derived.Shelf.Strings.SlTrimAscii
import Derived.Shelf.Strings.IndexAnyAll
import Derived.Test.YtcgbpallpnaclaaGreatDoorSh
import Derived.Test.YtcgbpallpnaclaaGreatDoorWEqStruct
namespace Go.Proofs.YtcgbpallpnaclaaGreatDoor.T
open Go.RowKit Go.Proofs.YtcgbpallpnaclaaGreatDoorW.PrintWords Go.Proofs.YtcgbpallpnaclaaGreatDoorW.PrintLast Go.Proofs.YtcgbpallpnaclaaGreatDoorW.PrintMore
open Go.Proofs.YtcgbpallpnaclaaGreatDoor.PMW
set_option linter.unusedVariables false
set_option linter.unusedSimpArgs false
/-! ### predicates that may be undefined: the first place; any -/
/-- The first place of which a predicate holds, from a place on; below 0: none; undefined, if it is so ahead of it. -/
def idxO {α : Type} (p : α → Option Bool) : List α → Int → Option Int
  | [], _ => some (-1)
  | x :: r, i => (p x).bind fun b => if b = true then some i else idxO p r (i + 1)
def anyO {α : Type} (p : α → Option Bool) : List α → Option Bool
  | [] => some false
  | x :: r => (p x).bind fun b => if b = true then some true else anyO p r
theorem idxO_any {α : Type} (p : α → Option Bool) : ∀ (l : List α) (i : Nat) (b : Bool), anyO p l = some b → ∃ r, idxO p l (i : Int) = some r ∧ decide (0 ≤ r) = b
  | [], i, b, h => ⟨-1, rfl, by rw [anyO] at h; rw [← Option.some.inj h]; rfl⟩
  | x :: l, i, b, h => by
    rw [anyO] at h
    obtain ⟨c, h1, h2⟩ := Option.bind_eq_some_iff.mp h
    cases c with
    | true => exact ⟨i, by rw [idxO, h1]; rfl, by rw [if_pos rfl] at h2; rw [← Option.some.inj h2]; exact decide_eq_true (by omega)⟩
    | false =>
      rw [if_neg Bool.false_ne_true] at h2
      obtain ⟨r, hr, hd⟩ := idxO_any p l (i + 1) b h2
      exact ⟨r, by rw [idxO, h1, Option.bind_some, if_neg Bool.false_ne_true]; exact hr, hd⟩
theorem msg_rd_drop (l : List S62) (k : Nat) (h : k < l.length) : l.drop k = rd_T62 l (k : Int) :: l.drop (k + 1) := by
  rw [List.drop_eq_getElem_cons h]
  simp [rd_T62, List.getD_eq_getElem?_getD, List.getElem?_eq_getElem h]
/-! ### the functions that message.marks makes -/
def msg_clen : List UInt8 := [99, 111, 110, 116, 101, 110, 116, 45, 108, 101, 110, 103, 116, 104]
def msg_bad (x : S62) : Option Bool := if tokB x.f0 false = true then (message_value.f x.f0 x.f1).bind fun b => some (!b) else some true
theorem msg_bad.calls (x : S62) (r : Bool) (w : World) (h : msg_bad x = some r) :
    Calls Tryz.prog 93 #[.agg #[.string x.f0, .string x.f1]] w fun e w' => e = .returned (.bool r) ∧ Below w.heap.size w w' := by
  unfold msg_bad at h
  cases ht : tokB x.f0 false with
  | true =>
    rw [ht, if_pos rfl] at h
    obtain ⟨b, hb, h⟩ := Option.bind_eq_some_iff.mp h
    obtain rfl := Option.some.inj h
    have HV := Aside0.mk hb
    have HT := Aside0.mk (show message_token.f x.f0 false = some true by unfold message_token.f; rw [ht])
    clear h hb ht
    go_enter Tryz.func93, Tryz.ntmps93
    go_wp2_with (first | (go_at_call 35; (with_reducible refine (message_token.calls _ _ true _ HT.out).mono ?_); rintro e w3 ⟨rfl, hb3⟩; have HB3 := Aside0.mk (below_step (below_alloc (Below.refl _ _) _) hb3); have c30 : w3.cell? ⟨w.heap.size, 0, none⟩ = some (.string x.f0) := pw_cell_below hb3 ((blk_cell (tok_block _ _ _) 0).trans rfl); have c31 : w3.cell? ⟨w.heap.size, 1, none⟩ = some (.string x.f1) := pw_cell_below hb3 ((blk_cell (tok_block _ _ _) 1).trans rfl); clear hb3) | (go_at_call 92; (with_reducible refine (message_value.calls _ _ b _ HV.out).mono ?_); rintro e w4 ⟨rfl, hb4⟩; have HB4 := Aside0.mk (below_step HB3.out hb4); clear hb4))
    go_ret
    exact ⟨by first | rfl | (cases b <;> rfl), HB4.out⟩
  | false =>
    rw [ht, if_neg Bool.false_ne_true] at h
    obtain rfl := Option.some.inj h
    have HT := Aside0.mk (show message_token.f x.f0 false = some false by unfold message_token.f; rw [ht])
    clear h ht
    go_enter Tryz.func93, Tryz.ntmps93
    go_wp2_with (first | (go_at_call 35; (with_reducible refine (message_token.calls _ _ false _ HT.out).mono ?_); rintro e w3 ⟨rfl, hb3⟩; have HB3 := Aside0.mk (below_step (below_alloc (Below.refl _ _) _) hb3); clear hb3))
    go_ret
    exact ⟨rfl, HB3.out⟩
theorem msg_long.calls (x : S62) (w : World) :
    Calls Tryz.prog 94 #[.agg #[.string x.f0, .string x.f1]] w fun e w' => e = .returned (.bool (x.f0.toList == msg_clen)) ∧ Below w.heap.size w w' := by
  go_enter Tryz.func94, Tryz.ntmps94
  go_wp2_with (fail)
  go_ret
  exact ⟨rfl, below_alloc (Below.refl _ _) _⟩
end Go.Proofs.YtcgbpallpnaclaaGreatDoor.T
