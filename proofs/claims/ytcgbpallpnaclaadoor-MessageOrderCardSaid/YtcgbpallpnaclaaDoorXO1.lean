/- A part of the walk of the laws of layer 22 (message): contracts of functions of the program, each walked once. -/
import Derived.Test.YtcgbpallpnaclaaDoorXL
import Derived.RangeFuncNested
import Derived.RangeFuncBound
import Derived.RangeFuncCalls
import Derived.RangeFuncLeaves
import Derived.RangeFuncBox
import Derived.OwnWalkIn
import Derived.TacticsInMore
import Derived.LoopNIn
import Derived.LoopIn
import Derived.Deep.DeepMust
import Derived.LoopN
import Derived.Laws.BitsAllLaws
import Derived.Maps.OwnIn
import Derived.Maps.Own
import Derived.Maps.OwnSet
import Derived.Maps.OwnOps
import Derived.Shelf.Abstract
import Derived.Sort.CutIn
import Derived.Shelf.RegionOpen
import Derived.StillTailTactics
import Derived.Outline
import Derived.Deep.RegionHeld3
import Derived.Laws.StructEq
import Derived.Laws.RangeAny
import Derived.Laws.EntriesVeiled
import Derived.WalkSpells
import Derived.Lib.SlBytesConst
import Derived.Deep.RegionLaw
import Derived.Deep.RegionWith
import Derived.ArgAppend
import Derived.Shelf.Strings.SlTrimAscii
import Derived.Shelf.Strings.IndexAnyAll
import Derived.Test.YtcgbpallpnaclaaDoorSh
import Derived.Test.YtcgbpallpnaclaaDoorWEqStruct
namespace Go.Proofs.YtcgbpallpnaclaaDoor.T
open Go.RowKit Go.Proofs.YtcgbpallpnaclaaDoorW.PrintWords Go.Proofs.YtcgbpallpnaclaaDoorW.PrintLast Go.Proofs.YtcgbpallpnaclaaDoorW.PrintMore
open Go.Proofs.YtcgbpallpnaclaaDoor.PMG
set_option linter.unusedVariables false
set_option linter.unusedSimpArgs false
/-! ### what message.Request answers of marks in any order: plain Lean -/
def ord_a : S45 := ⟨⟨#[58, 97, 117, 116, 104, 111, 114, 105, 116, 121]⟩, ⟨#[97]⟩⟩
def ord_x : S45 := ⟨⟨#[120]⟩, ⟨#[121]⟩⟩
def ord_path : ByteArray := ⟨#[47]⟩
def ord_base : List S45 := lv_get ord_path ++ [ord_a]
def ord_next (A : List S45) (k : Nat) : List S45 := A.take k ++ A.drop (k + 1)
def OrdSt : Nat → List S45 → List S45 → Prop
  | 0, L, A => L = [] ∧ A = ord_base
  | i + 1, L, A => ∃ (L' A' : List S45) (k : Nat), OrdSt i L' A' ∧ k < A'.length ∧ L = L' ++ [rd_T45 A' k] ∧ A = ord_next A' k
theorem OrdSt.len : ∀ (i : Nat) (L A : List S45), OrdSt i L A → L.length = i ∧ A.length + i = 4
  | 0, L, A, h => by obtain ⟨rfl, rfl⟩ := h; exact ⟨rfl, rfl⟩
  | i + 1, L, A, h => by
    obtain ⟨L', A', k, h1, hk, rfl, rfl⟩ := h
    obtain ⟨h2, h3⟩ := OrdSt.len i L' A' h1
    unfold ord_next
    simp only [List.length_append, List.length_take, List.length_drop, List.length_cons, List.length_nil]
    omega
def ord_check (L : List S45) : Bool :=
  decide (message_Request.f L [] [] = some 0) && ((List.range 5).all (fun k => decide (message_Request.f ((L.take k ++ [ord_x]) ++ L.drop k) [] [] = some (if k = 4 then 0 else 14))) && (List.range 4).all (fun t => decide (message_Request.f (L ++ [rd_T45 L t]) [] [] = some 14)))
def ord_checks : Bool := (List.range 4).all fun k0 => (List.range 3).all fun k1 => (List.range 2).all fun k2 => (List.range 1).all fun k3 =>
  ord_check (((([] ++ [rd_T45 ord_base k0]) ++ [rd_T45 (ord_next ord_base k0) k1]) ++ [rd_T45 (ord_next (ord_next ord_base k0) k1) k2]) ++ [rd_T45 (ord_next (ord_next (ord_next ord_base k0) k1) k2) k3])
theorem ord_checked : ord_checks = true := by kernel_rfl
theorem OrdSt.check {L A : List S45} (h : OrdSt 4 L A) : ord_check L = true := by
  obtain ⟨L3, A3, k3, ⟨L2, A2, k2, ⟨L1, A1, k1, ⟨L0, A0, k0, ⟨rfl, rfl⟩, h0, rfl, rfl⟩, h1, rfl, rfl⟩, h2, rfl, rfl⟩, h3, rfl, rfl⟩ := h
  have hl : ∀ (B : List S45) (k : Nat), k < B.length → (ord_next B k).length + 1 = B.length := by
    intro B k hk
    unfold ord_next
    simp only [List.length_append, List.length_take, List.length_drop]
    omega
  have e0 : ord_base.length = 4 := rfl
  have e1 := hl _ _ h0
  have e2 := hl _ _ h1
  have e3 := hl _ _ h2
  have h := ord_checked
  unfold ord_checks at h
  have h := List.all_eq_true.1 h k0 (List.mem_range.2 (by omega))
  have h := List.all_eq_true.1 h k1 (List.mem_range.2 (by omega))
  have h := List.all_eq_true.1 h k2 (List.mem_range.2 (by omega))
  exact List.all_eq_true.1 h k3 (List.mem_range.2 (by omega))
structure OrdSays (L : List S45) : Prop where
  one : message_Request.f L [] [] = some 0
  two : ∀ k : Nat, k < 5 → message_Request.f ((L.take k ++ [ord_x]) ++ L.drop k) [] [] = some (if k = 4 then 0 else 14)
  three : ∀ t : Nat, t < 4 → message_Request.f (L ++ [rd_T45 L t]) [] [] = some 14
theorem OrdSt.says {L A : List S45} (h : OrdSt 4 L A) : OrdSays L := by
  have h := h.check
  unfold ord_check at h
  rw [Bool.and_eq_true, Bool.and_eq_true] at h
  exact ⟨of_decide_eq_true h.1, fun k hk => of_decide_eq_true (List.all_eq_true.1 h.2.1 k (List.mem_range.2 hk)), fun t ht => of_decide_eq_true (List.all_eq_true.1 h.2.2 t (List.mem_range.2 ht))⟩
theorem field_ok {w : World} {base : Nat} {ok ok' : Nat → Prop} {v : Value} {xs : List S45} (h : Kd.R k45 45 w base ok v xs) (hk : ∀ k, v.ownBlock = some k → ok' k) : Kd.R k45 45 w base ok' v xs :=
  ⟨hk, h.2.imp_ (fun x cs hp => by rw [k45_openM hp]; exact k45_mkM _ _ _ x)⟩
end Go.Proofs.YtcgbpallpnaclaaDoor.T
