/- A part of the walk of the laws of layer 22 (message): contracts of functions of the program, each walked once. -/
import Derived.Test.YtcgbpallpnaclaaDoorXLP
import Derived.RangeFuncNested
import Derived.RangeFuncBound
import Derived.RangeFuncCalls
import Derived.RangeFuncLeaves
import Derived.RangeFuncBox
import Derived.OwnWalkIn
import Derived.TacticsInMore
import Derived.LoopNIn
import Derived.LoopIn
import Derived.Deep.DeepMust
import Derived.LoopN
import Derived.Laws.BitsAllLaws
import Derived.Maps.OwnIn
import Derived.Maps.Own
import Derived.Maps.OwnSet
import Derived.Maps.OwnOps
import Derived.Shelf.Abstract
import Derived.Sort.CutIn
import Derived.Shelf.RegionOpen
import Derived.StillTailTactics
import Derived.Outline
import Derived.Deep.RegionHeld3
import Derived.Laws.StructEq
import Derived.Laws.RangeAny
import Derived.Laws.EntriesVeiled
import Derived.WalkSpells
import Derived.Lib.SlBytesConst
import Derived.Lib.ItoaLen
import Derived.Deep.RegionLaw
import Derived.Deep.RegionWith
import Derived.ArgAppend
import Derived.Shelf.Strings.SlTrimAscii
import Derived.Shelf.Strings.IndexAnyAll
import Derived.Test.YtcgbpallpnaclaaDoorSh
import Derived.Test.YtcgbpallpnaclaaDoorWEqStruct
namespace Go.Proofs.YtcgbpallpnaclaaDoor.T
open Go.RowKit Go.Proofs.YtcgbpallpnaclaaDoorW.PrintWords Go.Proofs.YtcgbpallpnaclaaDoorW.PrintLast Go.Proofs.YtcgbpallpnaclaaDoorW.PrintMore
open Go.Proofs.YtcgbpallpnaclaaDoor.PMG
set_option linter.unusedVariables false
set_option linter.unusedSimpArgs false
/-! ### digits tell their number -/
def ml_val (l : List UInt8) : Nat := l.foldl (fun a b => a * 10 + (b.toNat - 48)) 0
open Lib in
theorem ml_val_dec : ∀ (f m : Nat), m < f → ml_val (decDigits m) = m
  | 0, m, h => absurd h (by omega)
  | f + 1, m, h => by
    have hd : ∀ d : Nat, d < 10 → (UInt8.ofNat (48 + d)).toNat - 48 = d := by
      intro d hd
      have : ∀ i : Fin 10, (UInt8.ofNat (48 + i.val)).toNat - 48 = i.val := by decide +kernel
      exact this ⟨d, hd⟩
    rw [decDigits]
    by_cases hm : m < 10
    · rw [dif_pos hm]
      show 0 * 10 + ((UInt8.ofNat (48 + m)).toNat - 48) = m
      rw [hd m hm]; omega
    · rw [dif_neg hm]
      have := ml_val_dec f (m / 10) (by omega)
      unfold ml_val at this ⊢
      rw [List.foldl_append, this]
      show m / 10 * 10 + ((UInt8.ofNat (48 + m % 10)).toNat - 48) = m
      rw [hd _ (Nat.mod_lt _ (by omega))]; omega
open Lib in
theorem ml_inj {a b : Nat} (h : decDigits a = decDigits b) : a = b := by
  have := congrArg ml_val h
  rwa [ml_val_dec (a + 1) a (by omega), ml_val_dec (b + 1) b (by omega)] at this
open Lib in
theorem ml_head : ∀ (f m : Nat), m < f → 1 ≤ m → ∀ r, decDigits m ≠ 48 :: r
  | 0, m, h, _, _ => absurd h (by omega)
  | f + 1, m, h, h1, r => by
    rw [decDigits]
    by_cases hm : m < 10
    · rw [dif_pos hm]
      intro he
      have := (List.cons.inj he).1
      have hh : ∀ i : Fin 10, 1 ≤ i.val → UInt8.ofNat (48 + i.val) ≠ 48 := by decide +kernel
      exact hh ⟨m, hm⟩ h1 this
    · rw [dif_neg hm]
      intro he
      cases hd : decDigits (m / 10) with
      | nil =>
        have := ml_val_dec (m / 10 + 1) (m / 10) (by omega)
        rw [hd] at this
        have : (0 : Nat) = m / 10 := this
        omega
      | cons x y =>
        rw [hd] at he
        have hx := (List.cons.inj he).1
        exact ml_head f (m / 10) (by omega) (by omega) y (by rw [hd, hx])
open Lib in
theorem ml_ne (a b : Nat) : 48 :: decDigits a ≠ decDigits b := by
  intro h
  have hb : b = 0 := by
    rcases Nat.eq_zero_or_pos b with h0 | h0
    · exact h0
    · exact absurd h.symm (ml_head (b + 1) b (by omega) h0 _)
  subst hb
  rw [decDigits_one (show (0 : Nat) < 10 by omega)] at h
  have h2 : decDigits a = [] := (List.cons.inj h).2
  have := ml_val_dec (a + 1) a (by omega)
  rw [h2] at this
  have : (0 : Nat) = a := this
  subst this
  rw [decDigits_one (show (0 : Nat) < 10 by omega)] at h2
  cases h2
theorem ml_itoa (n : Nat) : (msg_itoa (n : Int)).toList = Lib.decDigits n := by
  rw [Lib.toList_data]
  unfold msg_itoa
  rw [Lib.itoa_nonneg]
theorem ml_zero_data (s : ByteArray) : ((⟨#[48]⟩ : ByteArray) ++ s).data.toList = 48 :: s.data.toList := by simp
theorem ml_dig {n : Nat} {s : ByteArray} (h : s.data.toList = Lib.decDigits n) : digB s.data.toList := by rw [h]; exact dig_dec (n + 1) n (by omega)
theorem ml_req_false {n : Nat} {s : ByteArray} (l1 : List Int) (h : s.data.toList = Lib.decDigits n) (hs : s.size ≤ 21) (hl : l1.length ≤ 10000) : message_Request.f (lv_get len_path ++ [len_field s]) l1 [] = some (if n = l1.length then 0 else 14) := by
  rw [len_req s l1 (ml_dig h) (by omega) hl, ml_itoa, Lib.toList_data, h]
  by_cases hn : n = l1.length
  · rw [if_pos hn, if_pos (by rw [hn])]
  · rw [if_neg hn, if_neg (fun he => hn (ml_inj he))]
theorem ml_req_true {n : Nat} {s : ByteArray} (l1 : List Int) (h : s.data.toList = Lib.decDigits n) (hs : s.size ≤ 21) (hl : l1.length ≤ 10000) : message_Request.f (lv_get len_path ++ [len_field ((⟨#[48]⟩ : ByteArray) ++ s)]) l1 [] = some 14 := by
  have hd : digB ((⟨#[48]⟩ : ByteArray) ++ s).data.toList := by
    rw [ml_zero_data]
    intro b hb
    rcases List.mem_cons.1 hb with rfl | hb
    · decide
    · exact ml_dig h b hb
  have hsz : ((⟨#[48]⟩ : ByteArray) ++ s).size ≤ 100 := by
    have h1 : ((⟨#[48]⟩ : ByteArray) ++ s).size = ((⟨#[48]⟩ : ByteArray) ++ s).data.toList.length := by rw [ByteArray.size]; exact (Array.length_toList ..).symm
    have h2 : s.size = s.data.toList.length := by rw [ByteArray.size]; simp
    rw [h1, ml_zero_data, List.length_cons]
    omega
  rw [len_req _ l1 hd hsz hl, ml_itoa, Lib.toList_data, ml_zero_data, h, if_neg (ml_ne n l1.length)]
theorem ml_empty {α : Type} (d : Kd α) (w : World) (A : Option Addr) : Kd.C d w A ([] : List α).length [] := ⟨rfl, by simp, fun h => by simp at h⟩
theorem ml_request (A0 : Option Addr) (c0 : Nat) (l0 : List Int) (A3 : Option Addr) (c3 : Nat) (A4 : Option Addr) (c4 : Nat) (L : List S45) (w w2 : World) (base g : Nat) (o1 : Array Value) (r : Int)
    (HO4 : Kd.R k45 45 w2 base (fun _ => True) (.slice A4 L.length c4) L) (hc4 : L.length ≤ c4) (hb2 : w2.heap[g]? = some (.cells o1 32 (0, 0))) (hB : Below w.heap.size w w2) (hg : w.heap.size ≤ g)
    (hr0 : Kd.C (Kd.int .u8) w A0 l0.length l0) (hc0 : l0.length ≤ c0) (hT : MsgTab w) (h : message_Request.f L l0 [] = some r) (x y : Value) :
    Calls Tryd.prog 15 #[.agg #[.slice A4 L.length c4, .slice A0 l0.length c0, .slice A3 0 c3]] ((w2.setCell ⟨g, 0, none⟩ x).setCell ⟨g, 1, none⟩ y) fun e w' => e = .returned (.int .i64 r) ∧ Below w.heap.size w w' := by
  have hW : Below w.heap.size w ((w2.setCell ⟨g, 0, none⟩ x).setCell ⟨g, 1, none⟩ y) := below_set (below_set hB hg) hg
  have h4 := Kd.R_far (Kd.R_far (Kd.R_types HO4 hb2 (by decide)) (p := ⟨g, 0, none⟩) (fun k hk => hk.2) x) (p := ⟨g, 1, none⟩) (fun k hk => hk.2) y
  refine (message_Request.calls A4 c4 L A0 c0 l0 A3 c3 [] r _ (Kd.R_reads' h4).2.2 hc4 (Kd.C_below hr0 hW) hc0 (ml_empty _ _ _) (Nat.zero_le _) (hT.below hW) h).mono ?_
  rintro e w3 ⟨he, hb⟩
  exact ⟨he, below_step hW hb⟩
end Go.Proofs.YtcgbpallpnaclaaDoor.T
