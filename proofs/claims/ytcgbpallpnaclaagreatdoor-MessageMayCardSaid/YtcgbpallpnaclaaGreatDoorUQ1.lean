/- A part of the walk of the laws of layer 22 (message): contracts of functions of the program, each walked once. -/
import Derived.Test.YtcgbpallpnaclaaGreatDoorUS
import Derived.Test.YtcgbpallpnaclaaGreatDoorPMWx3
import Derived.RangeFuncNested
import Derived.RangeFuncBound
import Derived.RangeFuncCalls
import Derived.RangeFuncLeaves
import Derived.RangeFuncBox
import Derived.OwnWalkIn
import Derived.TacticsInMore
import Derived.LoopNIn
import Derived.LoopIn
import Derived.Deep.DeepMust
import Derived.LoopN
import Derived.Laws.BitsAllLaws
import Derived.Maps.OwnIn
import Derived.Maps.Own
import Derived.Maps.OwnSet
import Derived.Maps.OwnOps
import Derived.Shelf.Abstract
import Derived.Sort.CutIn
import Derived.Shelf.RegionOpen
import Derived.StillTailTactics
import Derived.Outline
import Derived.Deep.RegionHeld3
import Derived.Laws.StructEq
import Derived.Laws.RangeAny
import Derived.Laws.EntriesVeiled
import Derived.WalkSpells
import Derived.Lib.SlBytesConst
import Derived.Deep.RegionLaw
import Derived.Deep.RegionWith
import Derived.ArgAppend
import Derived.Shelf.Strings.SlTrimAscii
import Derived.Shelf.Strings.IndexAnyAll
import Derived.Test.YtcgbpallpnaclaaGreatDoorSh
import Derived.Test.YtcgbpallpnaclaaGreatDoorWEqStruct
namespace Go.Proofs.YtcgbpallpnaclaaGreatDoor.T
open Go.RowKit Go.Proofs.YtcgbpallpnaclaaGreatDoorW.PrintWords Go.Proofs.YtcgbpallpnaclaaGreatDoorW.PrintLast Go.Proofs.YtcgbpallpnaclaaGreatDoorW.PrintMore
open Go.Proofs.YtcgbpallpnaclaaGreatDoor.PMW
set_option linter.unusedVariables false
set_option linter.unusedSimpArgs false
/-! ### the function that message.Answer hands to slices.IndexFunc, and that call -/
def prefB (s p : ByteArray) : Bool := (strings_HasPrefix.f s p).getD false
theorem prefix_total (s p : ByteArray) : strings_HasPrefix.f s p = some (prefB s p) := by
  unfold prefB strings_HasPrefix.f stringslite_HasPrefix.f
  by_cases h : (s.size : Int) ≥ (p.size : Int)
  · rw [if_pos h, if_pos (by omega), if_pos (by omega)]; rfl
  · rw [if_neg h]; rfl
def rule_fits (method path : ByteArray) (x : S64) : Bool := (x.f0.toList.isEmpty || x.f0.toList == method.toList) && prefB path x.f1
set_option maxHeartbeats 1600000 in
set_option maxRecDepth 100000 in
theorem rule_fits.calls (method path : ByteArray) (B7 B9 : Nat) (x : S64) (v3 v4 : Value) (w : World) (A3 A4 : Option Addr) (n3 c3 n4 c4 : Nat) (h7 : w.heap[B7]? = some (.cells #[.string method] 9 (0, 0))) (h9 : w.heap[B9]? = some (.cells #[.string path] 9 (0, 0))) :
    Calls Tryz.prog 45 #[.agg #[.string x.f0, .string x.f1, .int .i64 x.f2, .slice A3 n3 c3, .slice A4 n4 c4, .bool x.f5], .pointer (some ⟨B7, 0, none⟩), .pointer (some ⟨B9, 0, none⟩)] w fun e w' => e = .returned (.bool (rule_fits method path x)) ∧ Below w.heap.size w w' := by
  have hc7 : w.cell? ⟨B7, 0, none⟩ = some (.string method) := (blk_cell h7 0).trans rfl
  have hc9 : w.cell? ⟨B9, 0, none⟩ = some (.string path) := (blk_cell h9 0).trans rfl
  obtain ⟨W, hW⟩ : ∃ W, w.alloc (.cells #[.string x.f0, .string x.f1, .int .i64 x.f2, .slice A3 n3 c3, .slice A4 n4 c4, .bool x.f5] 64) = W := ⟨_, rfl⟩
  have hb : Below w.heap.size w W := by rw [← hW]; exact below_alloc (Below.refl _ _) _
  have d7 := pw_cell_below hb hc7
  have d9 := pw_cell_below hb hc9
  have d0 : W.cell? ⟨w.heap.size, 0, none⟩ = some (.string x.f0) := by rw [← hW]; exact (blk_cell (tok_block _ _ _) 0).trans rfl
  have d1 : W.cell? ⟨w.heap.size, 1, none⟩ = some (.string x.f1) := by rw [← hW]; exact (blk_cell (tok_block _ _ _) 1).trans rfl
  have HB := Aside0.mk hb
  have HP := Aside0.mk (prefix_total path x.f1)
  obtain ⟨q, hq⟩ : ∃ q, prefB path x.f1 = q := ⟨_, rfl⟩
  rw [hq] at HP
  clear hb hc7 hc9 h7 h9
  go_enter Tryz.func45, Tryz.ntmps45
  unfold rule_fits
  rw [hq]
  clear hq
  by_cases e0 : x.f0.toList = []
  · have f0 : x.f0.toList.isEmpty = true := by rw [e0]; rfl
    rw [f0, Bool.true_or, Bool.true_and]
    go_wp2_with (first | (go_at_call 36; (with_reducible refine (strings_HasPrefix.calls _ _ q _ HP.out).mono ?_); rintro e w3 ⟨rfl, hd⟩; have HB3 := Aside0.mk (show Below w.heap.size w w3 from by obtain ⟨m3, rfl⟩ := hd.out; exact pw_below_drewN HB.out _); clear hd))
    go_ret
    exact ⟨rfl, HB3.out⟩
  · have f0 : x.f0.toList.isEmpty = false := by cases h : x.f0.toList with | nil => exact absurd h e0 | cons _ _ => rfl
    rw [f0, Bool.false_or]
    cases e1 : (x.f0.toList == method.toList) with
    | true =>
      rw [Bool.true_and]
      go_wp2_with (first | (go_at_call 36; (with_reducible refine (strings_HasPrefix.calls _ _ q _ HP.out).mono ?_); rintro e w3 ⟨rfl, hd⟩; have HB3 := Aside0.mk (show Below w.heap.size w w3 from by obtain ⟨m3, rfl⟩ := hd.out; exact pw_below_drewN HB.out _); clear hd))
      go_ret
      exact ⟨rfl, HB3.out⟩
    | false =>
      rw [Bool.false_and]
      go_wp2_with (fail)
      go_ret
      exact ⟨rfl, HB.out⟩
theorem rule_rd_drop (l : List S64) (k : Nat) (h : k < l.length) : l.drop k = rd_T64 l (k : Int) :: l.drop (k + 1) := by
  rw [List.drop_eq_getElem_cons h]
  simp [rd_T64, List.getD_eq_getElem?_getD, List.getElem?_eq_getElem h]
/-- The place of the first rule that fits. -/
def rule_idx (method path : ByteArray) : List S64 → Int → Int
  | [], _ => -1
  | x :: r, i => if rule_fits method path x = true then i else rule_idx method path r (i + 1)
theorem rule_idx_find (method path : ByteArray) : ∀ (l : List S64) (i : Nat), (rule_idx method path l (i : Int) = -1 ∧ l.find? (rule_fits method path) = none) ∨ ∃ (n : Nat) (hn : n < l.length), rule_idx method path l (i : Int) = ((i + n : Nat) : Int) ∧ l.find? (rule_fits method path) = some l[n]
  | [], i => .inl ⟨rfl, rfl⟩
  | x :: l, i => by
    rw [rule_idx, List.find?_cons]
    cases h : rule_fits method path x with
    | true => exact .inr ⟨0, by simp, by rfl, rfl⟩
    | false =>
      rw [if_neg Bool.false_ne_true]
      rcases rule_idx_find method path l (i + 1) with ⟨h1, h2⟩ | ⟨n, hn, h1, h2⟩
      · exact .inl ⟨h1, h2⟩
      · exact .inr ⟨n + 1, by simp; omega, by rw [show i + (n + 1) = i + 1 + n by omega]; exact h1, by simpa using h2⟩
set_option maxHeartbeats 1600000 in
set_option maxRecDepth 100000 in
theorem rule_index.calls (method path : ByteArray) (B7 B9 : Nat) (A : Option Addr) (c : Nat) (l : List S64) (w : World) (hr : k64.C w A l.length l) (h7 : w.heap[B7]? = some (.cells #[.string method] 9 (0, 0))) (h9 : w.heap[B9]? = some (.cells #[.string path] 9 (0, 0))) :
    Calls Tryz.prog 44 #[.slice A l.length c, .func (.func 45) #[] #[.pointer (some ⟨B7, 0, none⟩), .pointer (some ⟨B9, 0, none⟩)]] w fun e w' => e = .returned (.int .i64 (rule_idx method path l 0)) ∧ Below w.heap.size w w' := by
  have hm : l.length ≤ 9223372036854775807 := hr.2.1
  have HR := Aside0.mk hr
  have H7 := Aside0.mk h7
  have H9 := Aside0.mk h9
  clear hr h7 h9
  go_enter Tryz.func44, Tryz.ntmps44
  go_wp2
  go_loopw [8] (fun v8 wr => ∃ k : Nat, k ≤ l.length ∧ v8 = .int .i64 k ∧ Aside0 (Below w.heap.size w wr) ∧ Aside0 (rule_idx method path l 0 = rule_idx method path (l.drop k) k)) (fun v8 _ => l.length - (intOf v8).toNat)
  case atStart => exact ⟨0, by omega, rfl, ⟨Below.refl _ _⟩, ⟨rfl⟩⟩
  case round =>
    obtain ⟨k, hk, rfl, HB, HI⟩ := hrel
    by_cases hlt : k < l.length
    · have HC := Aside0.mk (Kd.C_below HR.out HB.out)
      obtain ⟨ad, A3, c3, A4, c4, rfl, y0, y1, y2, y3, y4, y5, _, _, _, _⟩ := at_T64 HC.out (k : Int) (by omega) (by omega)
      rw [Int.toNat_natCast] at y0 y1 y2 y3 y4 y5
      have hi := HI.out
      rw [rule_rd_drop l k hlt, rule_idx] at hi
      obtain ⟨x, hx⟩ : ∃ x, rd_T64 l (k : Int) = x := ⟨_, rfl⟩
      rw [hx] at hi y0 y1 y2 y3 y4 y5
      have HKK := Aside0.mk (rule_fits.calls method path B7 B9 x .nilIface .nilIface wr A3 A4 x.f3.length c3 x.f4.length c4 ((HB.out.block _ (Array.getElem?_eq_some_iff.1 H7.out).1).trans H7.out) ((HB.out.block _ (Array.getElem?_eq_some_iff.1 H9.out).1).trans H9.out))
      have hlt2 : (k : Int) < (l.length : Int) := by omega
      cases hh : rule_fits method path x with
      | true =>
        rw [hh] at hi HKK
        have HI := Aside0.mk hi
        clear hi hx hh
        go_wp2_with (go_at_call 45; refine HKK.out.mono ?_; rintro e w1 ⟨rfl, hd⟩; have HB1 := Aside0.mk (below_step HB.out hd); clear hd)
        go_ret
        exact ⟨by rw [HI.out]; rfl, HB1.out⟩
      | false =>
        rw [hh] at hi HKK
        have HI := Aside0.mk hi
        clear hi hx hh
        go_wp2_with (go_at_call 45; refine HKK.out.mono ?_; rintro e w1 ⟨rfl, hd⟩; have HB1 := Aside0.mk (below_step HB.out hd); clear hd)
        go_roundw
        case rel => exact ⟨k + 1, by omega, by go_num, HB1, ⟨by rw [HI.out]; simp⟩⟩
        case measure => simp [intOf]; omega
    · obtain rfl : k = l.length := by omega
      have hi := HI.out
      rw [List.drop_length, rule_idx] at hi
      have HI := Aside0.mk hi
      clear hi
      go_wp2
      go_ret
      exact ⟨by rw [HI.out]; rfl, HB.out⟩
end Go.Proofs.YtcgbpallpnaclaaGreatDoor.T
