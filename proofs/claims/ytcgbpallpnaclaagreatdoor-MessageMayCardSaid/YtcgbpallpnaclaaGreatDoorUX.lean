/- A part of the walk of the laws of layer 22 (message): contracts of functions of the program, each walked once. -/
import Derived.Test.YtcgbpallpnaclaaGreatDoorUW
import Derived.RangeFuncNested
import Derived.RangeFuncBound
import Derived.RangeFuncCalls
import Derived.RangeFuncLeaves
import Derived.RangeFuncBox
import Derived.OwnWalkIn
import Derived.TacticsInMore
import Derived.LoopNIn
import Derived.LoopIn
import Derived.Deep.DeepMust
import Derived.LoopN
import Derived.Laws.BitsAllLaws
import Derived.Maps.OwnIn
import Derived.Maps.Own
import Derived.Maps.OwnSet
import Derived.Maps.OwnOps
import Derived.Shelf.Abstract
import Derived.Sort.CutIn
import Derived.Shelf.RegionOpen
import Derived.StillTailTactics
import Derived.Outline
import Derived.Deep.RegionHeld3
import Derived.Laws.StructEq
import Derived.Laws.RangeAny
import Derived.Laws.EntriesVeiled
import Derived.WalkSpells
import Derived.Lib.SlBytesConst
import Derived.Deep.RegionLaw
import Derived.Deep.RegionWith
import Derived.ArgAppend
import Derived.Shelf.Strings.SlTrimAscii
import Derived.Shelf.Strings.IndexAnyAll
import Derived.Test.YtcgbpallpnaclaaGreatDoorSh
import Derived.Test.YtcgbpallpnaclaaGreatDoorWEqStruct
namespace Go.Proofs.YtcgbpallpnaclaaGreatDoor.T
open Go.RowKit Go.Proofs.YtcgbpallpnaclaaGreatDoorW.PrintWords Go.Proofs.YtcgbpallpnaclaaGreatDoorW.PrintLast Go.Proofs.YtcgbpallpnaclaaGreatDoorW.PrintMore
open Go.Proofs.YtcgbpallpnaclaaGreatDoor.PMW
set_option linter.unusedVariables false
set_option linter.unusedSimpArgs false
/-! ### slices.IndexFunc, ContainsFunc over api.Field (made by wip/gen_idx2.py) -/
set_option maxHeartbeats 1600000 in
set_option maxRecDepth 100000 in
theorem ix_bad.index (A : Option Addr) (c : Nat) (l : List S62) (r : Int) (w : World) (hr : k62.C w A l.length l) (hK : ∀ W, Below w.heap.size w W → True) (h : idxO (msg_bad) l 0 = some r) :
    Calls Tryz.prog 102 #[.slice A l.length c, .func (.func 93) #[] #[]] w fun e w' => e = .returned (.int .i64 r) ∧ Below w.heap.size w w' := by
  have hm : l.length ≤ 9223372036854775807 := hr.2.1
  have HR := Aside0.mk hr
  have HK := Aside0.mk hK
  have H := Aside0.mk h
  clear hr hK h
  go_enter Tryz.func102, Tryz.ntmps102
  go_wp2
  go_loopw [8] (fun v8 wr => ∃ k : Nat, k ≤ l.length ∧ v8 = .int .i64 k ∧ Aside0 (Below w.heap.size w wr) ∧ Aside0 (idxO (msg_bad) (l.drop k) k = some r)) (fun v8 _ => l.length - (intOf v8).toNat)
  case atStart => exact ⟨0, by omega, rfl, ⟨Below.refl _ _⟩, H⟩
  case round =>
    obtain ⟨k, hk, rfl, HB, HI⟩ := hrel
    by_cases hlt : k < l.length
    · have HC := Aside0.mk (Kd.C_below HR.out HB.out)
      obtain ⟨ad, rfl, y0, y1⟩ := at_T62 HC.out (k : Int) (by omega) (by omega)
      rw [Int.toNat_natCast] at y0 y1
      have hi := HI.out
      rw [msg_rd_drop l k hlt, idxO] at hi
      obtain ⟨x, hx⟩ : ∃ x, rd_T62 l (k : Int) = x := ⟨_, rfl⟩
      rw [hx] at hi y0 y1
      obtain ⟨b, hb, hi⟩ := Option.bind_eq_some_iff.mp hi
      have HP := Aside0.mk hb
      have hlt2 : (k : Int) < (l.length : Int) := by omega
      have HKK := Aside0.mk (HK.out wr HB.out)
      cases b with
      | true =>
        rw [if_pos rfl] at hi
        have HI := Aside0.mk hi
        clear hi hx hb
        go_wp2_with (go_at_call 93; refine (msg_bad.calls x _ _ HP.out).mono ?_; rintro e w1 ⟨rfl, hd⟩; have HB1 := Aside0.mk (below_step HB.out hd); clear hd)
        go_ret
        exact ⟨by rw [← Option.some.inj HI.out]; rfl, HB1.out⟩
      | false =>
        rw [if_neg Bool.false_ne_true] at hi
        have HI := Aside0.mk hi
        clear hi hx hb
        go_wp2_with (go_at_call 93; refine (msg_bad.calls x _ _ HP.out).mono ?_; rintro e w1 ⟨rfl, hd⟩; have HB1 := Aside0.mk (below_step HB.out hd); clear hd)
        go_roundw
        case rel => exact ⟨k + 1, by omega, by go_num, HB1, HI⟩
        case measure => simp [intOf]; omega
    · obtain rfl : k = l.length := by omega
      have hi := HI.out
      rw [List.drop_length, idxO] at hi
      have HI := Aside0.mk (Option.some.inj hi)
      clear hi
      go_wp2
      go_ret
      exact ⟨by rw [← HI.out]; rfl, HB.out⟩
theorem ix_bad.any (A : Option Addr) (c : Nat) (l : List S62) (r : Bool) (w : World) (hr : k62.C w A l.length l) (hK : ∀ W, Below w.heap.size w W → True) (h : anyO (msg_bad) l = some r) :
    Calls Tryz.prog 96 #[.slice A l.length c, .func (.func 93) #[] #[]] w fun e w' => e = .returned (.bool r) ∧ Below w.heap.size w w' := by
  obtain ⟨i, hi, hd⟩ := idxO_any (msg_bad) l 0 r h
  have HR := Aside0.mk hr
  have HK := Aside0.mk hK
  have HI := Aside0.mk hi
  clear hr hK h hi
  go_enter Tryz.func96, Tryz.ntmps96
  go_wp2_with (go_at_call 102; refine (ix_bad.index  A c l i _ HR.out HK.out HI.out).mono ?_; rintro e w1 ⟨rfl, hb⟩; have HB1 := Aside0.mk hb; clear hb)
  go_ret
  exact ⟨by rw [← hd]; rfl, HB1.out⟩
theorem msg_long2.calls (x : S62) (r : Bool) (w : World) (h : some (x.f0.toList == msg_clen) = some r) :
    Calls Tryz.prog 94 #[.agg #[.string x.f0, .string x.f1]] w fun e w' => e = .returned (.bool r) ∧ Below w.heap.size w w' := by
  obtain rfl := Option.some.inj h
  exact msg_long.calls x w
set_option maxHeartbeats 1600000 in
set_option maxRecDepth 100000 in
theorem ix_long.index (A : Option Addr) (c : Nat) (l : List S62) (r : Int) (w : World) (hr : k62.C w A l.length l) (hK : ∀ W, Below w.heap.size w W → True) (h : idxO (fun x => some (x.f0.toList == msg_clen)) l 0 = some r) :
    Calls Tryz.prog 102 #[.slice A l.length c, .func (.func 94) #[] #[]] w fun e w' => e = .returned (.int .i64 r) ∧ Below w.heap.size w w' := by
  have hm : l.length ≤ 9223372036854775807 := hr.2.1
  have HR := Aside0.mk hr
  have HK := Aside0.mk hK
  have H := Aside0.mk h
  clear hr hK h
  go_enter Tryz.func102, Tryz.ntmps102
  go_wp2
  go_loopw [8] (fun v8 wr => ∃ k : Nat, k ≤ l.length ∧ v8 = .int .i64 k ∧ Aside0 (Below w.heap.size w wr) ∧ Aside0 (idxO (fun x => some (x.f0.toList == msg_clen)) (l.drop k) k = some r)) (fun v8 _ => l.length - (intOf v8).toNat)
  case atStart => exact ⟨0, by omega, rfl, ⟨Below.refl _ _⟩, H⟩
  case round =>
    obtain ⟨k, hk, rfl, HB, HI⟩ := hrel
    by_cases hlt : k < l.length
    · have HC := Aside0.mk (Kd.C_below HR.out HB.out)
      obtain ⟨ad, rfl, y0, y1⟩ := at_T62 HC.out (k : Int) (by omega) (by omega)
      rw [Int.toNat_natCast] at y0 y1
      have hi := HI.out
      rw [msg_rd_drop l k hlt, idxO] at hi
      obtain ⟨x, hx⟩ : ∃ x, rd_T62 l (k : Int) = x := ⟨_, rfl⟩
      rw [hx] at hi y0 y1
      obtain ⟨b, hb, hi⟩ := Option.bind_eq_some_iff.mp hi
      have HP := Aside0.mk hb
      have hlt2 : (k : Int) < (l.length : Int) := by omega
      have HKK := Aside0.mk (HK.out wr HB.out)
      cases b with
      | true =>
        rw [if_pos rfl] at hi
        have HI := Aside0.mk hi
        clear hi hx hb
        go_wp2_with (go_at_call 94; refine (msg_long2.calls x _ _ HP.out).mono ?_; rintro e w1 ⟨rfl, hd⟩; have HB1 := Aside0.mk (below_step HB.out hd); clear hd)
        go_ret
        exact ⟨by rw [← Option.some.inj HI.out]; rfl, HB1.out⟩
      | false =>
        rw [if_neg Bool.false_ne_true] at hi
        have HI := Aside0.mk hi
        clear hi hx hb
        go_wp2_with (go_at_call 94; refine (msg_long2.calls x _ _ HP.out).mono ?_; rintro e w1 ⟨rfl, hd⟩; have HB1 := Aside0.mk (below_step HB.out hd); clear hd)
        go_roundw
        case rel => exact ⟨k + 1, by omega, by go_num, HB1, HI⟩
        case measure => simp [intOf]; omega
    · obtain rfl : k = l.length := by omega
      have hi := HI.out
      rw [List.drop_length, idxO] at hi
      have HI := Aside0.mk (Option.some.inj hi)
      clear hi
      go_wp2
      go_ret
      exact ⟨by rw [← HI.out]; rfl, HB.out⟩
theorem ix_long.any (A : Option Addr) (c : Nat) (l : List S62) (r : Bool) (w : World) (hr : k62.C w A l.length l) (hK : ∀ W, Below w.heap.size w W → True) (h : anyO (fun x => some (x.f0.toList == msg_clen)) l = some r) :
    Calls Tryz.prog 96 #[.slice A l.length c, .func (.func 94) #[] #[]] w fun e w' => e = .returned (.bool r) ∧ Below w.heap.size w w' := by
  obtain ⟨i, hi, hd⟩ := idxO_any (fun x => some (x.f0.toList == msg_clen)) l 0 r h
  have HR := Aside0.mk hr
  have HK := Aside0.mk hK
  have HI := Aside0.mk hi
  clear hr hK h hi
  go_enter Tryz.func96, Tryz.ntmps96
  go_wp2_with (go_at_call 102; refine (ix_long.index  A c l i _ HR.out HK.out HI.out).mono ?_; rintro e w1 ⟨rfl, hb⟩; have HB1 := Aside0.mk hb; clear hb)
  go_ret
  exact ⟨by rw [← hd]; rfl, HB1.out⟩
set_option maxHeartbeats 1600000 in
set_option maxRecDepth 100000 in
theorem ix_wrong.index (B5 B6 B1 : Nat) (A1 : Option Addr) (n c1 : Nat) (A : Option Addr) (c : Nat) (l : List S62) (r : Int) (w : World) (hr : k62.C w A l.length l) (hK : ∀ W, Below w.heap.size w W → MsgCaps W B5 B6 B1 A1 n c1) (h : idxO (msg_wrong n) l 0 = some r) :
    Calls Tryz.prog 102 #[.slice A l.length c, .func (.func 95) #[] #[.pointer (some ⟨B5, 0, none⟩), .pointer (some ⟨B6, 0, none⟩), .pointer (some ⟨B1, 0, none⟩)]] w fun e w' => e = .returned (.int .i64 r) ∧ Below w.heap.size w w' := by
  have hm : l.length ≤ 9223372036854775807 := hr.2.1
  have HR := Aside0.mk hr
  have HK := Aside0.mk hK
  have H := Aside0.mk h
  clear hr hK h
  go_enter Tryz.func102, Tryz.ntmps102
  go_wp2
  go_loopw [8] (fun v8 wr => ∃ k : Nat, k ≤ l.length ∧ v8 = .int .i64 k ∧ Aside0 (Below w.heap.size w wr) ∧ Aside0 (idxO (msg_wrong n) (l.drop k) k = some r)) (fun v8 _ => l.length - (intOf v8).toNat)
  case atStart => exact ⟨0, by omega, rfl, ⟨Below.refl _ _⟩, H⟩
  case round =>
    obtain ⟨k, hk, rfl, HB, HI⟩ := hrel
    by_cases hlt : k < l.length
    · have HC := Aside0.mk (Kd.C_below HR.out HB.out)
      obtain ⟨ad, rfl, y0, y1⟩ := at_T62 HC.out (k : Int) (by omega) (by omega)
      rw [Int.toNat_natCast] at y0 y1
      have hi := HI.out
      rw [msg_rd_drop l k hlt, idxO] at hi
      obtain ⟨x, hx⟩ : ∃ x, rd_T62 l (k : Int) = x := ⟨_, rfl⟩
      rw [hx] at hi y0 y1
      obtain ⟨b, hb, hi⟩ := Option.bind_eq_some_iff.mp hi
      have HP := Aside0.mk hb
      have hlt2 : (k : Int) < (l.length : Int) := by omega
      have HKK := Aside0.mk (HK.out wr HB.out)
      cases b with
      | true =>
        rw [if_pos rfl] at hi
        have HI := Aside0.mk hi
        clear hi hx hb
        go_wp2_with (go_at_call 95; refine (msg_wrong.calls x B5 B6 B1 A1 n c1 _ _ HKK.out HP.out).mono ?_; rintro e w1 ⟨rfl, hd⟩; have HB1 := Aside0.mk (below_step HB.out hd); clear hd)
        go_ret
        exact ⟨by rw [← Option.some.inj HI.out]; rfl, HB1.out⟩
      | false =>
        rw [if_neg Bool.false_ne_true] at hi
        have HI := Aside0.mk hi
        clear hi hx hb
        go_wp2_with (go_at_call 95; refine (msg_wrong.calls x B5 B6 B1 A1 n c1 _ _ HKK.out HP.out).mono ?_; rintro e w1 ⟨rfl, hd⟩; have HB1 := Aside0.mk (below_step HB.out hd); clear hd)
        go_roundw
        case rel => exact ⟨k + 1, by omega, by go_num, HB1, HI⟩
        case measure => simp [intOf]; omega
    · obtain rfl : k = l.length := by omega
      have hi := HI.out
      rw [List.drop_length, idxO] at hi
      have HI := Aside0.mk (Option.some.inj hi)
      clear hi
      go_wp2
      go_ret
      exact ⟨by rw [← HI.out]; rfl, HB.out⟩
theorem ix_wrong.any (B5 B6 B1 : Nat) (A1 : Option Addr) (n c1 : Nat) (A : Option Addr) (c : Nat) (l : List S62) (r : Bool) (w : World) (hr : k62.C w A l.length l) (hK : ∀ W, Below w.heap.size w W → MsgCaps W B5 B6 B1 A1 n c1) (h : anyO (msg_wrong n) l = some r) :
    Calls Tryz.prog 96 #[.slice A l.length c, .func (.func 95) #[] #[.pointer (some ⟨B5, 0, none⟩), .pointer (some ⟨B6, 0, none⟩), .pointer (some ⟨B1, 0, none⟩)]] w fun e w' => e = .returned (.bool r) ∧ Below w.heap.size w w' := by
  obtain ⟨i, hi, hd⟩ := idxO_any (msg_wrong n) l 0 r h
  have HR := Aside0.mk hr
  have HK := Aside0.mk hK
  have HI := Aside0.mk hi
  clear hr hK h hi
  go_enter Tryz.func96, Tryz.ntmps96
  go_wp2_with (go_at_call 102; refine (ix_wrong.index B5 B6 B1 A1 n c1 A c l i _ HR.out HK.out HI.out).mono ?_; rintro e w1 ⟨rfl, hb⟩; have HB1 := Aside0.mk hb; clear hb)
  go_ret
  exact ⟨by rw [← hd]; rfl, HB1.out⟩
/-! ### message.Get -/
def get_hit (name : ByteArray) (x : S62) : Bool := x.f0.toList == name.toList
theorem get_hit.calls (name : ByteArray) (B : Nat) (x : S62) (r : Bool) (w : World) (hB : w.heap[B]? = some (.cells #[.string name] 9 (0, 0))) (h : some (get_hit name x) = some r) :
    Calls Tryz.prog 103 #[.agg #[.string x.f0, .string x.f1], .pointer (some ⟨B, 0, none⟩)] w fun e w' => e = .returned (.bool r) ∧ Below w.heap.size w w' := by
  obtain rfl := Option.some.inj h
  have hc : w.cell? ⟨B, 0, none⟩ = some (.string name) := (blk_cell hB 0).trans rfl
  have hl : B < w.heap.size := (Array.getElem?_eq_some_iff.1 hB).1
  go_enter Tryz.func103, Tryz.ntmps103
  go_wp2_with (fail)
  go_ret
  exact ⟨rfl, below_alloc (Below.refl _ _) _⟩
set_option maxHeartbeats 1600000 in
set_option maxRecDepth 100000 in
theorem ix_get.index (name : ByteArray) (B : Nat) (A : Option Addr) (c : Nat) (l : List S62) (r : Int) (w : World) (hr : k62.C w A l.length l) (hK : ∀ W, Below w.heap.size w W → W.heap[B]? = some (.cells #[.string name] 9 (0, 0))) (h : idxO (fun x => some (get_hit name x)) l 0 = some r) :
    Calls Tryz.prog 102 #[.slice A l.length c, .func (.func 103) #[] #[.pointer (some ⟨B, 0, none⟩)]] w fun e w' => e = .returned (.int .i64 r) ∧ Below w.heap.size w w' := by
  have hm : l.length ≤ 9223372036854775807 := hr.2.1
  have HR := Aside0.mk hr
  have HK := Aside0.mk hK
  have H := Aside0.mk h
  clear hr hK h
  go_enter Tryz.func102, Tryz.ntmps102
  go_wp2
  go_loopw [8] (fun v8 wr => ∃ k : Nat, k ≤ l.length ∧ v8 = .int .i64 k ∧ Aside0 (Below w.heap.size w wr) ∧ Aside0 (idxO (fun x => some (get_hit name x)) (l.drop k) k = some r)) (fun v8 _ => l.length - (intOf v8).toNat)
  case atStart => exact ⟨0, by omega, rfl, ⟨Below.refl _ _⟩, H⟩
  case round =>
    obtain ⟨k, hk, rfl, HB, HI⟩ := hrel
    by_cases hlt : k < l.length
    · have HC := Aside0.mk (Kd.C_below HR.out HB.out)
      obtain ⟨ad, rfl, y0, y1⟩ := at_T62 HC.out (k : Int) (by omega) (by omega)
      rw [Int.toNat_natCast] at y0 y1
      have hi := HI.out
      rw [msg_rd_drop l k hlt, idxO] at hi
      obtain ⟨x, hx⟩ : ∃ x, rd_T62 l (k : Int) = x := ⟨_, rfl⟩
      rw [hx] at hi y0 y1
      obtain ⟨b, hb, hi⟩ := Option.bind_eq_some_iff.mp hi
      have HP := Aside0.mk hb
      have hlt2 : (k : Int) < (l.length : Int) := by omega
      have HKK := Aside0.mk (HK.out wr HB.out)
      cases b with
      | true =>
        rw [if_pos rfl] at hi
        have HI := Aside0.mk hi
        clear hi hx hb
        go_wp2_with (go_at_call 103; refine (get_hit.calls name B x _ _ HKK.out HP.out).mono ?_; rintro e w1 ⟨rfl, hd⟩; have HB1 := Aside0.mk (below_step HB.out hd); clear hd)
        go_ret
        exact ⟨by rw [← Option.some.inj HI.out]; rfl, HB1.out⟩
      | false =>
        rw [if_neg Bool.false_ne_true] at hi
        have HI := Aside0.mk hi
        clear hi hx hb
        go_wp2_with (go_at_call 103; refine (get_hit.calls name B x _ _ HKK.out HP.out).mono ?_; rintro e w1 ⟨rfl, hd⟩; have HB1 := Aside0.mk (below_step HB.out hd); clear hd)
        go_roundw
        case rel => exact ⟨k + 1, by omega, by go_num, HB1, HI⟩
        case measure => simp [intOf]; omega
    · obtain rfl : k = l.length := by omega
      have hi := HI.out
      rw [List.drop_length, idxO] at hi
      have HI := Aside0.mk (Option.some.inj hi)
      clear hi
      go_wp2
      go_ret
      exact ⟨by rw [← HI.out]; rfl, HB.out⟩
def message_Get.f (l0 : List S62) (a1 : ByteArray) : Option (ByteArray × Bool) := some (match l0.find? (get_hit a1) with | some x => (x.f1, true) | none => (⟨#[]⟩, false))
theorem get_idx (name : ByteArray) : ∀ (l : List S62) (i : Nat), (idxO (fun x => some (get_hit name x)) l (i : Int) = some (-1) ∧ l.find? (get_hit name) = none) ∨ ∃ (n : Nat) (hn : n < l.length), idxO (fun x => some (get_hit name x)) l (i : Int) = some ((i + n : Nat) : Int) ∧ l.find? (get_hit name) = some l[n]
  | [], i => .inl ⟨rfl, rfl⟩
  | x :: l, i => by
    rw [idxO, Option.bind_some, List.find?_cons]
    cases h : get_hit name x with
    | true => exact .inr ⟨0, by simp, by rfl, rfl⟩
    | false =>
      rw [if_neg Bool.false_ne_true]
      rcases get_idx name l (i + 1) with ⟨h1, h2⟩ | ⟨n, hn, h1, h2⟩
      · exact .inl ⟨h1, h2⟩
      · exact .inr ⟨n + 1, by simp; omega, by rw [show i + (n + 1) = i + 1 + n by omega]; exact h1, by simpa using h2⟩
set_option maxHeartbeats 1600000 in
set_option maxRecDepth 100000 in
theorem message_Get.calls (A0 : Option Addr) (c0 : Nat) (l0 : List S62) (a1 : ByteArray) (r1 : ByteArray) (r2 : Bool) (w : World) (hr0 : Kd.C k62 w A0 l0.length l0) (hc0 : l0.length ≤ c0) (h : message_Get.f l0 a1 = some (r1, r2)) :
    Calls Tryz.prog 34 #[.slice A0 l0.length c0, .string a1] w fun e w' => e = .returned (.tuple #[.string r1, .bool r2]) ∧ Below w.heap.size w w' := by
  have hm : l0.length ≤ 9223372036854775807 := hr0.2.1
  have HR := Aside0.mk hr0
  have H := Aside0.mk (Option.some.inj h)
  clear hr0 h
  obtain ⟨W, hW⟩ : ∃ W, w.alloc (.cells #[.string a1] 9) = W := ⟨_, rfl⟩
  have HB := Aside0.mk (show Below w.heap.size w W from by rw [← hW]; exact below_alloc (Below.refl _ _) _)
  have HK := Aside0.mk (show ∀ W', Below W.heap.size W W' → W'.heap[w.heap.size]? = some (.cells #[.string a1] 9 (0, 0)) from fun W' hb => by
    have e : W.heap[w.heap.size]? = some (.cells #[.string a1] 9 (0, 0)) := by rw [← hW]; exact tok_block _ _ _
    exact (hb.block _ (Array.getElem?_eq_some_iff.1 e).1).trans e)
  have HC := Aside0.mk (Kd.C_below HR.out HB.out)
  rcases get_idx a1 l0 0 with ⟨h1, h2⟩ | ⟨n, hn, h1, h2⟩
  · have HI := Aside0.mk h1
    have hh := H.out
    rw [h2] at hh
    obtain ⟨rfl, rfl⟩ := Prod.mk.inj hh
    clear h1 h2 hh H
    go_enter Tryz.func34, Tryz.ntmps34
    go_wp2_with (go_at_call 102; refine (ix_get.index a1 w.heap.size A0 c0 l0 _ W HC.out HK.out HI.out).mono ?_; rintro e w1 ⟨rfl, hb⟩; have HB1 := Aside0.mk (below_step HB.out hb); clear hb)
    go_ret2
    exact ⟨rfl, HB1.out⟩
  · have HI := Aside0.mk h1
    have hh := H.out
    rw [h2] at hh
    obtain ⟨e1, e2⟩ := Prod.mk.inj hh
    obtain ⟨ad, hA, x0, x1⟩ := at_T62 HR.out (n : Int) (by omega) (by omega)
    rw [Int.toNat_natCast] at x0 x1
    have hx : rd_T62 l0 (n : Int) = l0[n] := by simp [rd_T62, List.getD_eq_getElem?_getD, List.getElem?_eq_getElem hn]
    rw [hx] at x1
    have e1' : l0[n].f1 = r1 := e1
    rw [e1'] at x1
    obtain rfl : true = r2 := e2
    subst hA
    rw [Nat.zero_add] at HI
    clear h1 h2 hh H x0 hx e1 e1'
    have hn2 : (n : Int) < (l0.length : Int) := by omega
    go_enter Tryz.func34, Tryz.ntmps34
    go_wp2_with (go_at_call 102; refine (ix_get.index a1 w.heap.size (some ad) c0 l0 _ W HC.out HK.out HI.out).mono ?_; rintro e w1 ⟨rfl, hb⟩; have HB1 := Aside0.mk (below_step HB.out hb); have x1n := pw_cell_below (below_step HB.out hb) x1; clear hb)
    go_ret2
    exact ⟨rfl, HB1.out⟩
end Go.Proofs.YtcgbpallpnaclaaGreatDoor.T
