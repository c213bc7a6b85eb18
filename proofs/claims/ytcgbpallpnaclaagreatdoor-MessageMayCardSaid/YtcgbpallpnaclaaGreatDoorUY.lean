/- A part of the walk of the laws of layer 22 (message): contracts of functions of the program, each walked once. -/
import Derived.Test.YtcgbpallpnaclaaGreatDoorUX
import Derived.Test.YtcgbpallpnaclaaGreatDoorPMWx3
import Derived.RangeFuncNested
import Derived.RangeFuncBound
import Derived.RangeFuncCalls
import Derived.RangeFuncLeaves
import Derived.RangeFuncBox
import Derived.OwnWalkIn
import Derived.TacticsInMore
import Derived.LoopNIn
import Derived.LoopIn
import Derived.Deep.DeepMust
import Derived.LoopN
import Derived.Laws.BitsAllLaws
import Derived.Maps.OwnIn
import Derived.Maps.Own
import Derived.Maps.OwnSet
import Derived.Maps.OwnOps
import Derived.Shelf.Abstract
import Derived.Sort.CutIn
import Derived.Shelf.RegionOpen
import Derived.StillTailTactics
import Derived.Outline
import Derived.Deep.RegionHeld3
import Derived.Laws.StructEq
import Derived.Laws.RangeAny
import Derived.Laws.EntriesVeiled
import Derived.WalkSpells
import Derived.Lib.SlBytesConst
import Derived.Deep.RegionLaw
import Derived.Deep.RegionWith
import Derived.ArgAppend
import Derived.Shelf.Strings.SlTrimAscii
import Derived.Shelf.Strings.IndexAnyAll
import Derived.Test.YtcgbpallpnaclaaGreatDoorSh
import Derived.Test.YtcgbpallpnaclaaGreatDoorWEqStruct
namespace Go.Proofs.YtcgbpallpnaclaaGreatDoor.T
open Go.RowKit Go.Proofs.YtcgbpallpnaclaaGreatDoorW.PrintWords Go.Proofs.YtcgbpallpnaclaaGreatDoorW.PrintLast Go.Proofs.YtcgbpallpnaclaaGreatDoorW.PrintMore
open Go.Proofs.YtcgbpallpnaclaaGreatDoor.PMW
set_option linter.unusedVariables false
set_option linter.unusedSimpArgs false
/-! ### message.marks (made by wip/gen_marks.py) -/
def markB (s : ByteArray) : Bool := match s.data.toList with | [] => false | b :: _ => b == 58
theorem mark_prefix (s : ByteArray) : strings_HasPrefix.f s ⟨#[58]⟩ = some (markB s) := by
  unfold strings_HasPrefix.f stringslite_HasPrefix.f
  have h1 : ((⟨#[58]⟩ : ByteArray).size : Int) = 1 := rfl
  have hs : s.size = s.data.toList.length := Lib.size_eq s
  rw [h1]
  cases h : s.data.toList with
  | nil =>
    rw [h] at hs
    have h2 : markB s = false := by unfold markB; rw [h]
    rw [if_neg (by rw [hs]; simp), h2]; rfl
  | cons b r =>
    rw [h, List.length_cons] at hs
    have h2 : markB s = (b == 58) := by unfold markB; rw [h]
    rw [if_pos (by omega), if_pos (by omega), if_pos (by omega), h2]
    have e : (s.extract 0 ((1 : Int)).toNat).toList = [b] := by
      rw [Lib.toList_data, Lib.extract_data, h]; rfl
    have e2 : (⟨#[58]⟩ : ByteArray).toList = [58] := by rw [Lib.toList_data]
    rw [e, e2, Option.bind_some]
    simp
/-- How many marks lead, with values that may be; none: one may not be. -/
def msg_lead : List S62 → Nat → Option (Option Nat)
  | [], n => some (some n)
  | x :: r, n => if markB x.f0 = true then (message_value.f ⟨#[]⟩ x.f1).bind fun b => if b = true then msg_lead r (n + 1) else some none else some (some n)
def msg_longP (x : S62) : Bool := x.f0.toList == msg_clen
def message_marks.f (l0 : List S62) (l1 : List Int) (l2 : List S62) : Option (List S62 × Bool) :=
  (msg_lead l0 0).bind fun t => match t with
    | none => some ([], false)
    | some n => (anyO (msg_wrong l1.length) (l0.drop n)).bind fun a => if a = true then some ([], false) else (anyO msg_bad l2).bind fun b => if b = true then some ([], false) else (anyO (fun x => some (msg_longP x)) l2).bind fun c => if c = true then some ([], false) else some (l0.take n, true)
set_option maxHeartbeats 6400000 in
set_option maxRecDepth 100000 in
theorem message_marks.calls (A0_0 : Option Addr) (c0_0 : Nat) (l0_0 : List S62) (A0_1 : Option Addr) (c0_1 : Nat) (l0_1 : List Int) (A0_2 : Option Addr) (c0_2 : Nat) (l0_2 : List S62) (r1 : List S62) (r2 : Bool) (w : World) (hr0_0 : Kd.C k62 w A0_0 l0_0.length l0_0) (hc0_0 : l0_0.length ≤ c0_0) (hr0_1 : Kd.C (Kd.int .u8) w A0_1 l0_1.length l0_1) (hc0_1 : l0_1.length ≤ c0_1) (hr0_2 : Kd.C k62 w A0_2 l0_2.length l0_2) (hc0_2 : l0_2.length ≤ c0_2) (hT : MsgTab w) (h : message_marks.f l0_0 l0_1 l0_2 = some (r1, r2)) :
    Calls Tryz.prog 28 #[.agg #[.slice A0_0 l0_0.length c0_0, .slice A0_1 l0_1.length c0_1, .slice A0_2 l0_2.length c0_2]] w fun e w' => (∃ (A : Option Addr) (c : Nat), e = .returned (.tuple #[.slice A r1.length c, .bool r2]) ∧ Kd.C k62 w' A r1.length r1 ∧ r1.length ≤ c) ∧ Below w.heap.size w w' := by
  unfold message_marks.f at h
  obtain ⟨t, ht, h⟩ := Option.bind_eq_some_iff.mp h
  have hm0 : l0_0.length ≤ 9223372036854775807 := hr0_0.2.1
  have hm1 : l0_1.length ≤ 9223372036854775807 := hr0_1.2.1
  have hm2 : l0_2.length ≤ 9223372036854775807 := hr0_2.2.1
  have H := Aside0.mk h
  have HL := Aside0.mk ht
  have HR0 := Aside0.mk hr0_0
  have HR2 := Aside0.mk hr0_2
  have HT := Aside0.mk hT
  have HC0 := Aside0.mk hc0_0
  clear h ht hr0_0 hr0_2 hr0_1 hc0_0 hc0_1 hc0_2 hT
  obtain ⟨W0, hW0⟩ : ∃ W0, w.alloc (.cells #[.slice A0_0 l0_0.length c0_0, .slice A0_1 l0_1.length c0_1, .slice A0_2 l0_2.length c0_2] 25) = W0 := ⟨_, rfl⟩
  have BK := Aside0.mk (show W0.heap[w.heap.size]? = some (.cells #[.slice A0_0 l0_0.length c0_0, .slice A0_1 l0_1.length c0_1, .slice A0_2 l0_2.length c0_2] 25 (0, 0)) by rw [← hW0]; exact tok_block _ _ _)
  have HB := Aside0.mk (show Below w.heap.size w W0 by rw [← hW0]; exact below_alloc (Below.refl _ _) _)
  go_enter Tryz.func28, Tryz.ntmps28
  go_wp2
  clear hW0
  go_loopw [4] (fun v4 wr => ∃ n : Nat, n ≤ l0_0.length ∧ v4 = .int .i64 n ∧ Aside0 (msg_lead (l0_0.drop n) n = some t) ∧ Aside0 (wr.heap[w.heap.size]? = some (.cells #[.slice A0_0 l0_0.length c0_0, .slice A0_1 l0_1.length c0_1, .slice A0_2 l0_2.length c0_2] 25 (0, 0))) ∧ Aside0 (Below w.heap.size w wr)) (fun v4 _ => l0_0.length - (intOf v4).toNat)
  case atStart => exact ⟨0, by omega, rfl, HL, BK, HB⟩
  case round =>
    clear BK HB
    obtain ⟨n, hn, rfl, HI, BK, HB⟩ := hrel
    have hc0 : wr.cell? ⟨w.heap.size, 0, none⟩ = some (.slice A0_0 l0_0.length c0_0) := (blk_cell BK.out 0).trans rfl
    by_cases hlt : n < l0_0.length
    · have HC := Aside0.mk (Kd.C_below HR0.out HB.out)
      obtain ⟨ad, hA, x0, x1⟩ := at_T62 HC.out (n : Int) (by omega) (by omega)
      rw [Int.toNat_natCast] at x0 x1
      have hi := HI.out
      rw [msg_rd_drop l0_0 n hlt, msg_lead] at hi
      obtain ⟨x, hx⟩ : ∃ x, rd_T62 l0_0 (n : Int) = x := ⟨_, rfl⟩
      rw [hx] at x0 x1 hi
      have hlt2 : (n : Int) < (l0_0.length : Int) := by omega
      have HLT := Aside0.mk hlt
      cases hmk : markB x.f0 with
      | true =>
        rw [hmk, if_pos rfl] at hi
        obtain ⟨b, hb, hi⟩ := Option.bind_eq_some_iff.mp hi
        have HP := Aside0.mk (show strings_HasPrefix.f x.f0 ⟨#[58]⟩ = some true by rw [mark_prefix, hmk])
        have HV := Aside0.mk hb
        subst hA
        cases b with
        | true =>
          rw [if_pos rfl] at hi
          have HI := Aside0.mk hi
          clear hi hx hb hmk hlt
          go_wp2_with (first | (go_at_call 36; (with_reducible refine (strings_HasPrefix.calls _ _ true _ HP.out).mono ?_); rintro e w3 ⟨rfl, hd⟩; have HD3 := Aside0.mk (show Below wr.heap.size wr w3 from by obtain ⟨m3, rfl⟩ := hd.out; exact pw_below_drewN (Below.refl _ _) _); have x0n := pw_cell_below HD3.out x0; have x1n := pw_cell_below HD3.out x1; have hc0n := pw_cell_below HD3.out hc0; have BK3 := Aside0.mk (blk_below BK.out HD3.out); have HB3 := Aside0.mk (below_step HB.out HD3.out); clear hd) | (go_at_call 92; (with_reducible refine (message_value.calls _ _ true _ HV.out).mono ?_); rintro e w4 ⟨rfl, hb4⟩; have HB4 := Aside0.mk (below_step HB3.out hb4); have BK4 := Aside0.mk (blk_below BK3.out hb4); clear hb4))
          go_roundw
          case rel => exact ⟨n + 1, HLT.out, by go_num, HI, BK4, HB4⟩
          case measure => have := HLT.out; simp [intOf]; omega
        | false =>
          rw [if_neg Bool.false_ne_true] at hi
          obtain rfl := Option.some.inj hi
          obtain ⟨rfl, rfl⟩ := Prod.mk.inj (Option.some.inj H.out)
          clear hi hx hb hmk hlt H
          go_wp2_with (first | (go_at_call 36; (with_reducible refine (strings_HasPrefix.calls _ _ true _ HP.out).mono ?_); rintro e w3 ⟨rfl, hd⟩; have HD3 := Aside0.mk (show Below wr.heap.size wr w3 from by obtain ⟨m3, rfl⟩ := hd.out; exact pw_below_drewN (Below.refl _ _) _); have x0n := pw_cell_below HD3.out x0; have x1n := pw_cell_below HD3.out x1; have hc0n := pw_cell_below HD3.out hc0; have BK3 := Aside0.mk (blk_below BK.out HD3.out); have HB3 := Aside0.mk (below_step HB.out HD3.out); clear hd) | (go_at_call 92; (with_reducible refine (message_value.calls _ _ false _ HV.out).mono ?_); rintro e w4 ⟨rfl, hb4⟩; have HB4 := Aside0.mk (below_step HB3.out hb4); have BK4 := Aside0.mk (blk_below BK3.out hb4); clear hb4))
          go_ret2
          exact ⟨⟨none, 0, rfl, ⟨rfl, by simp, fun h => by simp at h⟩, by simp⟩, HB4.out⟩
      | false =>
        rw [hmk, if_neg Bool.false_ne_true] at hi
        obtain rfl := Option.some.inj hi
        have HP := Aside0.mk (show strings_HasPrefix.f x.f0 ⟨#[58]⟩ = some false by rw [mark_prefix, hmk])
        clear hi hx hmk hlt
        subst hA
        go_upto_region 6 with (first | (go_at_call 36; (with_reducible refine (strings_HasPrefix.calls _ _ false _ HP.out).mono ?_); rintro e w3 ⟨rfl, hd⟩; have HD3 := Aside0.mk (show Below wr.heap.size wr w3 from by obtain ⟨m3, rfl⟩ := hd.out; exact pw_below_drewN (Below.refl _ _) _); have x0n := pw_cell_below HD3.out x0; have x1n := pw_cell_below HD3.out x1; have hc0n := pw_cell_below HD3.out hc0; have BK3 := Aside0.mk (blk_below BK.out HD3.out); have HB3 := Aside0.mk (below_step HB.out HD3.out); clear hd))
        obtain ⟨W1, hW1⟩ : ∃ W1, (w3.alloc (.cells #[.func (.func 93) #[] #[]] 92)).alloc (.cells #[.func (.func 94) #[] #[]] 92) = W1 := ⟨_, rfl⟩
        have g5 : W1.heap[w3.heap.size]? = some (.cells #[.func (.func 93) #[] #[]] 92 (0, 0)) := by rw [← hW1]; exact blk_alloc (tok_block _ _ _) _
        have g6 : W1.heap[w3.heap.size + 1]? = some (.cells #[.func (.func 94) #[] #[]] 92 (0, 0)) := by rw [← hW1]; have := tok_block (w3.alloc (.cells #[.func (.func 93) #[] #[]] 92)) #[.func (.func 94) #[] #[]] 92; rw [World.size_alloc] at this; exact this
        have g1 : W1.heap[w.heap.size]? = some (.cells #[.slice (some ad) l0_0.length c0_0, .slice A0_1 l0_1.length c0_1, .slice A0_2 l0_2.length c0_2] 25 (0, 0)) := by rw [← hW1]; exact blk_alloc (blk_alloc BK3.out _) _
        have b1 : Below w.heap.size w W1 := by rw [← hW1]; exact below_alloc (below_alloc HB3.out _) _
        have k5 : W1.cell? ⟨w3.heap.size, 0, none⟩ = some (.func (.func 93) #[] #[]) := (blk_cell g5 0).trans rfl
        have k6 : W1.cell? ⟨w3.heap.size + 1, 0, none⟩ = some (.func (.func 94) #[] #[]) := (blk_cell g6 0).trans rfl
        have k0 : W1.cell? ⟨w.heap.size, 0, none⟩ = some (.slice (some ad) l0_0.length c0_0) := (blk_cell g1 0).trans rfl
        have k2 : W1.cell? ⟨w.heap.size, 2, none⟩ = some (.slice A0_2 l0_2.length c0_2) := (blk_cell g1 2).trans rfl
        have HB1 := Aside0.mk b1
        have CAPS := Aside0.mk (show MsgCaps W1 w3.heap.size (w3.heap.size + 1) w.heap.size A0_1 l0_1.length c0_1 from ⟨g5, g6, ⟨_, _, g1⟩, hm1, HT.out.below b1⟩)
        have hz := H.out
        obtain ⟨a, ha, hz⟩ := Option.bind_eq_some_iff.mp hz
        obtain ⟨i0, hi0, hzz⟩ := Option.map_eq_some_iff.1 info62
        simp only [Prod.mk.injEq] at hzz
        obtain ⟨hz0, hz1, hz2⟩ := hzz
        have hcut := cut_from (P := Tryz.prog) 22 62 .i64 (i := i0) Tryz.underlying22 hi0 2 hz1 (some ad) l0_0.length c0_0 (n : Int) (by omega) (by omega)
        have hcut2 := cut_to (P := Tryz.prog) 22 62 .i64 (i := i0) Tryz.underlying22 hi0 (some ad) l0_0.length c0_0 (n : Int) (by omega) (by omega) HC0.out
        rw [Int.toNat_natCast] at hcut hcut2
        have hdr := Kd.C_drop (m := n) (c := c0_0) (Kd.C_below HR0.out b1) hn HC0.out
        have hsz2 : k62.sz = 2 := rfl
        rw [hsz2] at hdr
        obtain ⟨A9, hA9⟩ : ∃ A9, (if c0_0 = n then (some ad) else (some ad).map (·.add (n * 2))) = A9 := ⟨_, rfl⟩
        obtain ⟨C9, hC9⟩ : ∃ C9, c0_0 - n = C9 := ⟨_, rfl⟩
        obtain ⟨N9, hN9⟩ : ∃ N9, l0_0.length - n = N9 := ⟨_, rfl⟩
        rw [hA9, hC9, hN9] at hcut
        rw [hA9] at hdr
        have PC1 := Aside0.mk (show Calls Tryz.prog 96 #[.slice A9 N9 C9, .func (.func 95) #[] #[.pointer (some ⟨w3.heap.size, 0, none⟩), .pointer (some ⟨w3.heap.size + 1, 0, none⟩), .pointer (some ⟨w.heap.size, 0, none⟩)]] W1 (fun e w' => e = .returned (.bool a) ∧ Below W1.heap.size W1 w') from by
          have := ix_wrong.any w3.heap.size (w3.heap.size + 1) w.heap.size A0_1 l0_1.length c0_1 A9 C9 (l0_0.drop n) a W1 hdr (fun W hb => CAPS.out.below hb) ha
          rw [List.length_drop, hN9] at this
          exact this)
        have HN9 := Aside0.mk hN9
        clear hz0 hz1 hz2 hdr hA9 hC9 hN9 ha hi0 hsz2 b1 g1 g5 g6 CAPS
        cases a with
        | true =>
          rw [if_pos rfl] at hz
          obtain ⟨rfl, rfl⟩ := Prod.mk.inj (Option.some.inj hz)
          clear hz
          go_wp2_with (first | (go_at_call 96; (with_reducible refine PC1.out.mono ?_); rintro e w5 ⟨rfl, hb⟩; have HBqa := Aside0.mk (below_step HB1.out hb); have k5a := pw_cell_below hb k5; have k6a := pw_cell_below hb k6; have k0a := pw_cell_below hb k0; have k2a := pw_cell_below hb k2; clear hb))
          go_ret2
          exact ⟨⟨none, 0, rfl, ⟨rfl, by simp, fun h => by simp at h⟩, by simp⟩, HBqa.out⟩
        | false =>
          rw [if_neg Bool.false_ne_true] at hz
          obtain ⟨b, hb, hz⟩ := Option.bind_eq_some_iff.mp hz
          have HBD := Aside0.mk hb
          clear hb
          cases b with
          | true =>
            rw [if_pos rfl] at hz
            obtain ⟨rfl, rfl⟩ := Prod.mk.inj (Option.some.inj hz)
            clear hz
            go_wp2_with (first | (go_at_call 96; (with_reducible refine PC1.out.mono ?_); rintro e w5 ⟨rfl, hb⟩; have HBqa := Aside0.mk (below_step HB1.out hb); have k5a := pw_cell_below hb k5; have k6a := pw_cell_below hb k6; have k0a := pw_cell_below hb k0; have k2a := pw_cell_below hb k2; clear hb) | (go_at_call 96; (with_reducible refine (ix_bad.any A0_2 c0_2 l0_2 _ _ (Kd.C_below HR2.out HBqa.out) (fun _ _ => trivial) HBD.out).mono ?_); rintro e w6 ⟨rfl, hb⟩; have HBqb := Aside0.mk (below_step HBqa.out hb); have k5b := pw_cell_below hb k5a; have k6b := pw_cell_below hb k6a; have k0b := pw_cell_below hb k0a; have k2b := pw_cell_below hb k2a; clear hb))
            go_ret2
            exact ⟨⟨none, 0, rfl, ⟨rfl, by simp, fun h => by simp at h⟩, by simp⟩, HBqb.out⟩
          | false =>
            rw [if_neg Bool.false_ne_true] at hz
            obtain ⟨c, hc, hz⟩ := Option.bind_eq_some_iff.mp hz
            have HLD := Aside0.mk (show anyO (fun x => some (x.f0.toList == msg_clen)) l0_2 = some c from hc)
            clear hc
            cases c with
            | true =>
              rw [if_pos rfl] at hz
              obtain ⟨rfl, rfl⟩ := Prod.mk.inj (Option.some.inj hz)
              clear hz
              go_wp2_with (first | (go_at_call 96; (with_reducible refine PC1.out.mono ?_); rintro e w5 ⟨rfl, hb⟩; have HBqa := Aside0.mk (below_step HB1.out hb); have k5a := pw_cell_below hb k5; have k6a := pw_cell_below hb k6; have k0a := pw_cell_below hb k0; have k2a := pw_cell_below hb k2; clear hb) | (go_at_call 96; (with_reducible refine (ix_bad.any A0_2 c0_2 l0_2 _ _ (Kd.C_below HR2.out HBqa.out) (fun _ _ => trivial) HBD.out).mono ?_); rintro e w6 ⟨rfl, hb⟩; have HBqb := Aside0.mk (below_step HBqa.out hb); have k5b := pw_cell_below hb k5a; have k6b := pw_cell_below hb k6a; have k0b := pw_cell_below hb k0a; have k2b := pw_cell_below hb k2a; clear hb) | (go_at_call 96; (with_reducible refine (ix_long.any A0_2 c0_2 l0_2 _ _ (Kd.C_below HR2.out HBqb.out) (fun _ _ => trivial) HLD.out).mono ?_); rintro e w7 ⟨rfl, hb⟩; have HBqc := Aside0.mk (below_step HBqb.out hb); have k5c := pw_cell_below hb k5b; have k6c := pw_cell_below hb k6b; have k0c := pw_cell_below hb k0b; have k2c := pw_cell_below hb k2b; clear hb))
              go_ret2
              exact ⟨⟨none, 0, rfl, ⟨rfl, by simp, fun h => by simp at h⟩, by simp⟩, HBqc.out⟩
            | false =>
              rw [if_neg Bool.false_ne_true] at hz
              obtain ⟨rfl, rfl⟩ := Prod.mk.inj (Option.some.inj hz)
              have HLN := Aside0.mk (show (l0_0.take n).length = n by rw [List.length_take, Nat.min_eq_left hn])
              clear hz
              go_wp2_with (first | (go_at_call 96; (with_reducible refine PC1.out.mono ?_); rintro e w5 ⟨rfl, hb⟩; have HBqa := Aside0.mk (below_step HB1.out hb); have k5a := pw_cell_below hb k5; have k6a := pw_cell_below hb k6; have k0a := pw_cell_below hb k0; have k2a := pw_cell_below hb k2; clear hb) | (go_at_call 96; (with_reducible refine (ix_bad.any A0_2 c0_2 l0_2 _ _ (Kd.C_below HR2.out HBqa.out) (fun _ _ => trivial) HBD.out).mono ?_); rintro e w6 ⟨rfl, hb⟩; have HBqb := Aside0.mk (below_step HBqa.out hb); have k5b := pw_cell_below hb k5a; have k6b := pw_cell_below hb k6a; have k0b := pw_cell_below hb k0a; have k2b := pw_cell_below hb k2a; clear hb) | (go_at_call 96; (with_reducible refine (ix_long.any A0_2 c0_2 l0_2 _ _ (Kd.C_below HR2.out HBqb.out) (fun _ _ => trivial) HLD.out).mono ?_); rintro e w7 ⟨rfl, hb⟩; have HBqc := Aside0.mk (below_step HBqb.out hb); have k5c := pw_cell_below hb k5b; have k6c := pw_cell_below hb k6b; have k0c := pw_cell_below hb k0b; have k2c := pw_cell_below hb k2b; clear hb))
              go_ret2
              exact ⟨⟨(some ad), c0_0, by rw [HLN.out]; rfl, Kd.C_take (Kd.C_below HR0.out HBqc.out) hn, by rw [HLN.out]; have := HC0.out; omega⟩, HBqc.out⟩
    · obtain rfl : n = l0_0.length := by omega
      have hi := HI.out
      rw [List.drop_length, msg_lead] at hi
      obtain rfl := Option.some.inj hi
      have hlt2 : decide ((l0_0.length : Int) < (l0_0.length : Int)) = false := decide_eq_false (by omega)
      clear hi
      go_upto_region 6 with (fail)
      obtain ⟨W1, hW1⟩ : ∃ W1, (wr.alloc (.cells #[.func (.func 93) #[] #[]] 92)).alloc (.cells #[.func (.func 94) #[] #[]] 92) = W1 := ⟨_, rfl⟩
      have g5 : W1.heap[wr.heap.size]? = some (.cells #[.func (.func 93) #[] #[]] 92 (0, 0)) := by rw [← hW1]; exact blk_alloc (tok_block _ _ _) _
      have g6 : W1.heap[wr.heap.size + 1]? = some (.cells #[.func (.func 94) #[] #[]] 92 (0, 0)) := by rw [← hW1]; have := tok_block (wr.alloc (.cells #[.func (.func 93) #[] #[]] 92)) #[.func (.func 94) #[] #[]] 92; rw [World.size_alloc] at this; exact this
      have g1 : W1.heap[w.heap.size]? = some (.cells #[.slice A0_0 l0_0.length c0_0, .slice A0_1 l0_1.length c0_1, .slice A0_2 l0_2.length c0_2] 25 (0, 0)) := by rw [← hW1]; exact blk_alloc (blk_alloc BK.out _) _
      have b1 : Below w.heap.size w W1 := by rw [← hW1]; exact below_alloc (below_alloc HB.out _) _
      have k5 : W1.cell? ⟨wr.heap.size, 0, none⟩ = some (.func (.func 93) #[] #[]) := (blk_cell g5 0).trans rfl
      have k6 : W1.cell? ⟨wr.heap.size + 1, 0, none⟩ = some (.func (.func 94) #[] #[]) := (blk_cell g6 0).trans rfl
      have k0 : W1.cell? ⟨w.heap.size, 0, none⟩ = some (.slice A0_0 l0_0.length c0_0) := (blk_cell g1 0).trans rfl
      have k2 : W1.cell? ⟨w.heap.size, 2, none⟩ = some (.slice A0_2 l0_2.length c0_2) := (blk_cell g1 2).trans rfl
      have HB1 := Aside0.mk b1
      have CAPS := Aside0.mk (show MsgCaps W1 wr.heap.size (wr.heap.size + 1) w.heap.size A0_1 l0_1.length c0_1 from ⟨g5, g6, ⟨_, _, g1⟩, hm1, HT.out.below b1⟩)
      have hz := H.out
      obtain ⟨a, ha, hz⟩ := Option.bind_eq_some_iff.mp hz
      obtain ⟨i0, hi0, hzz⟩ := Option.map_eq_some_iff.1 info62
      simp only [Prod.mk.injEq] at hzz
      obtain ⟨hz0, hz1, hz2⟩ := hzz
      have hcut := cut_from (P := Tryz.prog) 22 62 .i64 (i := i0) Tryz.underlying22 hi0 2 hz1 A0_0 l0_0.length c0_0 (l0_0.length : Int) (by omega) (by omega)
      have hcut2 := cut_to (P := Tryz.prog) 22 62 .i64 (i := i0) Tryz.underlying22 hi0 A0_0 l0_0.length c0_0 (l0_0.length : Int) (by omega) (by omega) HC0.out
      rw [Int.toNat_natCast] at hcut hcut2
      have hdr := Kd.C_drop (m := l0_0.length) (c := c0_0) (Kd.C_below HR0.out b1) hn HC0.out
      have hsz2 : k62.sz = 2 := rfl
      rw [hsz2] at hdr
      obtain ⟨A9, hA9⟩ : ∃ A9, (if c0_0 = l0_0.length then A0_0 else A0_0.map (·.add (l0_0.length * 2))) = A9 := ⟨_, rfl⟩
      obtain ⟨C9, hC9⟩ : ∃ C9, c0_0 - l0_0.length = C9 := ⟨_, rfl⟩
      obtain ⟨N9, hN9⟩ : ∃ N9, l0_0.length - l0_0.length = N9 := ⟨_, rfl⟩
      rw [hA9, hC9, hN9] at hcut
      rw [hA9] at hdr
      have PC1 := Aside0.mk (show Calls Tryz.prog 96 #[.slice A9 N9 C9, .func (.func 95) #[] #[.pointer (some ⟨wr.heap.size, 0, none⟩), .pointer (some ⟨wr.heap.size + 1, 0, none⟩), .pointer (some ⟨w.heap.size, 0, none⟩)]] W1 (fun e w' => e = .returned (.bool a) ∧ Below W1.heap.size W1 w') from by
        have := ix_wrong.any wr.heap.size (wr.heap.size + 1) w.heap.size A0_1 l0_1.length c0_1 A9 C9 (l0_0.drop l0_0.length) a W1 hdr (fun W hb => CAPS.out.below hb) ha
        rw [List.length_drop, hN9] at this
        exact this)
      have HN9 := Aside0.mk hN9
      clear hz0 hz1 hz2 hdr hA9 hC9 hN9 ha hi0 hsz2 b1 g1 g5 g6 CAPS
      cases a with
      | true =>
        rw [if_pos rfl] at hz
        obtain ⟨rfl, rfl⟩ := Prod.mk.inj (Option.some.inj hz)
        clear hz
        go_wp2_with (first | (go_at_call 96; (with_reducible refine PC1.out.mono ?_); rintro e w5 ⟨rfl, hb⟩; have HBqa := Aside0.mk (below_step HB1.out hb); have k5a := pw_cell_below hb k5; have k6a := pw_cell_below hb k6; have k0a := pw_cell_below hb k0; have k2a := pw_cell_below hb k2; clear hb))
        go_ret2
        exact ⟨⟨none, 0, rfl, ⟨rfl, by simp, fun h => by simp at h⟩, by simp⟩, HBqa.out⟩
      | false =>
        rw [if_neg Bool.false_ne_true] at hz
        obtain ⟨b, hb, hz⟩ := Option.bind_eq_some_iff.mp hz
        have HBD := Aside0.mk hb
        clear hb
        cases b with
        | true =>
          rw [if_pos rfl] at hz
          obtain ⟨rfl, rfl⟩ := Prod.mk.inj (Option.some.inj hz)
          clear hz
          go_wp2_with (first | (go_at_call 96; (with_reducible refine PC1.out.mono ?_); rintro e w5 ⟨rfl, hb⟩; have HBqa := Aside0.mk (below_step HB1.out hb); have k5a := pw_cell_below hb k5; have k6a := pw_cell_below hb k6; have k0a := pw_cell_below hb k0; have k2a := pw_cell_below hb k2; clear hb) | (go_at_call 96; (with_reducible refine (ix_bad.any A0_2 c0_2 l0_2 _ _ (Kd.C_below HR2.out HBqa.out) (fun _ _ => trivial) HBD.out).mono ?_); rintro e w6 ⟨rfl, hb⟩; have HBqb := Aside0.mk (below_step HBqa.out hb); have k5b := pw_cell_below hb k5a; have k6b := pw_cell_below hb k6a; have k0b := pw_cell_below hb k0a; have k2b := pw_cell_below hb k2a; clear hb))
          go_ret2
          exact ⟨⟨none, 0, rfl, ⟨rfl, by simp, fun h => by simp at h⟩, by simp⟩, HBqb.out⟩
        | false =>
          rw [if_neg Bool.false_ne_true] at hz
          obtain ⟨c, hc, hz⟩ := Option.bind_eq_some_iff.mp hz
          have HLD := Aside0.mk (show anyO (fun x => some (x.f0.toList == msg_clen)) l0_2 = some c from hc)
          clear hc
          cases c with
          | true =>
            rw [if_pos rfl] at hz
            obtain ⟨rfl, rfl⟩ := Prod.mk.inj (Option.some.inj hz)
            clear hz
            go_wp2_with (first | (go_at_call 96; (with_reducible refine PC1.out.mono ?_); rintro e w5 ⟨rfl, hb⟩; have HBqa := Aside0.mk (below_step HB1.out hb); have k5a := pw_cell_below hb k5; have k6a := pw_cell_below hb k6; have k0a := pw_cell_below hb k0; have k2a := pw_cell_below hb k2; clear hb) | (go_at_call 96; (with_reducible refine (ix_bad.any A0_2 c0_2 l0_2 _ _ (Kd.C_below HR2.out HBqa.out) (fun _ _ => trivial) HBD.out).mono ?_); rintro e w6 ⟨rfl, hb⟩; have HBqb := Aside0.mk (below_step HBqa.out hb); have k5b := pw_cell_below hb k5a; have k6b := pw_cell_below hb k6a; have k0b := pw_cell_below hb k0a; have k2b := pw_cell_below hb k2a; clear hb) | (go_at_call 96; (with_reducible refine (ix_long.any A0_2 c0_2 l0_2 _ _ (Kd.C_below HR2.out HBqb.out) (fun _ _ => trivial) HLD.out).mono ?_); rintro e w7 ⟨rfl, hb⟩; have HBqc := Aside0.mk (below_step HBqb.out hb); have k5c := pw_cell_below hb k5b; have k6c := pw_cell_below hb k6b; have k0c := pw_cell_below hb k0b; have k2c := pw_cell_below hb k2b; clear hb))
            go_ret2
            exact ⟨⟨none, 0, rfl, ⟨rfl, by simp, fun h => by simp at h⟩, by simp⟩, HBqc.out⟩
          | false =>
            rw [if_neg Bool.false_ne_true] at hz
            obtain ⟨rfl, rfl⟩ := Prod.mk.inj (Option.some.inj hz)
            have HLN := Aside0.mk (show (l0_0.take l0_0.length).length = l0_0.length by rw [List.length_take, Nat.min_eq_left hn])
            clear hz
            go_wp2_with (first | (go_at_call 96; (with_reducible refine PC1.out.mono ?_); rintro e w5 ⟨rfl, hb⟩; have HBqa := Aside0.mk (below_step HB1.out hb); have k5a := pw_cell_below hb k5; have k6a := pw_cell_below hb k6; have k0a := pw_cell_below hb k0; have k2a := pw_cell_below hb k2; clear hb) | (go_at_call 96; (with_reducible refine (ix_bad.any A0_2 c0_2 l0_2 _ _ (Kd.C_below HR2.out HBqa.out) (fun _ _ => trivial) HBD.out).mono ?_); rintro e w6 ⟨rfl, hb⟩; have HBqb := Aside0.mk (below_step HBqa.out hb); have k5b := pw_cell_below hb k5a; have k6b := pw_cell_below hb k6a; have k0b := pw_cell_below hb k0a; have k2b := pw_cell_below hb k2a; clear hb) | (go_at_call 96; (with_reducible refine (ix_long.any A0_2 c0_2 l0_2 _ _ (Kd.C_below HR2.out HBqb.out) (fun _ _ => trivial) HLD.out).mono ?_); rintro e w7 ⟨rfl, hb⟩; have HBqc := Aside0.mk (below_step HBqb.out hb); have k5c := pw_cell_below hb k5b; have k6c := pw_cell_below hb k6b; have k0c := pw_cell_below hb k0b; have k2c := pw_cell_below hb k2b; clear hb))
            go_ret2
            exact ⟨⟨A0_0, c0_0, by rw [HLN.out]; rfl, Kd.C_take (Kd.C_below HR0.out HBqc.out) hn, by rw [HLN.out]; have := HC0.out; omega⟩, HBqc.out⟩
end Go.Proofs.YtcgbpallpnaclaaGreatDoor.T
