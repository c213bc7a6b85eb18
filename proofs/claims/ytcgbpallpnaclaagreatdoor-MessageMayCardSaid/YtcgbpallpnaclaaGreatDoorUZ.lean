/- A part of the walk of the laws of layer 22 (message): contracts of functions of the program, each walked once. -/
import Derived.Test.YtcgbpallpnaclaaGreatDoorUY
import Derived.RangeFuncNested
import Derived.RangeFuncBound
import Derived.RangeFuncCalls
import Derived.RangeFuncLeaves
import Derived.RangeFuncBox
import Derived.OwnWalkIn
import Derived.TacticsInMore
import Derived.LoopNIn
import Derived.LoopIn
import Derived.Deep.DeepMust
import Derived.LoopN
import Derived.Laws.BitsAllLaws
import Derived.Maps.OwnIn
import Derived.Maps.Own
import Derived.Maps.OwnSet
import Derived.Maps.OwnOps
import Derived.Shelf.Abstract
import Derived.Sort.CutIn
import Derived.Shelf.RegionOpen
import Derived.StillTailTactics
import Derived.Outline
import Derived.Deep.RegionHeld3
import Derived.Laws.StructEq
import Derived.Laws.RangeAny
import Derived.Laws.EntriesVeiled
import Derived.WalkSpells
import Derived.Lib.SlBytesConst
import Derived.Deep.RegionLaw
import Derived.Deep.RegionWith
import Derived.ArgAppend
import Derived.Shelf.Strings.SlTrimAscii
import Derived.Shelf.Strings.IndexAnyAll
import Derived.Test.YtcgbpallpnaclaaGreatDoorSh
import Derived.Test.YtcgbpallpnaclaaGreatDoorWEqStruct
namespace Go.Proofs.YtcgbpallpnaclaaGreatDoor.T
open Go.RowKit Go.Proofs.YtcgbpallpnaclaaGreatDoorW.PrintWords Go.Proofs.YtcgbpallpnaclaaGreatDoorW.PrintLast Go.Proofs.YtcgbpallpnaclaaGreatDoorW.PrintMore
open Go.Proofs.YtcgbpallpnaclaaGreatDoor.PMW
set_option linter.unusedVariables false
set_option linter.unusedSimpArgs false
/-! ### message.Response -/
theorem msg_bytesWorld (w : World) (e : TypeId) (t : ByteArray) : Below w.heap.size w (Lib.bytesWorld w e t) := by
  exact ⟨rfl, rfl, rfl, by rw [Lib.bytesWorld_size]; omega, fun j hj => Lib.bytesWorld_at_old w e t j hj⟩
def msg_status : List UInt8 := [58, 115, 116, 97, 116, 117, 115]
def resp_tail (x : S62) : Option (Int × Int) := if x.f1.size ≤ 4294967280 then (match Lib.atoiAll x.f1.data.toList with
  | .ok v => some (if v < 200 then (0, 14) else if 599 < v then (0, 14) else if ((msg_itoa v).toList != x.f1.toList) = true then (0, 14) else (v, 0))
  | _ => some (0, 14)) else none
theorem msg_Atoi_bad (s : ByteArray) (hs : s.size ≤ 4294967280) (h : ∀ v, Lib.atoiAll s.data.toList ≠ .ok v) (w : World) (hT : MsgTab w) :
    Calls Tryz.prog 29 #[.string s] w fun e w' => ∃ (n : Int) (te : TypeId) (pe : Value), e = .returned (.tuple #[.int .i64 n, .iface te pe]) ∧ Below w.heap.size w w' := by
  obtain ⟨_, ⟨t1, p1, v1⟩, ⟨t2, p2, v2⟩⟩ := hT
  cases hv : Lib.atoiAll s.data.toList with
  | ok v => exact absurd hv (h v)
  | range => exact (Go.Proofs.Tryz.strconv_Atoi_range_var s (by omega) hv t2 p2 w v2).mono fun e w' ⟨N, he, _, _, hb⟩ => ⟨_, _, _, he, hb⟩
  | _ => exact (Go.Proofs.Tryz.strconv_Atoi_syntax_var s (by omega) hv t1 p1 w v1).mono fun e w' ⟨N, he, _, _, hb⟩ => ⟨_, _, _, he, hb⟩
def resp_marks : List S62 → Option (Int × Int)
  | [x] => if (x.f0.toList != msg_status) = true then some (0, 14) else resp_tail x
  | _ => some (0, 14)
def message_Response.f (l0 : List S62) (l1 : List Int) (l2 : List S62) : Option (Int × Int) :=
  (message_great.f l0 l1 l2).bind fun g => if g = true then some (0, 3) else (message_marks.f l0 l1 l2).bind fun p => if p.2 = true then resp_marks p.1 else some (0, 14)
theorem resp_more {L : List S62} (h : L.length ≠ 1) : resp_marks L = some (0, 14) := by
  match L, h with
  | [], _ => rfl
  | [x], h => simp at h
  | _ :: _ :: _, _ => rfl
set_option maxHeartbeats 6400000 in
set_option maxRecDepth 100000 in
theorem message_Response.calls (A0_0 : Option Addr) (c0_0 : Nat) (l0_0 : List S62) (A0_1 : Option Addr) (c0_1 : Nat) (l0_1 : List Int) (A0_2 : Option Addr) (c0_2 : Nat) (l0_2 : List S62) (r1 : Int) (r2 : Int) (w : World) (hr0_0 : Kd.C k62 w A0_0 l0_0.length l0_0) (hc0_0 : l0_0.length ≤ c0_0) (hr0_1 : Kd.C (Kd.int .u8) w A0_1 l0_1.length l0_1) (hc0_1 : l0_1.length ≤ c0_1) (hr0_2 : Kd.C k62 w A0_2 l0_2.length l0_2) (hc0_2 : l0_2.length ≤ c0_2) (hT : MsgTab w) (h : message_Response.f l0_0 l0_1 l0_2 = some (r1, r2)) :
    Calls Tryz.prog 8 #[.agg #[.slice A0_0 l0_0.length c0_0, .slice A0_1 l0_1.length c0_1, .slice A0_2 l0_2.length c0_2]] w fun e w' => e = .returned (.tuple #[.int .i64 r1, .int .i64 r2]) ∧ Below w.heap.size w w' := by
  unfold message_Response.f at h
  obtain ⟨g, hg, h⟩ := Option.bind_eq_some_iff.mp h
  have HG := Aside0.mk hg
  have HR0 := Aside0.mk hr0_0
  have HR1 := Aside0.mk hr0_1
  have HR2 := Aside0.mk hr0_2
  have HT := Aside0.mk hT
  clear hg hr0_0 hr0_1 hr0_2 hT
  obtain ⟨W0, hW0⟩ : ∃ W0, w.alloc (.cells #[.slice A0_0 l0_0.length c0_0, .slice A0_1 l0_1.length c0_1, .slice A0_2 l0_2.length c0_2] 25) = W0 := ⟨_, rfl⟩
  have BK := Aside0.mk (show W0.heap[w.heap.size]? = some (.cells #[.slice A0_0 l0_0.length c0_0, .slice A0_1 l0_1.length c0_1, .slice A0_2 l0_2.length c0_2] 25 (0, 0)) by rw [← hW0]; exact tok_block _ _ _)
  have HB := Aside0.mk (show Below w.heap.size w W0 by rw [← hW0]; exact below_alloc (Below.refl _ _) _)
  have k0 : W0.cell? ⟨w.heap.size, 0, none⟩ = some (.slice A0_0 l0_0.length c0_0) := (blk_cell BK.out 0).trans rfl
  have k1 : W0.cell? ⟨w.heap.size, 1, none⟩ = some (.slice A0_1 l0_1.length c0_1) := (blk_cell BK.out 1).trans rfl
  have k2 : W0.cell? ⟨w.heap.size, 2, none⟩ = some (.slice A0_2 l0_2.length c0_2) := (blk_cell BK.out 2).trans rfl
  go_enter Tryz.func8, Tryz.ntmps8
  cases g with
  | true =>
    rw [if_pos rfl] at h
    obtain ⟨rfl, rfl⟩ := Prod.mk.inj (Option.some.inj h)
    clear h
    go_wp2_with (first | (go_at_call 27; (with_reducible refine (message_great.calls A0_0 c0_0 l0_0 A0_1 c0_1 l0_1 A0_2 c0_2 l0_2 _ _ (Kd.C_below HR0.out HB.out) hc0_0 (Kd.C_below HR1.out HB.out) hc0_1 (Kd.C_below HR2.out HB.out) hc0_2 HG.out).mono ?_); rintro e w3 ⟨rfl, hb⟩; have HB3 := Aside0.mk (below_step HB.out hb); clear hb))
    go_ret2
    exact ⟨rfl, HB3.out⟩
  | false =>
    rw [if_neg Bool.false_ne_true] at h
    obtain ⟨⟨L, ok⟩, hm, h⟩ := Option.bind_eq_some_iff.mp h
    have HM := Aside0.mk hm
    have H := Aside0.mk h
    clear hm h
    go_upto_region 4 with (first | (go_at_call 27; (with_reducible refine (message_great.calls A0_0 c0_0 l0_0 A0_1 c0_1 l0_1 A0_2 c0_2 l0_2 _ _ (Kd.C_below HR0.out HB.out) hc0_0 (Kd.C_below HR1.out HB.out) hc0_1 (Kd.C_below HR2.out HB.out) hc0_2 HG.out).mono ?_); rintro e w3 ⟨rfl, hb⟩; have HB3 := Aside0.mk (below_step HB.out hb); have k0n := pw_cell_below hb k0; have k1n := pw_cell_below hb k1; have k2n := pw_cell_below hb k2; clear hb) | (go_at_call 28; (with_reducible refine (message_marks.calls A0_0 c0_0 l0_0 A0_1 c0_1 l0_1 A0_2 c0_2 l0_2 _ _ _ (Kd.C_below HR0.out HB3.out) hc0_0 (Kd.C_below HR1.out HB3.out) hc0_1 (Kd.C_below HR2.out HB3.out) hc0_2 (HT.out.below HB3.out) HM.out).mono ?_); rintro e w4 ⟨⟨A4, c4, rfl, hC4, hc4⟩, hb⟩; have HC4 := Aside0.mk hC4; have HB4 := Aside0.mk (below_step HB3.out hb); clear hb hC4))
    clear hW0 k0 k1 k2
    cases ok with
    | false =>
      rw [if_neg Bool.false_ne_true] at H
      obtain ⟨rfl, rfl⟩ := Prod.mk.inj (Option.some.inj H.out)
      go_wp2_with (fail)
      go_ret2
      exact ⟨rfl, HB4.out⟩
    | true =>
      rw [if_pos rfl] at H
      by_cases hL : L.length = 1
      · obtain ⟨x, rfl⟩ : ∃ x, L = [x] := by
          match L, hL with
          | [x], _ => exact ⟨x, rfl⟩
        have hl1 : ((([x] : List S62).length : Nat) : Int) = 1 := rfl
        obtain ⟨ad, hA, x0, x1⟩ := at_T62 HC4.out (0 : Int) (by omega) (by simp)
        have ha0 : ad.add 0 = ad := by first | rfl | (unfold Addr.add; split <;> simp_all)
        have hrd : rd_T62 [x] 0 = x := rfl
        rw [hrd] at x0 x1
        (try simp only [Int.toNat_zero, Nat.zero_mul, ha0] at x0 x1)
        subst hA
        clear ha0 hrd hL hl1
        have h := H.out
        rw [resp_marks] at h
        cases hs : (x.f0.toList != msg_status) with
        | true =>
          rw [hs, if_pos rfl] at h
          obtain ⟨rfl, rfl⟩ := Prod.mk.inj (Option.some.inj h)
          have hs' : (x.f0.toList == [58, 115, 116, 97, 116, 117, 115]) = false := by have h5 : (!(x.f0.toList == [58, 115, 116, 97, 116, 117, 115])) = true := hs; simpa using h5
          clear h H hs
          go_wp2_with (fail)
          go_ret2
          exact ⟨rfl, HB4.out⟩
        | false =>
          rw [hs, if_neg Bool.false_ne_true, resp_tail] at h
          have hs' : (x.f0.toList == [58, 115, 116, 97, 116, 117, 115]) = true := by have h5 : (!(x.f0.toList == [58, 115, 116, 97, 116, 117, 115])) = false := hs; simpa using h5
          have hsz : x.f1.size ≤ 4294967280 := by
            by_cases hh : x.f1.size ≤ 4294967280
            · exact hh
            · rw [if_neg hh] at h; cases h
          rw [if_pos hsz] at h
          by_cases hbad : ∀ v, Lib.atoiAll x.f1.data.toList ≠ .ok v
          · have hx : (r1, r2) = ((0 : Int), (14 : Int)) := by
              cases hv : Lib.atoiAll x.f1.data.toList with
              | ok v => exact absurd hv (hbad v)
              | _ => rw [hv] at h; exact (Option.some.inj h).symm
            obtain ⟨rfl, rfl⟩ := Prod.mk.inj hx
            have HSZ := Aside0.mk hsz
            have HBAD := Aside0.mk hbad
            clear hsz h H hs hbad
            go_upto_region 7 with (first | (go_at_call 29; (with_reducible refine (msg_Atoi_bad x.f1 HSZ.out HBAD.out _ (HT.out.below HB4.out)).mono ?_); rintro e w5 ⟨vn, te, pe, rfl, hbb⟩; have HB5 := Aside0.mk (below_step HB4.out hbb); have x0q := pw_cell_below hbb x0; have x1q := pw_cell_below hbb x1; clear hbb))
            clear x0 x1
            refine wp_region_held_drew (S := (fun w' => w'.cell? ⟨ad.block, ad.off + 1, none⟩ = some (.string x.f1))) (by kernel_rfl) ?_ (fun hHeld => ?_)
            · exact x1q
            (refine msg_take (i := 0) (d := some 37) (v := .iface te pe) rfl rfl (by kernel_rfl) (by kernel_rfl) (by kernel_rfl) (fun _ _ _ h => h) (Or.inl ⟨by rfl, ?hy⟩) (by assumption) ?_; (case hy => (intro w hSw; (try dsimp only at hSw); go_split_ands; go_simp; try (with_reducible rfl)))); (try simp only [Act.put, List.setIfInBounds_toArray, List.set_cons_zero, List.set_cons_succ])
            (refine msg_take (i := 1) (d := some 38) (v := .bool true) rfl rfl (by kernel_rfl) (by kernel_rfl) (by kernel_rfl) (fun _ _ _ h => h) (Or.inl ⟨by rfl, ?hy⟩) (by assumption) ?_; (case hy => (intro w hSw; (try dsimp only at hSw); go_split_ands; go_simp; try (with_reducible rfl)))); (try simp only [Act.put, List.setIfInBounds_toArray, List.set_cons_zero, List.set_cons_succ])
            (refine msg_take (i := 2) (d := some 39) (v := .bool true) rfl rfl (by kernel_rfl) (by kernel_rfl) (by kernel_rfl) (fun _ _ _ h => h) (Or.inl ⟨by rfl, ?hy⟩) (by assumption) ?_; (case hy => (intro w hSw; (try dsimp only at hSw); go_split_ands; go_simp; try (with_reducible rfl)))); (try simp only [Act.put, List.setIfInBounds_toArray, List.set_cons_zero, List.set_cons_succ])
            (refine msg_take (i := 3) (d := some 40) (v := undef) rfl rfl (by kernel_rfl) (by kernel_rfl) (by kernel_rfl) (fun _ _ _ h => h) (Or.inr ⟨by rfl, rfl⟩) (by assumption) ?_); (try simp only [Act.put, List.setIfInBounds_toArray, List.set_cons_zero, List.set_cons_succ])
            (refine msg_take (i := 4) (d := some 41) (v := undef) rfl rfl (by kernel_rfl) (by kernel_rfl) (by kernel_rfl) (fun _ _ _ h => h) (Or.inr ⟨by rfl, rfl⟩) (by assumption) ?_); (try simp only [Act.put, List.setIfInBounds_toArray, List.set_cons_zero, List.set_cons_succ])
            (refine msg_take (i := 5) (d := some 42) (v := .bool true) rfl rfl (by kernel_rfl) (by kernel_rfl) (by kernel_rfl) (fun _ _ _ h => h) (Or.inl ⟨by rfl, ?hy⟩) (by assumption) ?_; (case hy => (intro w hSw; (try dsimp only at hSw); go_split_ands; go_simp; try (with_reducible rfl)))); (try simp only [Act.put, List.setIfInBounds_toArray, List.set_cons_zero, List.set_cons_succ])
            (refine msg_take (i := 6) (d := some 43) (v := .bool true) rfl rfl (by kernel_rfl) (by kernel_rfl) (by kernel_rfl) (fun _ _ _ h => h) (Or.inl ⟨by rfl, ?hy⟩) (by assumption) ?_; (case hy => (intro w hSw; (try dsimp only at hSw); go_split_ands; go_simp; try (with_reducible rfl)))); (try simp only [Act.put, List.setIfInBounds_toArray, List.set_cons_zero, List.set_cons_succ])
            (refine msg_take (i := 7) (d := some 44) (v := undef) rfl rfl (by kernel_rfl) (by kernel_rfl) (by kernel_rfl) (fun _ _ _ h => h) (Or.inr ⟨by rfl, rfl⟩) (by assumption) ?_); (try simp only [Act.put, List.setIfInBounds_toArray, List.set_cons_zero, List.set_cons_succ])
            (refine msg_take (i := 8) (d := some 45) (v := undef) rfl rfl (by kernel_rfl) (by kernel_rfl) (by kernel_rfl) (fun _ _ _ h => h) (Or.inr ⟨by rfl, rfl⟩) (by assumption) ?_); (try simp only [Act.put, List.setIfInBounds_toArray, List.set_cons_zero, List.set_cons_succ])
            (refine msg_take (i := 9) (d := some 46) (v := .bool true) rfl rfl (by kernel_rfl) (by kernel_rfl) (by kernel_rfl) (fun _ _ _ h => h) (Or.inl ⟨by rfl, ?hy⟩) (by assumption) ?_; (case hy => (intro w hSw; (try dsimp only at hSw); go_split_ands; go_simp; try (with_reducible rfl)))); (try simp only [Act.put, List.setIfInBounds_toArray, List.set_cons_zero, List.set_cons_succ])
            (refine msg_take (i := 10) (d := some 47) (v := .bool true) rfl rfl (by kernel_rfl) (by kernel_rfl) (by kernel_rfl) (fun _ _ _ h => h) (Or.inl ⟨by rfl, ?hy⟩) (by assumption) ?_; (case hy => (intro w hSw; (try dsimp only at hSw); go_split_ands; go_simp; try (with_reducible rfl)))); (try simp only [Act.put, List.setIfInBounds_toArray, List.set_cons_zero, List.set_cons_succ])
            (refine msg_take (i := 11) (d := some 48) (v := undef) rfl rfl (by kernel_rfl) (by kernel_rfl) (by kernel_rfl) (fun _ _ _ h => h) (Or.inr ⟨by rfl, rfl⟩) (by assumption) ?_); (try simp only [Act.put, List.setIfInBounds_toArray, List.set_cons_zero, List.set_cons_succ])
            (refine msg_take (i := 13) (d := some 50) (v := undef) rfl rfl (by kernel_rfl) (by kernel_rfl) (by kernel_rfl) (fun _ _ _ h => h) (Or.inr ⟨by rfl, rfl⟩) (by assumption) ?_); (try simp only [Act.put, List.setIfInBounds_toArray, List.set_cons_zero, List.set_cons_succ])
            (refine msg_take (i := 14) (d := some 51) (v := undef) rfl rfl (by kernel_rfl) (by kernel_rfl) (by kernel_rfl) (fun _ _ _ h => h) (Or.inr ⟨by rfl, rfl⟩) (by assumption) ?_); (try simp only [Act.put, List.setIfInBounds_toArray, List.set_cons_zero, List.set_cons_succ])
            (refine msg_take (i := 15) (d := some 52) (v := undef) rfl rfl (by kernel_rfl) (by kernel_rfl) (by kernel_rfl) (fun _ _ _ h => h) (Or.inr ⟨by rfl, rfl⟩) (by assumption) ?_); (try simp only [Act.put, List.setIfInBounds_toArray, List.set_cons_zero, List.set_cons_succ])
            (refine msg_take (i := 16) (d := some 53) (v := undef) rfl rfl (by kernel_rfl) (by kernel_rfl) (by kernel_rfl) (fun _ _ _ h => h) (Or.inr ⟨by rfl, rfl⟩) (by assumption) ?_); (try simp only [Act.put, List.setIfInBounds_toArray, List.set_cons_zero, List.set_cons_succ])
            refine wpAnyH_ready (rs := [12]) (by kernel_rfl) (by simp) ?_
            refine AllReadyH.cons rfl (fun K hK => ?_) AllReadyH.nil
            go_simp
            refine hK.out _ _ ?hS (fun hHeld => ?_)
            case hS => exact hHeld
            clear hK K
            (try simp only [Act.put, List.setIfInBounds_toArray, List.set_cons_zero, List.set_cons_succ])
            (refine msg_take (i := 17) (d := some 54) (v := undef) rfl rfl (by kernel_rfl) (by kernel_rfl) (by kernel_rfl) (fun _ _ _ h => h) (Or.inr ⟨by rfl, rfl⟩) (by assumption) ?_); (try simp only [Act.put, List.setIfInBounds_toArray, List.set_cons_zero, List.set_cons_succ])
            (refine msg_take (i := 18) (d := some 55) (v := .bool true) rfl rfl (by kernel_rfl) (by kernel_rfl) (by kernel_rfl) (fun _ _ _ h => h) (Or.inl ⟨by rfl, ?hy⟩) (by assumption) ?_; (case hy => (intro w hSw; (try dsimp only at hSw); go_split_ands; go_simp; try (with_reducible rfl)))); (try simp only [Act.put, List.setIfInBounds_toArray, List.set_cons_zero, List.set_cons_succ])
            refine wpAnyH_done (by kernel_rfl) ?_ _
            go_wp2_with (fail)
            go_ret2
            exact ⟨rfl, below_drew1 HB5.out⟩
          · obtain ⟨v, hv⟩ : ∃ v, Lib.atoiAll x.f1.data.toList = .ok v := by
              cases hv : Lib.atoiAll x.f1.data.toList with
              | ok v => exact ⟨v, rfl⟩
              | _ => exact absurd (fun v hq => by rw [hv] at hq; cases hq) hbad
            rw [hv] at h
            replace h := Option.some.inj h
            have HV := Aside0.mk hv
            have HSZ := Aside0.mk hsz
            have HH := Aside0.mk h
            clear hv hsz h H hs
            go_upto_region 7 with (first | (go_at_call 29; (with_reducible refine (Go.Proofs.Tryz.strconv_Atoi_ok x.f1 (by have := HSZ.out; omega) v HV.out _).mono ?_); rintro e w5 ⟨rfl, hw5⟩; have hbb := (show Below w4.heap.size w4 w5 from by rcases hw5 with rfl | ⟨t, rfl⟩; exact Below.refl _ _; exact msg_bytesWorld _ _ _); have HB5 := Aside0.mk (below_step HB4.out hbb); have x0q := pw_cell_below hbb x0; have x1q := pw_cell_below hbb x1; clear hbb hw5))
            clear x0 x1
            by_cases h1 : v < 200
            · have d1 : decide (v < 200) = true := decide_eq_true h1
              rw [if_pos h1] at HH
              obtain ⟨rfl, rfl⟩ := Prod.mk.inj HH.out
              refine wp_region_held_drew (S := (fun w' => w'.cell? ⟨ad.block, ad.off + 1, none⟩ = some (.string x.f1))) (by kernel_rfl) ?_ (fun hHeld => ?_)
              · exact x1q
              (refine msg_take (i := 0) (d := some 37) (v := .nilIface) rfl rfl (by kernel_rfl) (by kernel_rfl) (by kernel_rfl) (fun _ _ _ h => h) (Or.inl ⟨by rfl, ?hy⟩) (by assumption) ?_; (case hy => (intro w hSw; (try dsimp only at hSw); go_split_ands; go_simp; try (with_reducible rfl)))); (try simp only [Act.put, List.setIfInBounds_toArray, List.set_cons_zero, List.set_cons_succ])
              (refine msg_take (i := 1) (d := some 38) (v := .bool false) rfl rfl (by kernel_rfl) (by kernel_rfl) (by kernel_rfl) (fun _ _ _ h => h) (Or.inl ⟨by rfl, ?hy⟩) (by assumption) ?_; (case hy => (intro w hSw; (try dsimp only at hSw); go_split_ands; go_simp; try (with_reducible rfl)))); (try simp only [Act.put, List.setIfInBounds_toArray, List.set_cons_zero, List.set_cons_succ])
              (refine msg_take (i := 2) (d := some 39) (v := .bool false) rfl rfl (by kernel_rfl) (by kernel_rfl) (by kernel_rfl) (fun _ _ _ h => h) (Or.inl ⟨by rfl, ?hy⟩) (by assumption) ?_; (case hy => (intro w hSw; (try dsimp only at hSw); go_split_ands; go_simp; try (with_reducible rfl)))); (try simp only [Act.put, List.setIfInBounds_toArray, List.set_cons_zero, List.set_cons_succ])
              (refine msg_take (i := 3) (d := some 40) (v := .int .i64 v) rfl rfl (by kernel_rfl) (by kernel_rfl) (by kernel_rfl) (fun _ _ _ h => h) (Or.inl ⟨by rfl, ?hy⟩) (by assumption) ?_; (case hy => (intro w hSw; (try dsimp only at hSw); go_split_ands; go_simp; try (with_reducible rfl)))); (try simp only [Act.put, List.setIfInBounds_toArray, List.set_cons_zero, List.set_cons_succ])
              (refine msg_take (i := 4) (d := some 41) (v := .bool true) rfl rfl (by kernel_rfl) (by kernel_rfl) (by kernel_rfl) (fun _ _ _ h => h) (Or.inl ⟨by rfl, ?hy⟩) (by assumption) ?_; (case hy => (intro w hSw; (try dsimp only at hSw); go_split_ands; go_simp; try (with_reducible rfl)))); (try simp only [Act.put, List.setIfInBounds_toArray, List.set_cons_zero, List.set_cons_succ])
              (refine msg_take (i := 5) (d := some 42) (v := .bool true) rfl rfl (by kernel_rfl) (by kernel_rfl) (by kernel_rfl) (fun _ _ _ h => h) (Or.inl ⟨by rfl, ?hy⟩) (by assumption) ?_; (case hy => (intro w hSw; (try dsimp only at hSw); go_split_ands; go_simp; try (with_reducible rfl)))); (try simp only [Act.put, List.setIfInBounds_toArray, List.set_cons_zero, List.set_cons_succ])
              (refine msg_take (i := 6) (d := some 43) (v := .bool true) rfl rfl (by kernel_rfl) (by kernel_rfl) (by kernel_rfl) (fun _ _ _ h => h) (Or.inl ⟨by rfl, ?hy⟩) (by assumption) ?_; (case hy => (intro w hSw; (try dsimp only at hSw); go_split_ands; go_simp; try (with_reducible rfl)))); (try simp only [Act.put, List.setIfInBounds_toArray, List.set_cons_zero, List.set_cons_succ])
              (refine msg_take (i := 7) (d := some 44) (v := undef) rfl rfl (by kernel_rfl) (by kernel_rfl) (by kernel_rfl) (fun _ _ _ h => h) (Or.inr ⟨by rfl, rfl⟩) (by assumption) ?_); (try simp only [Act.put, List.setIfInBounds_toArray, List.set_cons_zero, List.set_cons_succ])
              (refine msg_take (i := 8) (d := some 45) (v := undef) rfl rfl (by kernel_rfl) (by kernel_rfl) (by kernel_rfl) (fun _ _ _ h => h) (Or.inr ⟨by rfl, rfl⟩) (by assumption) ?_); (try simp only [Act.put, List.setIfInBounds_toArray, List.set_cons_zero, List.set_cons_succ])
              (refine msg_take (i := 9) (d := some 46) (v := .bool true) rfl rfl (by kernel_rfl) (by kernel_rfl) (by kernel_rfl) (fun _ _ _ h => h) (Or.inl ⟨by rfl, ?hy⟩) (by assumption) ?_; (case hy => (intro w hSw; (try dsimp only at hSw); go_split_ands; go_simp; try (with_reducible rfl)))); (try simp only [Act.put, List.setIfInBounds_toArray, List.set_cons_zero, List.set_cons_succ])
              (refine msg_take (i := 10) (d := some 47) (v := .bool true) rfl rfl (by kernel_rfl) (by kernel_rfl) (by kernel_rfl) (fun _ _ _ h => h) (Or.inl ⟨by rfl, ?hy⟩) (by assumption) ?_; (case hy => (intro w hSw; (try dsimp only at hSw); go_split_ands; go_simp; try (with_reducible rfl)))); (try simp only [Act.put, List.setIfInBounds_toArray, List.set_cons_zero, List.set_cons_succ])
              (refine msg_take (i := 11) (d := some 48) (v := undef) rfl rfl (by kernel_rfl) (by kernel_rfl) (by kernel_rfl) (fun _ _ _ h => h) (Or.inr ⟨by rfl, rfl⟩) (by assumption) ?_); (try simp only [Act.put, List.setIfInBounds_toArray, List.set_cons_zero, List.set_cons_succ])
              (refine msg_take (i := 13) (d := some 50) (v := undef) rfl rfl (by kernel_rfl) (by kernel_rfl) (by kernel_rfl) (fun _ _ _ h => h) (Or.inr ⟨by rfl, rfl⟩) (by assumption) ?_); (try simp only [Act.put, List.setIfInBounds_toArray, List.set_cons_zero, List.set_cons_succ])
              (refine msg_take (i := 14) (d := some 51) (v := undef) rfl rfl (by kernel_rfl) (by kernel_rfl) (by kernel_rfl) (fun _ _ _ h => h) (Or.inr ⟨by rfl, rfl⟩) (by assumption) ?_); (try simp only [Act.put, List.setIfInBounds_toArray, List.set_cons_zero, List.set_cons_succ])
              (refine msg_take (i := 15) (d := some 52) (v := undef) rfl rfl (by kernel_rfl) (by kernel_rfl) (by kernel_rfl) (fun _ _ _ h => h) (Or.inr ⟨by rfl, rfl⟩) (by assumption) ?_); (try simp only [Act.put, List.setIfInBounds_toArray, List.set_cons_zero, List.set_cons_succ])
              (refine msg_take (i := 16) (d := some 53) (v := undef) rfl rfl (by kernel_rfl) (by kernel_rfl) (by kernel_rfl) (fun _ _ _ h => h) (Or.inr ⟨by rfl, rfl⟩) (by assumption) ?_); (try simp only [Act.put, List.setIfInBounds_toArray, List.set_cons_zero, List.set_cons_succ])
              refine wpAnyH_ready (rs := [12]) (by kernel_rfl) (by simp) ?_
              refine AllReadyH.cons rfl (fun K hK => ?_) AllReadyH.nil
              go_simp
              refine hK.out _ _ ?hS (fun hHeld => ?_)
              case hS => exact hHeld
              clear hK K
              (try simp only [Act.put, List.setIfInBounds_toArray, List.set_cons_zero, List.set_cons_succ])
              (refine msg_take (i := 17) (d := some 54) (v := undef) rfl rfl (by kernel_rfl) (by kernel_rfl) (by kernel_rfl) (fun _ _ _ h => h) (Or.inr ⟨by rfl, rfl⟩) (by assumption) ?_); (try simp only [Act.put, List.setIfInBounds_toArray, List.set_cons_zero, List.set_cons_succ])
              (refine msg_take (i := 18) (d := some 55) (v := .bool true) rfl rfl (by kernel_rfl) (by kernel_rfl) (by kernel_rfl) (fun _ _ _ h => h) (Or.inl ⟨by rfl, ?hy⟩) (by assumption) ?_; (case hy => (intro w hSw; (try dsimp only at hSw); go_split_ands; go_simp; try (with_reducible rfl)))); (try simp only [Act.put, List.setIfInBounds_toArray, List.set_cons_zero, List.set_cons_succ])
              refine wpAnyH_done (by kernel_rfl) ?_ _
              go_wp2_with (fail)
              go_ret2
              exact ⟨rfl, below_drew1 HB5.out⟩
            · have d1 : decide (v < 200) = false := decide_eq_false h1
              rw [if_neg h1] at HH
              by_cases h2 : 599 < v
              · have d2 : decide (599 < v) = true := decide_eq_true h2
                rw [if_pos h2] at HH
                obtain ⟨rfl, rfl⟩ := Prod.mk.inj HH.out
                refine wp_region_held_drew (S := (fun w' => w'.cell? ⟨ad.block, ad.off + 1, none⟩ = some (.string x.f1))) (by kernel_rfl) ?_ (fun hHeld => ?_)
                · exact x1q
                (refine msg_take (i := 0) (d := some 37) (v := .nilIface) rfl rfl (by kernel_rfl) (by kernel_rfl) (by kernel_rfl) (fun _ _ _ h => h) (Or.inl ⟨by rfl, ?hy⟩) (by assumption) ?_; (case hy => (intro w hSw; (try dsimp only at hSw); go_split_ands; go_simp; try (with_reducible rfl)))); (try simp only [Act.put, List.setIfInBounds_toArray, List.set_cons_zero, List.set_cons_succ])
                (refine msg_take (i := 1) (d := some 38) (v := .bool false) rfl rfl (by kernel_rfl) (by kernel_rfl) (by kernel_rfl) (fun _ _ _ h => h) (Or.inl ⟨by rfl, ?hy⟩) (by assumption) ?_; (case hy => (intro w hSw; (try dsimp only at hSw); go_split_ands; go_simp; try (with_reducible rfl)))); (try simp only [Act.put, List.setIfInBounds_toArray, List.set_cons_zero, List.set_cons_succ])
                (refine msg_take (i := 2) (d := some 39) (v := .bool false) rfl rfl (by kernel_rfl) (by kernel_rfl) (by kernel_rfl) (fun _ _ _ h => h) (Or.inl ⟨by rfl, ?hy⟩) (by assumption) ?_; (case hy => (intro w hSw; (try dsimp only at hSw); go_split_ands; go_simp; try (with_reducible rfl)))); (try simp only [Act.put, List.setIfInBounds_toArray, List.set_cons_zero, List.set_cons_succ])
                (refine msg_take (i := 3) (d := some 40) (v := .int .i64 v) rfl rfl (by kernel_rfl) (by kernel_rfl) (by kernel_rfl) (fun _ _ _ h => h) (Or.inl ⟨by rfl, ?hy⟩) (by assumption) ?_; (case hy => (intro w hSw; (try dsimp only at hSw); go_split_ands; go_simp; try (with_reducible rfl)))); (try simp only [Act.put, List.setIfInBounds_toArray, List.set_cons_zero, List.set_cons_succ])
                (refine msg_take (i := 4) (d := some 41) (v := .bool false) rfl rfl (by kernel_rfl) (by kernel_rfl) (by kernel_rfl) (fun _ _ _ h => h) (Or.inl ⟨by rfl, ?hy⟩) (by assumption) ?_; (case hy => (intro w hSw; (try dsimp only at hSw); go_split_ands; go_simp; try (with_reducible rfl)))); (try simp only [Act.put, List.setIfInBounds_toArray, List.set_cons_zero, List.set_cons_succ])
                (refine msg_take (i := 5) (d := some 42) (v := .bool false) rfl rfl (by kernel_rfl) (by kernel_rfl) (by kernel_rfl) (fun _ _ _ h => h) (Or.inl ⟨by rfl, ?hy⟩) (by assumption) ?_; (case hy => (intro w hSw; (try dsimp only at hSw); go_split_ands; go_simp; try (with_reducible rfl)))); (try simp only [Act.put, List.setIfInBounds_toArray, List.set_cons_zero, List.set_cons_succ])
                (refine msg_take (i := 6) (d := some 43) (v := .bool false) rfl rfl (by kernel_rfl) (by kernel_rfl) (by kernel_rfl) (fun _ _ _ h => h) (Or.inl ⟨by rfl, ?hy⟩) (by assumption) ?_; (case hy => (intro w hSw; (try dsimp only at hSw); go_split_ands; go_simp; try (with_reducible rfl)))); (try simp only [Act.put, List.setIfInBounds_toArray, List.set_cons_zero, List.set_cons_succ])
                (refine msg_take (i := 7) (d := some 44) (v := .int .i64 v) rfl rfl (by kernel_rfl) (by kernel_rfl) (by kernel_rfl) (fun _ _ _ h => h) (Or.inl ⟨by rfl, ?hy⟩) (by assumption) ?_; (case hy => (intro w hSw; (try dsimp only at hSw); go_split_ands; go_simp; try (with_reducible rfl)))); (try simp only [Act.put, List.setIfInBounds_toArray, List.set_cons_zero, List.set_cons_succ])
                (refine msg_take (i := 8) (d := some 45) (v := .bool true) rfl rfl (by kernel_rfl) (by kernel_rfl) (by kernel_rfl) (fun _ _ _ h => h) (Or.inl ⟨by rfl, ?hy⟩) (by assumption) ?_; (case hy => (intro w hSw; (try dsimp only at hSw); go_split_ands; go_simp; try (with_reducible rfl)))); (try simp only [Act.put, List.setIfInBounds_toArray, List.set_cons_zero, List.set_cons_succ])
                (refine msg_take (i := 9) (d := some 46) (v := .bool true) rfl rfl (by kernel_rfl) (by kernel_rfl) (by kernel_rfl) (fun _ _ _ h => h) (Or.inl ⟨by rfl, ?hy⟩) (by assumption) ?_; (case hy => (intro w hSw; (try dsimp only at hSw); go_split_ands; go_simp; try (with_reducible rfl)))); (try simp only [Act.put, List.setIfInBounds_toArray, List.set_cons_zero, List.set_cons_succ])
                (refine msg_take (i := 10) (d := some 47) (v := .bool true) rfl rfl (by kernel_rfl) (by kernel_rfl) (by kernel_rfl) (fun _ _ _ h => h) (Or.inl ⟨by rfl, ?hy⟩) (by assumption) ?_; (case hy => (intro w hSw; (try dsimp only at hSw); go_split_ands; go_simp; try (with_reducible rfl)))); (try simp only [Act.put, List.setIfInBounds_toArray, List.set_cons_zero, List.set_cons_succ])
                (refine msg_take (i := 11) (d := some 48) (v := undef) rfl rfl (by kernel_rfl) (by kernel_rfl) (by kernel_rfl) (fun _ _ _ h => h) (Or.inr ⟨by rfl, rfl⟩) (by assumption) ?_); (try simp only [Act.put, List.setIfInBounds_toArray, List.set_cons_zero, List.set_cons_succ])
                (refine msg_take (i := 13) (d := some 50) (v := undef) rfl rfl (by kernel_rfl) (by kernel_rfl) (by kernel_rfl) (fun _ _ _ h => h) (Or.inr ⟨by rfl, rfl⟩) (by assumption) ?_); (try simp only [Act.put, List.setIfInBounds_toArray, List.set_cons_zero, List.set_cons_succ])
                (refine msg_take (i := 14) (d := some 51) (v := undef) rfl rfl (by kernel_rfl) (by kernel_rfl) (by kernel_rfl) (fun _ _ _ h => h) (Or.inr ⟨by rfl, rfl⟩) (by assumption) ?_); (try simp only [Act.put, List.setIfInBounds_toArray, List.set_cons_zero, List.set_cons_succ])
                (refine msg_take (i := 15) (d := some 52) (v := undef) rfl rfl (by kernel_rfl) (by kernel_rfl) (by kernel_rfl) (fun _ _ _ h => h) (Or.inr ⟨by rfl, rfl⟩) (by assumption) ?_); (try simp only [Act.put, List.setIfInBounds_toArray, List.set_cons_zero, List.set_cons_succ])
                (refine msg_take (i := 16) (d := some 53) (v := undef) rfl rfl (by kernel_rfl) (by kernel_rfl) (by kernel_rfl) (fun _ _ _ h => h) (Or.inr ⟨by rfl, rfl⟩) (by assumption) ?_); (try simp only [Act.put, List.setIfInBounds_toArray, List.set_cons_zero, List.set_cons_succ])
                refine wpAnyH_ready (rs := [12]) (by kernel_rfl) (by simp) ?_
                refine AllReadyH.cons rfl (fun K hK => ?_) AllReadyH.nil
                go_simp
                refine hK.out _ _ ?hS (fun hHeld => ?_)
                case hS => exact hHeld
                clear hK K
                (try simp only [Act.put, List.setIfInBounds_toArray, List.set_cons_zero, List.set_cons_succ])
                (refine msg_take (i := 17) (d := some 54) (v := undef) rfl rfl (by kernel_rfl) (by kernel_rfl) (by kernel_rfl) (fun _ _ _ h => h) (Or.inr ⟨by rfl, rfl⟩) (by assumption) ?_); (try simp only [Act.put, List.setIfInBounds_toArray, List.set_cons_zero, List.set_cons_succ])
                (refine msg_take (i := 18) (d := some 55) (v := .bool true) rfl rfl (by kernel_rfl) (by kernel_rfl) (by kernel_rfl) (fun _ _ _ h => h) (Or.inl ⟨by rfl, ?hy⟩) (by assumption) ?_; (case hy => (intro w hSw; (try dsimp only at hSw); go_split_ands; go_simp; try (with_reducible rfl)))); (try simp only [Act.put, List.setIfInBounds_toArray, List.set_cons_zero, List.set_cons_succ])
                refine wpAnyH_done (by kernel_rfl) ?_ _
                go_wp2_with (fail)
                go_ret2
                exact ⟨rfl, below_drew1 HB5.out⟩
              · have d2 : decide (599 < v) = false := decide_eq_false h2
                rw [if_neg h2] at HH
                cases hq : ((msg_itoa v).toList != x.f1.toList) with
                | true =>
                  rw [hq, if_pos rfl] at HH
                  have hq' : ((msg_itoa v).toList == x.f1.toList) = false := by have h5 : (!((msg_itoa v).toList == x.f1.toList)) = true := hq; simpa using h5
                  clear hq
                  obtain ⟨rfl, rfl⟩ := Prod.mk.inj HH.out
                  first | (go_region_held3 (fun w' => w'.cell? ⟨ad.block, ad.off + 1, none⟩ = some (.string x.f1)) (first | go_keep | (refine Eq.trans (hz.cell ?_) ?_; rotate_left; assumption; exact World.block_lt_of_cell? _ _ (by assumption))) (first | (go_at_call 30; refine (msg_Itoa.calls v _ (by omega) (by omega) (by first | exact HT.out.below HB5.out | exact HT.out.below (below_drew1 HB5.out))).mono ?_; rintro e w1 ⟨rfl, hz⟩; have HB6 := Aside0.mk (show Below w.heap.size w w1 from by first | exact below_step HB5.out hz | exact below_step (below_drew1 HB5.out) hz)))) | fail "region"
                  all_goals (go_wp2_with (fail); go_ret2; exact ⟨rfl, HB6.out⟩)
                | false =>
                  rw [hq, if_neg Bool.false_ne_true] at HH
                  have hq' : ((msg_itoa v).toList == x.f1.toList) = true := by have h5 : (!((msg_itoa v).toList == x.f1.toList)) = false := hq; simpa using h5
                  clear hq
                  obtain ⟨rfl, rfl⟩ := Prod.mk.inj HH.out
                  first | (go_region_held3 (fun w' => w'.cell? ⟨ad.block, ad.off + 1, none⟩ = some (.string x.f1)) (first | go_keep | (refine Eq.trans (hz.cell ?_) ?_; rotate_left; assumption; exact World.block_lt_of_cell? _ _ (by assumption))) (first | (go_at_call 30; refine (msg_Itoa.calls v _ (by omega) (by omega) (by first | exact HT.out.below HB5.out | exact HT.out.below (below_drew1 HB5.out))).mono ?_; rintro e w1 ⟨rfl, hz⟩; have HB6 := Aside0.mk (show Below w.heap.size w w1 from by first | exact below_step HB5.out hz | exact below_step (below_drew1 HB5.out) hz)))) | fail "region"
                  all_goals (go_wp2_with (fail); go_ret2; exact ⟨rfl, HB6.out⟩)
      · have h := H.out
        rw [resp_more hL] at h
        obtain ⟨rfl, rfl⟩ := Prod.mk.inj (Option.some.inj h)
        have hl1 : ((L.length : Int) == 1) = false := beq_false_of_ne (by omega)
        have hl2 : ((L.length : Int) != 1) = true := by simp [bne, hl1]
        clear h H
        go_wp2_with (fail)
        go_ret2
        exact ⟨rfl, HB4.out⟩
end Go.Proofs.YtcgbpallpnaclaaGreatDoor.T
