/- A part of the walk of the laws of layer 22 (message): contracts of functions of the program, each walked once. -/
import Derived.Test.YtcgbpallpnaclaaDoorXLP2
import Derived.RangeFuncNested
import Derived.RangeFuncBound
import Derived.RangeFuncCalls
import Derived.RangeFuncLeaves
import Derived.RangeFuncBox
import Derived.OwnWalkIn
import Derived.TacticsInMore
import Derived.LoopNIn
import Derived.LoopIn
import Derived.Deep.DeepMust
import Derived.LoopN
import Derived.Laws.BitsAllLaws
import Derived.Maps.OwnIn
import Derived.Maps.Own
import Derived.Maps.OwnSet
import Derived.Maps.OwnOps
import Derived.Shelf.Abstract
import Derived.Sort.CutIn
import Derived.Shelf.RegionOpen
import Derived.StillTailTactics
import Derived.Outline
import Derived.Deep.RegionHeld3
import Derived.Laws.StructEq
import Derived.Laws.RangeAny
import Derived.Laws.EntriesVeiled
import Derived.WalkSpells
import Derived.Lib.SlBytesConst
import Derived.Lib.ItoaLen
import Derived.Deep.RegionLaw
import Derived.Deep.RegionWith
import Derived.ArgAppend
import Derived.Shelf.Strings.SlTrimAscii
import Derived.Shelf.Strings.IndexAnyAll
import Derived.Test.YtcgbpallpnaclaaDoorSh
import Derived.Test.YtcgbpallpnaclaaDoorWEqStruct
namespace Go.Proofs.YtcgbpallpnaclaaDoor.T
open Go.RowKit Go.Proofs.YtcgbpallpnaclaaDoorW.PrintWords Go.Proofs.YtcgbpallpnaclaaDoorW.PrintLast Go.Proofs.YtcgbpallpnaclaaDoorW.PrintMore
open Go.Proofs.YtcgbpallpnaclaaDoor.PMG
set_option linter.unusedVariables false
set_option linter.unusedSimpArgs false
/-! ### mailcoachlaw22.MessageLength -/
open Lib in
def ml_join (k : Nat) (s : ByteArray) : List UInt8 := (if k = 0 then [] else decDigits k) ++ s.data.toList
open Lib in
structure MlInv (n k : Nat) (s : ByteArray) : Prop where
  out : (k = n ∧ s = ⟨#[]⟩) ∨ (s.data.toList ≠ [] ∧ ml_join k s = decDigits n)
theorem ml_digit (k : Nat) : ((⟨#[48, 49, 50, 51, 52, 53, 54, 55, 56, 57]⟩ : ByteArray).data.toList.drop (k % 10)).take 1 = [UInt8.ofNat (48 + k % 10)] := by
  have h : ∀ i : Fin 10, ((⟨#[48, 49, 50, 51, 52, 53, 54, 55, 56, 57]⟩ : ByteArray).data.toList.drop i.val).take 1 = [UInt8.ofNat (48 + i.val)] := by decide +kernel
  exact h ⟨k % 10, Nat.mod_lt _ (by omega)⟩
open Lib in
theorem ml_step {n k : Nat} {s : ByteArray} (h : MlInv n k s) (hk : 0 < k ∨ s.data.toList = []) (s' : ByteArray) (hs : s'.data.toList = UInt8.ofNat (48 + k % 10) :: s.data.toList) : MlInv n (k / 10) s' := by
  have hd : ∀ m : Nat, ((if m / 10 = 0 then [] else decDigits (m / 10)) ++ [UInt8.ofNat (48 + m % 10)]) = decDigits m := by
    intro m
    conv => rhs; rw [decDigits]
    by_cases hm : m < 10
    · rw [dif_pos hm, if_pos (by omega), Nat.mod_eq_of_lt hm]; rfl
    · rw [dif_neg hm, if_neg (by omega)]
  refine ⟨.inr ⟨by rw [hs]; simp, ?_⟩⟩
  unfold ml_join
  rw [hs, show UInt8.ofNat (48 + k % 10) :: s.data.toList = [UInt8.ofNat (48 + k % 10)] ++ s.data.toList from rfl, ← List.append_assoc, hd]
  rcases h.out with ⟨rfl, rfl⟩ | ⟨h1, h2⟩
  · simp
  · have : 0 < k := by
      rcases hk with hk | hk
      · exact hk
      · exact absurd hk h1
    unfold ml_join at h2
    rw [if_neg (by omega)] at h2
    exact h2
open Lib in
theorem ml_end {n k : Nat} {s : ByteArray} (h : MlInv n k s) (hk : ¬ (0 < k)) (hs : s.data.toList ≠ []) : s.data.toList = decDigits n := by
  rcases h.out with ⟨rfl, rfl⟩ | ⟨h1, h2⟩
  · exact absurd rfl hs
  · unfold ml_join at h2
    rw [if_pos (by omega)] at h2
    exact h2
open Lib in
theorem ml_size {n k : Nat} {s : ByteArray} (h : MlInv n k s) (hn : n ≤ 4294967295) : s.data.toList.length ≤ 21 := by
  rcases h.out with ⟨rfl, rfl⟩ | ⟨h1, h2⟩
  · simp
  · have := congrArg List.length h2
    unfold ml_join at this
    rw [List.length_append] at this
    have h3 := itoa_length_le (n : Int) (by omega) (by omega)
    rw [itoa_nonneg] at h3
    omega
theorem ml_len (s : ByteArray) : s.size = s.data.toList.length := by cases s; simp [ByteArray.size]
def ml_next (k : Nat) (s : ByteArray) : ByteArray := (⟨#[48, 49, 50, 51, 52, 53, 54, 55, 56, 57]⟩ : ByteArray).extract (k % 10) (k % 10 + 1) ++ s
theorem ml_next_data (k : Nat) (s : ByteArray) : (ml_next k s).data.toList = UInt8.ofNat (48 + k % 10) :: s.data.toList := by
  have h1 : (ml_next k s).data.toList = ((⟨#[48, 49, 50, 51, 52, 53, 54, 55, 56, 57]⟩ : ByteArray).extract (k % 10) (k % 10 + 1)).data.toList ++ s.data.toList := by
    unfold ml_next
    simp
  rw [h1, Lib.extract_data, show k % 10 + 1 - k % 10 = 1 by omega, ml_digit]
  rfl
theorem ml_go {n k : Nat} {s : ByteArray} (h : MlInv n k s) (hk : 0 < k ∨ s.data.toList = []) : MlInv n (k / 10) (ml_next k s) ∧ (ml_next k s).data.toList ≠ [] :=
  ⟨ml_step h hk _ (ml_next_data k s), by rw [ml_next_data]; simp⟩
theorem ml_own {W : World} {base : Nat} {ok : Nat → Prop} {v : Value} {xs : List S45} (h : Kd.R k45 45 W base ok v xs) : ∀ k, k = W.heap.size → some k ≠ v.ownBlock := by
  intro k hk he
  obtain ⟨inner, ho⟩ := Kd.R_own h
  have := own_lt ho k he.symm
  omega
theorem ml_less {k : Nat} {s s' : ByteArray} (hs : s'.data.toList ≠ []) (hk : 0 < k ∨ s.data.toList = []) : ((k / 10 : Nat) : Int).toNat + (if s'.data.toList = [] then 1 else 0) < (k : Int).toNat + (if s.data.toList = [] then 1 else 0) := by
  rw [if_neg hs]
  rcases hk with hk | hk
  · omega
  · rw [if_pos hk]; omega
set_option maxHeartbeats 3200000 in
set_option maxRecDepth 100000 in
theorem mailcoachlaw22_MessageLength.calls (A0 : Option Addr) (c0 : Nat) (l0 : List Int) (n : Nat) (z : Bool) (w : World) (hr0 : Kd.C (Kd.int .u8) w A0 l0.length l0) (hc0 : l0.length ≤ c0) (hn : n ≤ 4294967295) (hT : MsgTab w) :
    Calls Tryd.prog 5 #[.slice A0 l0.length c0, .int .u32 n, .bool z] w fun e w' => e = .returned (.bool true) ∧ Below w.heap.size w w' := by
  have HR0 := Aside0.mk hr0
  have HT := Aside0.mk hT
  clear hr0 hT
  by_cases hl : 10000 < l0.length
  · go_enter Tryd.func5, Tryd.ntmps5
    go_wp2_with (go_at_call 11; refine (mailcoachlaw22_lives.calls w HT.out).mono ?_; rintro e w5 ⟨rfl, hb⟩)
    go_ret
    exact ⟨rfl, hb⟩
  go_enter Tryd.func5, Tryd.ntmps5
  go_wp2
  go_loopw [7, 8] (fun v7 v8 wr => ∃ (k : Nat) (s : ByteArray), k ≤ 4294967295 ∧ v7 = .string s ∧ v8 = .int .i64 k ∧ MlInv n k s ∧ Aside0 (Below w.heap.size w wr)) (fun v7 v8 _ => (intOf v8).toNat + (match v7 with | .string s => if s.data.toList = [] then 1 else 0 | _ => 0))
  case atStart => exact ⟨n, ⟨#[]⟩, hn, rfl, rfl, ⟨.inl ⟨rfl, rfl⟩⟩, ⟨Below.refl _ _⟩⟩
  case round =>
    obtain ⟨k, s, hk, rfl, rfl, HI, HB⟩ := hrel
    have hs21 := ml_size HI hn
    have hsz : s.size ≤ 21 := by rw [ml_len s]; exact hs21
    clear hs21
    by_cases hs0 : s.data.toList = []
    · obtain rfl : s = ⟨#[]⟩ := by rw [← strL_toList s, hs0]; rfl
      have HJ := Aside0.mk (ml_go HI (.inr rfl))
      clear HI hs0
      by_cases hk0 : k = 0
      · subst hk0
        go_wp2
        refine ⟨⟨0, _, by omega, rfl, rfl, HJ.out.1, HB⟩, ?_⟩
        exact ml_less (k := 0) (s := ⟨#[]⟩) HJ.out.2 (.inr rfl)
      · go_wp2
        refine ⟨⟨k / 10, _, by omega, rfl, congrArg _ (by omega), HJ.out.1, HB⟩, ?_⟩
        exact ml_less (s := ⟨#[]⟩) HJ.out.2 (.inr rfl)
    · have hse : s.toList.isEmpty = false := by rw [Lib.toList_data]; cases hh : s.data.toList with | nil => exact absurd hh hs0 | cons a b => rfl
      by_cases hk0 : 0 < k
      · have HJ := Aside0.mk (ml_go HI (.inl hk0))
        have HS0 := Aside0.mk hs0
        clear HI hs0
        go_wp2
        refine ⟨⟨k / 10, _, by omega, rfl, congrArg _ (by omega), HJ.out.1, HB⟩, ?_⟩
        exact ml_less HJ.out.2 (.inl hk0)
      · obtain rfl : k = 0 := by omega
        have HE := Aside0.mk (ml_end HI hk0 hs0)
        clear HI hs0
        cases z with
        | true =>
          have hlen : l0.length ≤ 10000 := by omega
          have hreq : message_Request.f (lv_get len_path ++ [len_field ((⟨#[48]⟩ : ByteArray) ++ s)]) l0 [] = some (14) := ml_req_true l0 HE.out hsz hlen
          have HQ := Aside0.mk hreq
          clear hreq
          by_cases hnl : n = l0.length
          · have hni : (n : Int) = (l0.length : Int) := by omega
            go_wp2_with (first | (go_at_call 18; refine (mailcoachlaw22_Get.calls len_path (lv_get len_path) [] [] _ rfl).mono ?_; rintro e w1 ⟨u0, u1, u2, rfl, ho0, ho1, ho2, hb⟩; obtain ⟨A1, c1, rfl⟩ := Kd.R_slice ho0; obtain ⟨A2, c2, rfl⟩ := Kd.R_slice ho1; obtain ⟨A3, c3, rfl⟩ := Kd.R_slice ho2; have HO1 := Aside0.mk (Kd.R_mono ho0 (ok' := fun _ => True) (fun _ _ => trivial)); have R2 := Aside0.mk (Kd.R_reads' ho1).2.2; have R3 := Aside0.mk (Kd.R_reads' ho2).2.2; have HBr := Aside0.mk hb; have HB1 := Aside0.mk (below_step HB.out hb); have HL := Aside0.mk (ml_own ho0); clear hb ho0 ho1 ho2) | ((with_reducible refine gate_builtin (b := .append) (xs := #[.tmp 38, .tmp 41]) rfl ?_); (try (refine gate_guard (by rfl) ?_; dsimp only)); at_builtin; go_must (refine Kd.R_append k45 (w0 := wr) wr.heap.size rfl (.tmp 38) (.tmp 41) 22 45 (.agg #[(.string ⟨#[]⟩), (.string ⟨#[]⟩)]) 32 rfl Tryd.underlying22 info45 rfl (by decide) (by omega) _ (lv_get len_path) (len_field ((⟨#[48]⟩ : ByteArray) ++ s)) [.string (len_field ((⟨#[48]⟩ : ByteArray) ++ s)).f0, .string (len_field ((⟨#[48]⟩ : ByteArray) ++ s)).f1] (fun _ => True) (fun _ => False) rfl (by rw [World.size_alloc]; rfl) ?aP (fun _ hk => hk.elim) (fun _ _ => trivial) (Kd.R_alloc HO1.out _) (below_alloc HBr.out _) (below_alloc HBr.out _).size (by decide) ?_; (case aP => exact k45_mkM _ _ _ (len_field ((⟨#[48]⟩ : ByteArray) ++ s))); intro v1 w2 ho hb hg hat; have BK2 := Aside0.mk ((hg.block w1.heap.size (by rw [World.size_alloc]; omega) (HL.out _ rfl)).trans (tok_block w1 _ _)); obtain ⟨A4, c4, rfl⟩ := Kd.R_slice ho; have HO4 := Aside0.mk ho; have hc4 := (Kd.R_reads' ho).2.1; have HB2 := Aside0.mk (below_step HB.out hb); have k0 : w2.cell? ⟨w1.heap.size, 0, none⟩ = some (.slice A1 (lv_get len_path).length c1) := (blk_cell BK2.out 0).trans rfl; have k1 : w2.cell? ⟨w1.heap.size, 1, none⟩ = some (.slice A2 0 c2) := (blk_cell BK2.out 1).trans rfl; have k2 : w2.cell? ⟨w1.heap.size, 2, none⟩ = some (.slice A3 0 c3) := (blk_cell BK2.out 2).trans rfl; have z0 := frozen_of_row w2 w1.heap.size 0 _ _ BK2.out; have z1 := frozen_of_row w2 w1.heap.size 1 _ _ BK2.out; have hz1 : w.heap.size ≤ w1.heap.size := HB1.out.size; clear ho hb hg hat)) | (go_at_call 15; refine (ml_request A0 c0 l0 A3 c3 A4 c4 (lv_get len_path ++ [len_field ((⟨#[48]⟩ : ByteArray) ++ s)]) w w2 wr.heap.size w1.heap.size _ 14 HO4.out hc4 BK2.out HB2.out hz1 HR0.out hc0 HT.out HQ.out _ _).mono ?_; rintro e w4 ⟨rfl, hb⟩; have HB4 := Aside0.mk hb; clear hb) | (go_at_call 11; refine (mailcoachlaw22_lives.calls w4 (HT.out.below HB4.out)).mono ?_; rintro e w5 ⟨rfl, hb⟩; have HB5 := Aside0.mk (below_step HB4.out hb); clear hb))
            go_ret
            exact ⟨rfl, HB5.out⟩
          · have hni : ¬ (n : Int) = (l0.length : Int) := by omega
            go_wp2_with (first | (go_at_call 18; refine (mailcoachlaw22_Get.calls len_path (lv_get len_path) [] [] _ rfl).mono ?_; rintro e w1 ⟨u0, u1, u2, rfl, ho0, ho1, ho2, hb⟩; obtain ⟨A1, c1, rfl⟩ := Kd.R_slice ho0; obtain ⟨A2, c2, rfl⟩ := Kd.R_slice ho1; obtain ⟨A3, c3, rfl⟩ := Kd.R_slice ho2; have HO1 := Aside0.mk (Kd.R_mono ho0 (ok' := fun _ => True) (fun _ _ => trivial)); have R2 := Aside0.mk (Kd.R_reads' ho1).2.2; have R3 := Aside0.mk (Kd.R_reads' ho2).2.2; have HBr := Aside0.mk hb; have HB1 := Aside0.mk (below_step HB.out hb); have HL := Aside0.mk (ml_own ho0); clear hb ho0 ho1 ho2) | ((with_reducible refine gate_builtin (b := .append) (xs := #[.tmp 38, .tmp 41]) rfl ?_); (try (refine gate_guard (by rfl) ?_; dsimp only)); at_builtin; go_must (refine Kd.R_append k45 (w0 := wr) wr.heap.size rfl (.tmp 38) (.tmp 41) 22 45 (.agg #[(.string ⟨#[]⟩), (.string ⟨#[]⟩)]) 32 rfl Tryd.underlying22 info45 rfl (by decide) (by omega) _ (lv_get len_path) (len_field ((⟨#[48]⟩ : ByteArray) ++ s)) [.string (len_field ((⟨#[48]⟩ : ByteArray) ++ s)).f0, .string (len_field ((⟨#[48]⟩ : ByteArray) ++ s)).f1] (fun _ => True) (fun _ => False) rfl (by rw [World.size_alloc]; rfl) ?aP (fun _ hk => hk.elim) (fun _ _ => trivial) (Kd.R_alloc HO1.out _) (below_alloc HBr.out _) (below_alloc HBr.out _).size (by decide) ?_; (case aP => exact k45_mkM _ _ _ (len_field ((⟨#[48]⟩ : ByteArray) ++ s))); intro v1 w2 ho hb hg hat; have BK2 := Aside0.mk ((hg.block w1.heap.size (by rw [World.size_alloc]; omega) (HL.out _ rfl)).trans (tok_block w1 _ _)); obtain ⟨A4, c4, rfl⟩ := Kd.R_slice ho; have HO4 := Aside0.mk ho; have hc4 := (Kd.R_reads' ho).2.1; have HB2 := Aside0.mk (below_step HB.out hb); have k0 : w2.cell? ⟨w1.heap.size, 0, none⟩ = some (.slice A1 (lv_get len_path).length c1) := (blk_cell BK2.out 0).trans rfl; have k1 : w2.cell? ⟨w1.heap.size, 1, none⟩ = some (.slice A2 0 c2) := (blk_cell BK2.out 1).trans rfl; have k2 : w2.cell? ⟨w1.heap.size, 2, none⟩ = some (.slice A3 0 c3) := (blk_cell BK2.out 2).trans rfl; have z0 := frozen_of_row w2 w1.heap.size 0 _ _ BK2.out; have z1 := frozen_of_row w2 w1.heap.size 1 _ _ BK2.out; have hz1 : w.heap.size ≤ w1.heap.size := HB1.out.size; clear ho hb hg hat)) | (go_at_call 15; refine (ml_request A0 c0 l0 A3 c3 A4 c4 (lv_get len_path ++ [len_field ((⟨#[48]⟩ : ByteArray) ++ s)]) w w2 wr.heap.size w1.heap.size _ 14 HO4.out hc4 BK2.out HB2.out hz1 HR0.out hc0 HT.out HQ.out _ _).mono ?_; rintro e w4 ⟨rfl, hb⟩; have HB4 := Aside0.mk hb; clear hb) | (go_at_call 11; refine (mailcoachlaw22_lives.calls w4 (HT.out.below HB4.out)).mono ?_; rintro e w5 ⟨rfl, hb⟩; have HB5 := Aside0.mk (below_step HB4.out hb); clear hb))
            go_ret
            exact ⟨rfl, HB5.out⟩
        | false =>
          have hlen : l0.length ≤ 10000 := by omega
          have hreq : message_Request.f (lv_get len_path ++ [len_field s]) l0 [] = some (if n = l0.length then 0 else 14) := ml_req_false l0 HE.out hsz hlen
          have HQ := Aside0.mk hreq
          clear hreq
          by_cases hnl : n = l0.length
          · have hni : (n : Int) = (l0.length : Int) := by omega
            go_wp2_with (first | (go_at_call 18; refine (mailcoachlaw22_Get.calls len_path (lv_get len_path) [] [] _ rfl).mono ?_; rintro e w1 ⟨u0, u1, u2, rfl, ho0, ho1, ho2, hb⟩; obtain ⟨A1, c1, rfl⟩ := Kd.R_slice ho0; obtain ⟨A2, c2, rfl⟩ := Kd.R_slice ho1; obtain ⟨A3, c3, rfl⟩ := Kd.R_slice ho2; have HO1 := Aside0.mk (Kd.R_mono ho0 (ok' := fun _ => True) (fun _ _ => trivial)); have R2 := Aside0.mk (Kd.R_reads' ho1).2.2; have R3 := Aside0.mk (Kd.R_reads' ho2).2.2; have HBr := Aside0.mk hb; have HB1 := Aside0.mk (below_step HB.out hb); have HL := Aside0.mk (ml_own ho0); clear hb ho0 ho1 ho2) | ((with_reducible refine gate_builtin (b := .append) (xs := #[.tmp 38, .tmp 41]) rfl ?_); (try (refine gate_guard (by rfl) ?_; dsimp only)); at_builtin; go_must (refine Kd.R_append k45 (w0 := wr) wr.heap.size rfl (.tmp 38) (.tmp 41) 22 45 (.agg #[(.string ⟨#[]⟩), (.string ⟨#[]⟩)]) 32 rfl Tryd.underlying22 info45 rfl (by decide) (by omega) _ (lv_get len_path) (len_field s) [.string (len_field s).f0, .string (len_field s).f1] (fun _ => True) (fun _ => False) rfl (by rw [World.size_alloc]; rfl) ?aP (fun _ hk => hk.elim) (fun _ _ => trivial) (Kd.R_alloc HO1.out _) (below_alloc HBr.out _) (below_alloc HBr.out _).size (by decide) ?_; (case aP => exact k45_mkM _ _ _ (len_field s)); intro v1 w2 ho hb hg hat; have BK2 := Aside0.mk ((hg.block w1.heap.size (by rw [World.size_alloc]; omega) (HL.out _ rfl)).trans (tok_block w1 _ _)); obtain ⟨A4, c4, rfl⟩ := Kd.R_slice ho; have HO4 := Aside0.mk ho; have hc4 := (Kd.R_reads' ho).2.1; have HB2 := Aside0.mk (below_step HB.out hb); have k0 : w2.cell? ⟨w1.heap.size, 0, none⟩ = some (.slice A1 (lv_get len_path).length c1) := (blk_cell BK2.out 0).trans rfl; have k1 : w2.cell? ⟨w1.heap.size, 1, none⟩ = some (.slice A2 0 c2) := (blk_cell BK2.out 1).trans rfl; have k2 : w2.cell? ⟨w1.heap.size, 2, none⟩ = some (.slice A3 0 c3) := (blk_cell BK2.out 2).trans rfl; have z0 := frozen_of_row w2 w1.heap.size 0 _ _ BK2.out; have z1 := frozen_of_row w2 w1.heap.size 1 _ _ BK2.out; have hz1 : w.heap.size ≤ w1.heap.size := HB1.out.size; clear ho hb hg hat)) | (go_at_call 15; refine (ml_request A0 c0 l0 A3 c3 A4 c4 (lv_get len_path ++ [len_field s]) w w2 wr.heap.size w1.heap.size _ 0 HO4.out hc4 BK2.out HB2.out hz1 HR0.out hc0 HT.out (by rw [HQ.out, if_pos hnl]) _ _).mono ?_; rintro e w4 ⟨rfl, hb⟩; have HB4 := Aside0.mk hb; clear hb) | (go_at_call 11; refine (mailcoachlaw22_lives.calls w4 (HT.out.below HB4.out)).mono ?_; rintro e w5 ⟨rfl, hb⟩; have HB5 := Aside0.mk (below_step HB4.out hb); clear hb))
            go_ret
            exact ⟨rfl, HB5.out⟩
          · have hni : ¬ (n : Int) = (l0.length : Int) := by omega
            go_wp2_with (first | (go_at_call 18; refine (mailcoachlaw22_Get.calls len_path (lv_get len_path) [] [] _ rfl).mono ?_; rintro e w1 ⟨u0, u1, u2, rfl, ho0, ho1, ho2, hb⟩; obtain ⟨A1, c1, rfl⟩ := Kd.R_slice ho0; obtain ⟨A2, c2, rfl⟩ := Kd.R_slice ho1; obtain ⟨A3, c3, rfl⟩ := Kd.R_slice ho2; have HO1 := Aside0.mk (Kd.R_mono ho0 (ok' := fun _ => True) (fun _ _ => trivial)); have R2 := Aside0.mk (Kd.R_reads' ho1).2.2; have R3 := Aside0.mk (Kd.R_reads' ho2).2.2; have HBr := Aside0.mk hb; have HB1 := Aside0.mk (below_step HB.out hb); have HL := Aside0.mk (ml_own ho0); clear hb ho0 ho1 ho2) | ((with_reducible refine gate_builtin (b := .append) (xs := #[.tmp 38, .tmp 41]) rfl ?_); (try (refine gate_guard (by rfl) ?_; dsimp only)); at_builtin; go_must (refine Kd.R_append k45 (w0 := wr) wr.heap.size rfl (.tmp 38) (.tmp 41) 22 45 (.agg #[(.string ⟨#[]⟩), (.string ⟨#[]⟩)]) 32 rfl Tryd.underlying22 info45 rfl (by decide) (by omega) _ (lv_get len_path) (len_field s) [.string (len_field s).f0, .string (len_field s).f1] (fun _ => True) (fun _ => False) rfl (by rw [World.size_alloc]; rfl) ?aP (fun _ hk => hk.elim) (fun _ _ => trivial) (Kd.R_alloc HO1.out _) (below_alloc HBr.out _) (below_alloc HBr.out _).size (by decide) ?_; (case aP => exact k45_mkM _ _ _ (len_field s)); intro v1 w2 ho hb hg hat; have BK2 := Aside0.mk ((hg.block w1.heap.size (by rw [World.size_alloc]; omega) (HL.out _ rfl)).trans (tok_block w1 _ _)); obtain ⟨A4, c4, rfl⟩ := Kd.R_slice ho; have HO4 := Aside0.mk ho; have hc4 := (Kd.R_reads' ho).2.1; have HB2 := Aside0.mk (below_step HB.out hb); have k0 : w2.cell? ⟨w1.heap.size, 0, none⟩ = some (.slice A1 (lv_get len_path).length c1) := (blk_cell BK2.out 0).trans rfl; have k1 : w2.cell? ⟨w1.heap.size, 1, none⟩ = some (.slice A2 0 c2) := (blk_cell BK2.out 1).trans rfl; have k2 : w2.cell? ⟨w1.heap.size, 2, none⟩ = some (.slice A3 0 c3) := (blk_cell BK2.out 2).trans rfl; have z0 := frozen_of_row w2 w1.heap.size 0 _ _ BK2.out; have z1 := frozen_of_row w2 w1.heap.size 1 _ _ BK2.out; have hz1 : w.heap.size ≤ w1.heap.size := HB1.out.size; clear ho hb hg hat)) | (go_at_call 15; refine (ml_request A0 c0 l0 A3 c3 A4 c4 (lv_get len_path ++ [len_field s]) w w2 wr.heap.size w1.heap.size _ 14 HO4.out hc4 BK2.out HB2.out hz1 HR0.out hc0 HT.out (by rw [HQ.out, if_neg hnl]) _ _).mono ?_; rintro e w4 ⟨rfl, hb⟩; have HB4 := Aside0.mk hb; clear hb) | (go_at_call 11; refine (mailcoachlaw22_lives.calls w4 (HT.out.below HB4.out)).mono ?_; rintro e w5 ⟨rfl, hb⟩; have HB5 := Aside0.mk (below_step HB4.out hb); clear hb))
            go_ret
            exact ⟨rfl, HB5.out⟩
end Go.Proofs.YtcgbpallpnaclaaDoor.T
