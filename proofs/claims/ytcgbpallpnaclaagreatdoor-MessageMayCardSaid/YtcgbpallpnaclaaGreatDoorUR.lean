/- A part of the walk of the laws of layer 22 (message): contracts of functions of the program, each walked once. -/
import Derived.Test.YtcgbpallpnaclaaGreatDoorUZ
import Derived.Test.YtcgbpallpnaclaaGreatDoorPMWx3
import Derived.RangeFuncNested
import Derived.RangeFuncBound
import Derived.RangeFuncCalls
import Derived.RangeFuncLeaves
import Derived.RangeFuncBox
import Derived.OwnWalkIn
import Derived.TacticsInMore
import Derived.LoopNIn
import Derived.LoopIn
import Derived.Deep.DeepMust
import Derived.LoopN
import Derived.Laws.BitsAllLaws
import Derived.Maps.OwnIn
import Derived.Maps.Own
import Derived.Maps.OwnSet
import Derived.Maps.OwnOps
import Derived.Shelf.Abstract
import Derived.Sort.CutIn
import Derived.Shelf.RegionOpen
import Derived.StillTailTactics
import Derived.Outline
import Derived.Deep.RegionHeld3
import Derived.Laws.StructEq
import Derived.Laws.RangeAny
import Derived.Laws.EntriesVeiled
import Derived.WalkSpells
import Derived.Lib.SlBytesConst
import Derived.Deep.RegionLaw
import Derived.Deep.RegionWith
import Derived.ArgAppend
import Derived.Shelf.Strings.SlTrimAscii
import Derived.Shelf.Strings.IndexAnyAll
import Derived.Test.YtcgbpallpnaclaaGreatDoorSh
import Derived.Test.YtcgbpallpnaclaaGreatDoorWEqStruct
namespace Go.Proofs.YtcgbpallpnaclaaGreatDoor.T
open Go.RowKit Go.Proofs.YtcgbpallpnaclaaGreatDoorW.PrintWords Go.Proofs.YtcgbpallpnaclaaGreatDoorW.PrintLast Go.Proofs.YtcgbpallpnaclaaGreatDoorW.PrintMore
open Go.Proofs.YtcgbpallpnaclaaGreatDoor.PMW
set_option linter.unusedVariables false
set_option linter.unusedSimpArgs false
/-! ### message.Request (made by wip/gen_req.py) -/
def req_key (x : S62) : List UInt8 := x.f0.data.toList
def req_cnt (k : List UInt8) (L : List S62) : Nat := (L.map req_key).count k
def req_m : List UInt8 := [58, 109, 101, 116, 104, 111, 100]
def req_s : List UInt8 := [58, 115, 99, 104, 101, 109, 101]
def req_p : List UInt8 := [58, 112, 97, 116, 104]
def req_a : List UInt8 := [58, 97, 117, 116, 104, 111, 114, 105, 116, 121]
def req_get (k : List UInt8) (L : List S62) : ByteArray := match L.find? (get_hit ⟨k.toArray⟩) with | some x => x.f1 | none => ⟨#[]⟩
def slashB (s : ByteArray) : Bool := match s.data.toList with | [] => false | b :: _ => b == 47
theorem slash_prefix (s : ByteArray) : strings_HasPrefix.f s ⟨#[47]⟩ = some (slashB s) := by
  unfold strings_HasPrefix.f stringslite_HasPrefix.f
  have h1 : ((⟨#[47]⟩ : ByteArray).size : Int) = 1 := rfl
  have hs : s.size = s.data.toList.length := Lib.size_eq s
  rw [h1]
  cases h : s.data.toList with
  | nil =>
    rw [h] at hs
    have h2 : slashB s = false := by unfold slashB; rw [h]
    rw [if_neg (by rw [hs]; simp), h2]; rfl
  | cons b r =>
    rw [h, List.length_cons] at hs
    have h2 : slashB s = (b == 47) := by unfold slashB; rw [h]
    rw [if_pos (by omega), if_pos (by omega), if_pos (by omega), h2]
    have e : (s.extract 0 ((1 : Int)).toNat).toList = [b] := by
      rw [Lib.toList_data, Lib.extract_data, h]; rfl
    have e2 : (⟨#[47]⟩ : ByteArray).toList = [47] := by rw [Lib.toList_data]
    rw [e, e2, Option.bind_some]
    simp
def req_of (L : List S62) (ok : Bool) : Int :=
  if ok = false then 14 else if req_cnt req_m L ≠ 1 then 14 else if req_cnt req_s L ≠ 1 then 14 else if req_cnt req_p L ≠ 1 then 14 else if 1 < req_cnt req_a L then 14 else if L.length ≠ 3 + req_cnt req_a L then 14 else
  if tokB (req_get req_m L) true = false then 14 else if (req_get req_s L).toList = [] then 14 else
  if slashB (req_get req_p L) = true then 0 else if (req_get req_p L).toList ≠ [42] then 14 else if (req_get req_m L).toList ≠ [79, 80, 84, 73, 79, 78, 83] then 14 else 0
def message_Request.f (l0 : List S62) (l1 : List Int) (l2 : List S62) : Option Int :=
  (message_great.f l0 l1 l2).bind fun g => if g = true then some 3 else (message_marks.f l0 l1 l2).bind fun p => if p.1.all (fun x => decide (x.f0.size ≤ 4294967280)) = true ∧ p.1.length ≤ 1000000 then some (req_of p.1 p.2) else none
/-! the map of how often a name was seen -/
section
open Go.WideMaps Go.Maps
def Seen (w : World) (b : Nat) (L : List S62) : Prop := ∃ D : DataW Unit, w.ownsMap Tryz.prog 9 (plainElem Tryz.prog 3) b L.length D ∧ ∀ k : List UInt8, D.atKey (.string k) (.lit (.int .i64 0)) = .lit (.int .i64 (req_cnt k L : Int))
def data_int : DataW Unit → Int
  | .lit (.int _ z) => z
  | _ => 0
def lit_str : Lit → List UInt8
  | .string s => s
  | _ => []
theorem seen_law : Keyed Tryz.prog 9 := string_keyed Tryz.underlying9
theorem seen_zero (w : World) : (zeroValue 3).run Tryz.prog w = .ok (.int .i64 0) w := by kernel_rfl
theorem seen_made (w : World) : Seen (w.alloc (.map #[] 0)) w.heap.size [] := ⟨_, World.ownsMap_made _ _ _ _, fun k => rfl⟩
theorem Seen.kept {w w' : World} {b : Nat} {L : List S62} (h : Seen w b L) (hb : Below w.heap.size w w') : Seen w' b L := by
  obtain ⟨D, ho, ha⟩ := h
  exact ⟨D, ho.kept (row := none) ⟨hb.os, hb.tape, hb.output, hb.size, fun i hi _ => hb.block i hi⟩ (by simp), ha⟩
theorem Seen.look {w : World} {b : Nat} {L : List S62} (h : Seen w b L) (s : ByteArray) (hs : s.size ≤ 4294967280) : (Instr.lookup 74 (.map (some b)) (.string s) false).run Tryz.prog w = .ok (.int .i64 (req_cnt s.data.toList L : Int)) w := by
  obtain ⟨D, ho, ha⟩ := h
  have hkey : keyOf Tryz.prog 9 (.string s) = some (.string s.data.toList) := keyOf_string_mk Tryz.underlying9 (by unfold maxLen; omega)
  obtain ⟨c, hrun, hat, _⟩ := ho.lookup_int seen_law Tryz.underlying74 Tryz.underlying3 (seen_zero _) hkey
  rw [ha] at hat
  have h2 : (req_cnt s.data.toList L : Int) = c := congrArg data_int hat
  rw [h2]
  exact hrun
theorem req_cnt_snoc (k : List UInt8) (L : List S62) (x : S62) : req_cnt k (L ++ [x]) = req_cnt k L + (if req_key x = k then 1 else 0) := by
  unfold req_cnt
  rw [List.map_append, List.count_append, List.map_cons, List.map_nil, List.count_singleton]
  by_cases h : req_key x = k
  · simp [h]
  · simp [h]
theorem Seen.put {w : World} {b : Nat} {L : List S62} (h : Seen w b L) (x : S62) (hs : x.f0.size ≤ 4294967280) (hL : L.length ≤ 1000000) :
    ∃ w', (Instr.mapUpdate 74 (.map (some b)) (.string x.f0) (.int .i64 ((req_cnt x.f0.data.toList L : Int) + 1))).run Tryz.prog w = .ok () w' ∧ Seen w' b (L ++ [x]) ∧ w.grownBy w' (some b) := by
  obtain ⟨D, ho, ha⟩ := h
  have hkey : keyOf Tryz.prog 9 (.string x.f0) = some (.string x.f0.data.toList) := keyOf_string_mk Tryz.underlying9 (by unfold maxLen; omega)
  have hc : req_cnt x.f0.data.toList L ≤ L.length := by unfold req_cnt; have := List.count_le_length (a := x.f0.data.toList) (l := L.map req_key); rwa [List.length_map] at this
  have hwf : (Lit.int .i64 ((req_cnt x.f0.data.toList L : Int) + 1)).wf = true := WalkArith.wf_i64 (by omega)
  obtain ⟨w', hrun, ho', hg⟩ := ho.update seen_law Tryz.underlying74 (by unfold maxLen; omega) hkey (plainElem_int (H := Unit) Tryz.underlying3 hwf)
  refine ⟨w', hrun, ⟨_, by rw [List.length_append]; exact ho', fun k => ?_⟩, hg⟩
  obtain ⟨es, hes⟩ : IsMap D := by
    obtain ⟨es, clock, _, _, _, rfl⟩ := ho
    exact ⟨_, rfl⟩
  rw [req_cnt_snoc]
  by_cases he : req_key x = k
  · subst he
    rw [if_pos rfl]
    rw [show req_key x = x.f0.data.toList from rfl, atKey_put_same ⟨es, hes⟩ (show WideAt.IsKeyLit (.string x.f0.data.toList) from trivial)]
    simp
  · rw [if_neg he, Nat.add_zero, ← ha k]
    exact atKey_put_other (fun e : Lit.string k = Lit.string x.f0.data.toList => he (show req_key x = k from (congrArg lit_str e).symm)) _ _
end
set_option maxHeartbeats 6400000 in
set_option maxRecDepth 100000 in
theorem message_Request.calls (A0_0 : Option Addr) (c0_0 : Nat) (l0_0 : List S62) (A0_1 : Option Addr) (c0_1 : Nat) (l0_1 : List Int) (A0_2 : Option Addr) (c0_2 : Nat) (l0_2 : List S62) (r : Int) (w : World) (hr0_0 : Kd.C k62 w A0_0 l0_0.length l0_0) (hc0_0 : l0_0.length ≤ c0_0) (hr0_1 : Kd.C (Kd.int .u8) w A0_1 l0_1.length l0_1) (hc0_1 : l0_1.length ≤ c0_1) (hr0_2 : Kd.C k62 w A0_2 l0_2.length l0_2) (hc0_2 : l0_2.length ≤ c0_2) (hT : MsgTab w) (h : message_Request.f l0_0 l0_1 l0_2 = some r) :
    Calls Tryz.prog 10 #[.agg #[.slice A0_0 l0_0.length c0_0, .slice A0_1 l0_1.length c0_1, .slice A0_2 l0_2.length c0_2]] w fun e w' => e = .returned (.int .i64 r) ∧ Below w.heap.size w w' := by
  unfold message_Request.f at h
  obtain ⟨g, hg, h⟩ := Option.bind_eq_some_iff.mp h
  have HG := Aside0.mk hg
  have HR0 := Aside0.mk hr0_0
  have HR1 := Aside0.mk hr0_1
  have HR2 := Aside0.mk hr0_2
  have HT := Aside0.mk hT
  clear hg hr0_0 hr0_1 hr0_2 hT
  obtain ⟨W0, hW0⟩ : ∃ W0, w.alloc (.cells #[.slice A0_0 l0_0.length c0_0, .slice A0_1 l0_1.length c0_1, .slice A0_2 l0_2.length c0_2] 25) = W0 := ⟨_, rfl⟩
  have BK := Aside0.mk (show W0.heap[w.heap.size]? = some (.cells #[.slice A0_0 l0_0.length c0_0, .slice A0_1 l0_1.length c0_1, .slice A0_2 l0_2.length c0_2] 25 (0, 0)) by rw [← hW0]; exact tok_block _ _ _)
  have HB := Aside0.mk (show Below w.heap.size w W0 by rw [← hW0]; exact below_alloc (Below.refl _ _) _)
  have k0 : W0.cell? ⟨w.heap.size, 0, none⟩ = some (.slice A0_0 l0_0.length c0_0) := (blk_cell BK.out 0).trans rfl
  have k1 : W0.cell? ⟨w.heap.size, 1, none⟩ = some (.slice A0_1 l0_1.length c0_1) := (blk_cell BK.out 1).trans rfl
  have k2 : W0.cell? ⟨w.heap.size, 2, none⟩ = some (.slice A0_2 l0_2.length c0_2) := (blk_cell BK.out 2).trans rfl
  go_enter Tryz.func10, Tryz.ntmps10
  cases g with
  | true =>
    rw [if_pos rfl] at h
    obtain rfl := Option.some.inj h
    clear h
    go_wp2_with (first | (go_at_call 27; (with_reducible refine (message_great.calls A0_0 c0_0 l0_0 A0_1 c0_1 l0_1 A0_2 c0_2 l0_2 _ _ (Kd.C_below HR0.out HB.out) hc0_0 (Kd.C_below HR1.out HB.out) hc0_1 (Kd.C_below HR2.out HB.out) hc0_2 HG.out).mono ?_); rintro e w3 ⟨rfl, hb⟩; have HB3 := Aside0.mk (below_step HB.out hb); clear hb))
    go_ret
    exact ⟨rfl, HB3.out⟩
  | false =>
    rw [if_neg Bool.false_ne_true] at h
    obtain ⟨⟨L, ok⟩, hm, h⟩ := Option.bind_eq_some_iff.mp h
    have hsz : L.all (fun x => decide (x.f0.size ≤ 4294967280)) = true ∧ L.length ≤ 1000000 := by
      by_cases hh : L.all (fun x => decide (x.f0.size ≤ 4294967280)) = true ∧ L.length ≤ 1000000
      · exact hh
      · have h' : (if L.all (fun x => decide (x.f0.size ≤ 4294967280)) = true ∧ L.length ≤ 1000000 then some (req_of L ok) else none) = some r := h
        rw [if_neg hh] at h'; cases h'
    have h' : (if L.all (fun x => decide (x.f0.size ≤ 4294967280)) = true ∧ L.length ≤ 1000000 then some (req_of L ok) else none) = some r := h
    rw [if_pos hsz] at h'
    have HM := Aside0.mk hm
    have H := Aside0.mk (Option.some.inj h')
    have HSZ := Aside0.mk hsz
    have hLm : L.length ≤ 1000000 := hsz.2
    clear hm h h' hsz
    have hmm := @run_makeMap Tryz.prog
    go_wp2_with (first | (go_at_call 27; (with_reducible refine (message_great.calls A0_0 c0_0 l0_0 A0_1 c0_1 l0_1 A0_2 c0_2 l0_2 _ _ (Kd.C_below HR0.out HB.out) hc0_0 (Kd.C_below HR1.out HB.out) hc0_1 (Kd.C_below HR2.out HB.out) hc0_2 HG.out).mono ?_); rintro e w3 ⟨rfl, hb⟩; have HB3 := Aside0.mk (below_step HB.out hb); have k0n := pw_cell_below hb k0; have k1n := pw_cell_below hb k1; have k2n := pw_cell_below hb k2; clear hb) | (go_at_call 28; (with_reducible refine (message_marks.calls A0_0 c0_0 l0_0 A0_1 c0_1 l0_1 A0_2 c0_2 l0_2 _ _ _ (Kd.C_below HR0.out HB3.out) hc0_0 (Kd.C_below HR1.out HB3.out) hc0_1 (Kd.C_below HR2.out HB3.out) hc0_2 (HT.out.below HB3.out) HM.out).mono ?_); rintro e w4 ⟨⟨A4, c4, rfl, hC4, hc4⟩, hb⟩; have HC4 := Aside0.mk hC4; have HB4 := Aside0.mk (below_step HB3.out hb); clear hb hC4))
    clear hW0 k0 k1 k2 k0n k1n k2n hmm
    go_loopw [24] (fun v24 wr => ∃ j : Nat, j ≤ L.length ∧ v24 = .int .i64 j ∧ Aside0 (Seen wr w4.heap.size (L.take j)) ∧ Aside0 (Below w4.heap.size w4 wr)) (fun v24 _ => L.length - (intOf v24).toNat)
    case atStart => exact ⟨0, by omega, rfl, ⟨seen_made w4⟩, ⟨below_alloc (Below.refl _ _) _⟩⟩
    case round =>
      obtain ⟨j, hj, rfl, HS, HB5⟩ := hrel
      by_cases hlt : j < L.length
      · have HC := Aside0.mk (Kd.C_below HC4.out HB5.out)
        obtain ⟨ad, hA, x0, x1⟩ := at_T62 HC.out (j : Int) (by omega) (by omega)
        rw [Int.toNat_natCast] at x0 x1
        have hmem : rd_T62 L (j : Int) = L[j] := by simp [rd_T62, List.getD_eq_getElem?_getD, List.getElem?_eq_getElem hlt]
        have hx0 : L[j].f0.size ≤ 4294967280 := of_decide_eq_true (List.all_eq_true.1 HSZ.out.1 L[j] (List.getElem_mem hlt))
        have htk : L.take (j + 1) = L.take j ++ [L[j]] := by rw [List.take_add_one, List.getElem?_eq_getElem hlt]; rfl
        rw [hmem] at x0 x1
        obtain ⟨x, hx⟩ : ∃ x, L[j] = x := ⟨_, rfl⟩
        rw [hx] at x0 x1 hx0 htk
        obtain ⟨W, hW⟩ : ∃ W, wr.alloc (.cells #[.string x.f0, .string x.f1] 62) = W := ⟨_, rfl⟩
        have hbW : Below wr.heap.size wr W := by rw [← hW]; exact below_alloc (Below.refl _ _) _
        have HS2 := HS.out.kept hbW
        have hlook := HS2.look x.f0 hx0
        obtain ⟨w9, hup, hs9, hg9⟩ := HS2.put x hx0 (by rw [List.length_take]; omega)
        have hcc : req_cnt x.f0.data.toList (L.take j) ≤ 1000000 := by
          have h1 := List.count_le_length (a := x.f0.data.toList) (l := (L.take j).map req_key)
          rw [List.length_map, List.length_take] at h1
          unfold req_cnt
          omega
        obtain ⟨C, hC⟩ : ∃ C : Int, (req_cnt x.f0.data.toList (L.take j) : Int) = C := ⟨_, rfl⟩
        have hcw : wrap64 (C + 1) = C + 1 := by unfold wrap64; omega
        rw [hC] at hlook hup
        have d0 : W.cell? ⟨wr.heap.size, 0, none⟩ = some (.string x.f0) := by rw [← hW]; exact (blk_cell (tok_block _ _ _) 0).trans rfl
        have HS9 := Aside0.mk hs9
        have HB9 := Aside0.mk (show Below w4.heap.size w4 w9 from (below_step HB5.out hbW).grown hg9 (Nat.le_trans HB5.out.size hbW.size) (fun k hk => by cases hk; exact Nat.le_refl _))
        have HLT := Aside0.mk hlt
        have HTK := Aside0.mk htk
        have hlt2 : (j : Int) < (L.length : Int) := by omega
        subst hA
        clear hbW HS2 hs9 hg9 hC hcc hx hx0 htk hmem hlt
        go_wp2
        go_roundw
        case rel => exact ⟨j + 1, HLT.out, by go_num, ⟨by rw [HTK.out]; exact HS9.out⟩, HB9⟩
        case measure => have := HLT.out; simp [intOf]; omega
      · obtain rfl : j = L.length := by omega
        have hlt2 : decide ((L.length : Int) < (L.length : Int)) = false := decide_eq_false (by omega)
        rw [List.take_length] at HS
        have hg1 : message_Get.f L ⟨#[58, 109, 101, 116, 104, 111, 100]⟩ = some (req_get req_m L, (L.find? (get_hit ⟨#[58, 109, 101, 116, 104, 111, 100]⟩)).isSome) := by
          unfold message_Get.f req_get req_m
          cases L.find? (get_hit ⟨#[58, 109, 101, 116, 104, 111, 100]⟩) <;> rfl
        have hg2 : message_Get.f L ⟨#[58, 115, 99, 104, 101, 109, 101]⟩ = some (req_get req_s L, (L.find? (get_hit ⟨#[58, 115, 99, 104, 101, 109, 101]⟩)).isSome) := by
          unfold message_Get.f req_get req_s
          cases L.find? (get_hit ⟨#[58, 115, 99, 104, 101, 109, 101]⟩) <;> rfl
        have hg3 : message_Get.f L ⟨#[58, 112, 97, 116, 104]⟩ = some (req_get req_p L, (L.find? (get_hit ⟨#[58, 112, 97, 116, 104]⟩)).isSome) := by
          unfold message_Get.f req_get req_p
          cases L.find? (get_hit ⟨#[58, 112, 97, 116, 104]⟩) <;> rfl
        have H1 := H.out
        unfold req_of at H1
        obtain ⟨v1, hv1⟩ : ∃ v, req_get req_m L = v := ⟨_, rfl⟩
        obtain ⟨b1, hb1⟩ : ∃ b, (L.find? (get_hit ⟨#[58, 109, 101, 116, 104, 111, 100]⟩)).isSome = b := ⟨_, rfl⟩
        rw [hv1, hb1] at hg1
        rw [hv1] at H1
        have HG1 := Aside0.mk hg1
        clear hg1 hb1 hv1
        obtain ⟨v2, hv2⟩ : ∃ v, req_get req_s L = v := ⟨_, rfl⟩
        obtain ⟨b2, hb2⟩ : ∃ b, (L.find? (get_hit ⟨#[58, 115, 99, 104, 101, 109, 101]⟩)).isSome = b := ⟨_, rfl⟩
        rw [hv2, hb2] at hg2
        rw [hv2] at H1
        have HG2 := Aside0.mk hg2
        clear hg2 hb2 hv2
        obtain ⟨v3, hv3⟩ : ∃ v, req_get req_p L = v := ⟨_, rfl⟩
        obtain ⟨b3, hb3⟩ : ∃ b, (L.find? (get_hit ⟨#[58, 112, 97, 116, 104]⟩)).isSome = b := ⟨_, rfl⟩
        rw [hv3, hb3] at hg3
        rw [hv3] at H1
        have HG3 := Aside0.mk hg3
        clear hg3 hb3 hv3
        clear H
        go_upto_region 13 with (first | (go_at_call 34; (with_reducible refine (message_Get.calls A4 c4 L ⟨#[58, 109, 101, 116, 104, 111, 100]⟩ v1 b1 _ (Kd.C_below HC4.out HB5.out) hc4 HG1.out).mono ?_); rintro e q1 ⟨rfl, hb⟩; have HB51 := Aside0.mk (below_step HB5.out hb); have HW1 := Aside0.mk (hb); clear hb) | (go_at_call 34; (with_reducible refine (message_Get.calls A4 c4 L ⟨#[58, 115, 99, 104, 101, 109, 101]⟩ v2 b2 _ (Kd.C_below HC4.out HB51.out) hc4 HG2.out).mono ?_); rintro e q2 ⟨rfl, hb⟩; have HB52 := Aside0.mk (below_step HB51.out hb); have HW2 := Aside0.mk (below_step HW1.out hb); clear hb) | (go_at_call 34; (with_reducible refine (message_Get.calls A4 c4 L ⟨#[58, 112, 97, 116, 104]⟩ v3 b3 _ (Kd.C_below HC4.out HB52.out) hc4 HG3.out).mono ?_); rintro e q3 ⟨rfl, hb⟩; have HB53 := Aside0.mk (below_step HB52.out hb); have HW3 := Aside0.mk (below_step HW2.out hb); clear hb))
        have HS3 := HS.out.kept HW3.out
        have l1 : (Instr.lookup 74 (.map (some w4.heap.size)) (.string ⟨#[58, 109, 101, 116, 104, 111, 100]⟩) false).run Tryz.prog q3 = .ok (.int .i64 (req_cnt req_m L : Int)) q3 := HS3.look ⟨#[58, 109, 101, 116, 104, 111, 100]⟩ (by decide)
        obtain ⟨d1, hd1⟩ : ∃ d, req_cnt req_m L = d := ⟨_, rfl⟩
        rw [hd1] at l1 H1
        clear hd1
        have l2 : (Instr.lookup 74 (.map (some w4.heap.size)) (.string ⟨#[58, 115, 99, 104, 101, 109, 101]⟩) false).run Tryz.prog q3 = .ok (.int .i64 (req_cnt req_s L : Int)) q3 := HS3.look ⟨#[58, 115, 99, 104, 101, 109, 101]⟩ (by decide)
        obtain ⟨d2, hd2⟩ : ∃ d, req_cnt req_s L = d := ⟨_, rfl⟩
        rw [hd2] at l2 H1
        clear hd2
        have l3 : (Instr.lookup 74 (.map (some w4.heap.size)) (.string ⟨#[58, 112, 97, 116, 104]⟩) false).run Tryz.prog q3 = .ok (.int .i64 (req_cnt req_p L : Int)) q3 := HS3.look ⟨#[58, 112, 97, 116, 104]⟩ (by decide)
        obtain ⟨d3, hd3⟩ : ∃ d, req_cnt req_p L = d := ⟨_, rfl⟩
        rw [hd3] at l3 H1
        clear hd3
        have l4 : (Instr.lookup 74 (.map (some w4.heap.size)) (.string ⟨#[58, 97, 117, 116, 104, 111, 114, 105, 116, 121]⟩) false).run Tryz.prog q3 = .ok (.int .i64 (req_cnt req_a L : Int)) q3 := HS3.look ⟨#[58, 97, 117, 116, 104, 111, 114, 105, 116, 121]⟩ (by decide)
        obtain ⟨d4, hd4⟩ : ∃ d, req_cnt req_a L = d := ⟨_, rfl⟩
        have hdl : d4 ≤ 1000000 := by rw [← hd4]; unfold req_cnt; have := List.count_le_length (a := req_a) (l := L.map req_key); rw [List.length_map] at this; omega
        rw [hd4] at l4 H1
        clear hd4
        have hw3 : wrap64 (3 + (d4 : Int)) = 3 + (d4 : Int) := by unfold wrap64; omega
        have HBQ := Aside0.mk (below_step HB4.out HB53.out)
        have HLM := Aside0.mk hLm
        clear HS3 HW1 HW2 HW3 HB51 HB52 HS
        cases ok with
        | false =>
          rw [if_pos rfl] at H1
          have HRR := Aside0.mk H1
          clear H1
          go_wp2_with (fail)
          go_ret
          exact ⟨by rw [← HRR.out]; rfl, HBQ.out⟩
        | true =>
          rw [if_neg (by decide)] at H1
          by_cases e1 : d1 = 1
          · have f1 : ((d1 : Int) == 1) = true := by simp; omega
            rw [if_neg (not_not_intro e1)] at H1
            by_cases e2 : d2 = 1
            · have f2 : ((d2 : Int) == 1) = true := by simp; omega
              rw [if_neg (not_not_intro e2)] at H1
              by_cases e3 : d3 = 1
              · have f3 : ((d3 : Int) == 1) = true := by simp; omega
                rw [if_neg (not_not_intro e3)] at H1
                by_cases e4 : 1 < d4
                · have f4 : decide ((1 : Int) < (d4 : Int)) = true := decide_eq_true (by omega)
                  rw [if_pos e4] at H1
                  have HRR := Aside0.mk H1
                  clear H1
                  go_wp2_with (fail)
                  go_ret
                  exact ⟨by rw [← HRR.out]; rfl, HBQ.out⟩
                · have f4 : decide ((1 : Int) < (d4 : Int)) = false := decide_eq_false (by omega)
                  rw [if_neg e4] at H1
                  by_cases e5 : L.length = 3 + d4
                  · have f5 : ((L.length : Int) == 3 + (d4 : Int)) = true := by simp; omega
                    rw [if_neg (not_not_intro e5)] at H1
                    cases ht : tokB v1 true with
                    | false =>
                      rw [ht, if_pos rfl] at H1
                      have HTK := Aside0.mk (show message_token.f v1 true = some false by unfold message_token.f; rw [ht])
                      clear ht
                      have HRR := Aside0.mk H1
                      clear H1
                      go_wp2_with (first | (go_at_call 35; (with_reducible refine (message_token.calls v1 true false _ HTK.out).mono ?_); rintro e q4 ⟨rfl, hb⟩; have HBT := Aside0.mk (below_step HBQ.out hb); clear hb))
                      go_ret
                      exact ⟨by rw [← HRR.out]; rfl, HBT.out⟩
                    | true =>
                      rw [ht, if_neg (by decide)] at H1
                      have HTK := Aside0.mk (show message_token.f v1 true = some true by unfold message_token.f; rw [ht])
                      clear ht
                      by_cases e7 : v2.toList = []
                      · have f7 : v2.toList.isEmpty = true := by rw [e7]; rfl
                        rw [if_pos e7] at H1
                        have HRR := Aside0.mk H1
                        clear H1
                        go_wp2_with (first | (go_at_call 35; (with_reducible refine (message_token.calls v1 true true _ HTK.out).mono ?_); rintro e q4 ⟨rfl, hb⟩; have HBT := Aside0.mk (below_step HBQ.out hb); clear hb))
                        go_ret
                        exact ⟨by rw [← HRR.out]; rfl, HBT.out⟩
                      · have f7 : v2.toList.isEmpty = false := by cases h : v2.toList with | nil => exact absurd h e7 | cons _ _ => rfl
                        rw [if_neg e7] at H1
                        cases hs : slashB v3 with
                        | true =>
                          rw [hs, if_pos rfl] at H1
                          have HPR := Aside0.mk (show strings_HasPrefix.f v3 ⟨#[47]⟩ = some true by rw [slash_prefix, hs])
                          clear hs
                          have HRR := Aside0.mk H1
                          clear H1
                          go_wp2_with (first | (go_at_call 35; (with_reducible refine (message_token.calls v1 true true _ HTK.out).mono ?_); rintro e q4 ⟨rfl, hb⟩; have HBT := Aside0.mk (below_step HBQ.out hb); clear hb) | (go_at_call 36; (with_reducible refine (strings_HasPrefix.calls v3 _ true _ HPR.out).mono ?_); rintro e q5 ⟨rfl, hb⟩; have HBP := Aside0.mk (show Below w.heap.size w q5 from by obtain ⟨m5, rfl⟩ := hb.out; exact pw_below_drewN HBT.out _); clear hb))
                          go_ret
                          exact ⟨by rw [← HRR.out]; rfl, HBP.out⟩
                        | false =>
                          rw [hs, if_neg (by decide)] at H1
                          have HPR := Aside0.mk (show strings_HasPrefix.f v3 ⟨#[47]⟩ = some false by rw [slash_prefix, hs])
                          clear hs
                          by_cases e9 : v3.toList = [42]
                          · have f9 : (v3.toList == [42]) = true := by rw [e9]; rfl
                            rw [if_neg (not_not_intro e9)] at H1
                            by_cases e10 : v1.toList = [79, 80, 84, 73, 79, 78, 83]
                            · have f10 : (v1.toList == [79, 80, 84, 73, 79, 78, 83]) = true := by rw [e10]; rfl
                              rw [if_neg (not_not_intro e10)] at H1
                              have HRR := Aside0.mk H1
                              clear H1
                              go_wp2_with (first | (go_at_call 35; (with_reducible refine (message_token.calls v1 true true _ HTK.out).mono ?_); rintro e q4 ⟨rfl, hb⟩; have HBT := Aside0.mk (below_step HBQ.out hb); clear hb) | (go_at_call 36; (with_reducible refine (strings_HasPrefix.calls v3 _ false _ HPR.out).mono ?_); rintro e q5 ⟨rfl, hb⟩; have HBP := Aside0.mk (show Below w.heap.size w q5 from by obtain ⟨m5, rfl⟩ := hb.out; exact pw_below_drewN HBT.out _); clear hb))
                              go_ret
                              exact ⟨by rw [← HRR.out]; rfl, HBP.out⟩
                            · have f10 : (v1.toList == [79, 80, 84, 73, 79, 78, 83]) = false := beq_false_of_ne e10
                              rw [if_pos e10] at H1
                              have HRR := Aside0.mk H1
                              clear H1
                              go_wp2_with (first | (go_at_call 35; (with_reducible refine (message_token.calls v1 true true _ HTK.out).mono ?_); rintro e q4 ⟨rfl, hb⟩; have HBT := Aside0.mk (below_step HBQ.out hb); clear hb) | (go_at_call 36; (with_reducible refine (strings_HasPrefix.calls v3 _ false _ HPR.out).mono ?_); rintro e q5 ⟨rfl, hb⟩; have HBP := Aside0.mk (show Below w.heap.size w q5 from by obtain ⟨m5, rfl⟩ := hb.out; exact pw_below_drewN HBT.out _); clear hb))
                              go_ret
                              exact ⟨by rw [← HRR.out]; rfl, HBP.out⟩
                          · have f9 : (v3.toList == [42]) = false := beq_false_of_ne e9
                            rw [if_pos e9] at H1
                            have HRR := Aside0.mk H1
                            clear H1
                            go_wp2_with (first | (go_at_call 35; (with_reducible refine (message_token.calls v1 true true _ HTK.out).mono ?_); rintro e q4 ⟨rfl, hb⟩; have HBT := Aside0.mk (below_step HBQ.out hb); clear hb) | (go_at_call 36; (with_reducible refine (strings_HasPrefix.calls v3 _ false _ HPR.out).mono ?_); rintro e q5 ⟨rfl, hb⟩; have HBP := Aside0.mk (show Below w.heap.size w q5 from by obtain ⟨m5, rfl⟩ := hb.out; exact pw_below_drewN HBT.out _); clear hb))
                            go_ret
                            exact ⟨by rw [← HRR.out]; rfl, HBP.out⟩
                  · have f5 : ((L.length : Int) == 3 + (d4 : Int)) = false := beq_false_of_ne (by omega)
                    rw [if_pos e5] at H1
                    have HRR := Aside0.mk H1
                    clear H1
                    go_wp2_with (fail)
                    go_ret
                    exact ⟨by rw [← HRR.out]; rfl, HBQ.out⟩
              · have f3 : ((d3 : Int) == 1) = false := beq_false_of_ne (by omega)
                rw [if_pos e3] at H1
                have HRR := Aside0.mk H1
                clear H1
                go_wp2_with (fail)
                go_ret
                exact ⟨by rw [← HRR.out]; rfl, HBQ.out⟩
            · have f2 : ((d2 : Int) == 1) = false := beq_false_of_ne (by omega)
              rw [if_pos e2] at H1
              have HRR := Aside0.mk H1
              clear H1
              go_wp2_with (fail)
              go_ret
              exact ⟨by rw [← HRR.out]; rfl, HBQ.out⟩
          · have f1 : ((d1 : Int) == 1) = false := beq_false_of_ne (by omega)
            rw [if_pos e1] at H1
            have HRR := Aside0.mk H1
            clear H1
            go_wp2_with (fail)
            go_ret
            exact ⟨by rw [← HRR.out]; rfl, HBQ.out⟩
end Go.Proofs.YtcgbpallpnaclaaGreatDoor.T
