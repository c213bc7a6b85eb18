/- A part of the walk of the laws of layer 22 (message): contracts of functions of the program, each walked once. -/
import Derived.Test.YtcgbpallpnaclaaGreatDoorUV
import Derived.RangeFuncNested
import Derived.RangeFuncBound
import Derived.RangeFuncCalls
import Derived.RangeFuncLeaves
import Derived.RangeFuncBox
import Derived.OwnWalkIn
import Derived.TacticsInMore
import Derived.LoopNIn
import Derived.LoopIn
import Derived.Deep.DeepMust
import Derived.LoopN
import Derived.Laws.BitsAllLaws
import Derived.Maps.OwnIn
import Derived.Maps.Own
import Derived.Maps.OwnSet
import Derived.Maps.OwnOps
import Derived.Shelf.Abstract
import Derived.Sort.CutIn
import Derived.Shelf.RegionOpen
import Derived.StillTailTactics
import Derived.Outline
import Derived.Deep.RegionHeld3
import Derived.Laws.StructEq
import Derived.Laws.RangeAny
import Derived.Laws.EntriesVeiled
import Derived.WalkSpells
import Derived.Lib.SlBytesConst
import Derived.Deep.RegionLaw
import Derived.Deep.RegionWith
import Derived.ArgAppend
import Derived.Shelf.Strings.SlTrimAscii
import Derived.Shelf.Strings.IndexAnyAll
import Derived.Test.YtcgbpallpnaclaaGreatDoorSh
import Derived.Test.YtcgbpallpnaclaaGreatDoorWEqStruct
namespace Go.Proofs.YtcgbpallpnaclaaGreatDoor.T
open Go.RowKit Go.Proofs.YtcgbpallpnaclaaGreatDoorW.PrintWords Go.Proofs.YtcgbpallpnaclaaGreatDoorW.PrintLast Go.Proofs.YtcgbpallpnaclaaGreatDoorW.PrintMore
open Go.Proofs.YtcgbpallpnaclaaGreatDoor.PMW
set_option linter.unusedVariables false
set_option linter.unusedSimpArgs false
/-! ### the table of powers; strconv.Itoa -/
def MsgVar (w : World) (n : String) : Prop := ∃ tp p, w.var? Tryz.prog n = some #[.iface tp p]
def MsgTab (w : World) : Prop := Lib.TabIs Tryz.prog w "internal/strconv.uint64pow10" .u64 Lib.pow10Tab ∧ MsgVar w "strconv.ErrSyntax" ∧ MsgVar w "strconv.ErrRange"
theorem MsgVar.below {w w' : World} {n : String} (h : MsgVar w n) (hb : Below w.heap.size w w') : MsgVar w' n := by
  obtain ⟨tp, p, h⟩ := h
  refine ⟨tp, p, ?_⟩
  unfold World.var? at *
  obtain ⟨g, hg, h⟩ := Option.bind_eq_some_iff.mp h
  rw [hg, Option.bind_some]
  have hlt : g < w.heap.size := by
    by_cases hh : g < w.heap.size
    · exact hh
    · rw [Array.getElem?_eq_none (by omega)] at h; cases h
  rw [hb.block g hlt]
  exact h
theorem MsgTab.below {w w' : World} (h0 : MsgTab w) (hb : Below w.heap.size w w') : MsgTab w' := by
  obtain ⟨h, v1, v2⟩ := h0
  refine ⟨?_, v1.below hb, v2.below hb⟩
  unfold Lib.TabIs World.var? at *
  obtain ⟨g, hg, h⟩ := Option.bind_eq_some_iff.mp h
  rw [hg, Option.bind_some]
  have hlt : g < w.heap.size := by
    by_cases hh : g < w.heap.size
    · exact hh
    · rw [Array.getElem?_eq_none (by omega)] at h; cases h
  rw [hb.block g hlt]
  exact h
def msg_itoa (n : Int) : ByteArray := ⟨(Lib.itoa n).toArray⟩
theorem msg_grow (w : World) (k : Nat) (os : Array Obj) : Below w.heap.size w (Go.Sort.grow (w.drewN k) os) := by
  refine ⟨rfl, rfl, rfl, ?_, fun g hg => ?_⟩
  · show w.heap.size ≤ (w.heap ++ os).size
    rw [Array.size_append]; omega
  · show (w.heap ++ os)[g]? = w.heap[g]?
    rw [Array.getElem?_append_left hg]
theorem msg_Itoa.calls (n : Int) (w : World) (h0 : -9223372036854775808 ≤ n) (h1 : n ≤ 9223372036854775807) (hT : MsgTab w) :
    Calls Tryz.prog 30 #[.int .i64 n] w fun e w' => e = .returned (.string (msg_itoa n)) ∧ Below w.heap.size w w' :=
  (Go.Proofs.Tryz.strconv_Itoa n h0 h1 w hT.1).mono fun e w' ⟨he, k, os, hw⟩ => ⟨he, by rw [hw]; exact msg_grow w k os⟩
/-! ### the third function that message.marks makes -/
def msg_wrong (n : Nat) (x : S62) : Option Bool := (msg_bad x).bind fun b => if b = true then some true else (if (x.f0.toList == msg_clen) = true then some (x.f1.toList != (msg_itoa n).toList) else some false)
structure MsgCaps (w : World) (B5 B6 B1 : Nat) (A1 : Option Addr) (n c : Nat) : Prop where
  f5 : w.heap[B5]? = some (.cells #[.func (.func 93) #[] #[]] 92 (0, 0))
  f6 : w.heap[B6]? = some (.cells #[.func (.func 94) #[] #[]] 92 (0, 0))
  f1 : ∃ v0 v2, w.heap[B1]? = some (.cells #[v0, .slice A1 n c, v2] 25 (0, 0))
  len : n ≤ 9223372036854775807
  tab : MsgTab w
theorem MsgCaps.below {w w' : World} {B5 B6 B1 n c : Nat} {A1 : Option Addr} (h : MsgCaps w B5 B6 B1 A1 n c) (hb : Below w.heap.size w w') : MsgCaps w' B5 B6 B1 A1 n c := by
  have k : ∀ {g : Nat} {o : Obj}, w.heap[g]? = some o → w'.heap[g]? = some o := fun {g o} e => (hb.block g (Array.getElem?_eq_some_iff.1 e).1).trans e
  obtain ⟨v0, v2, e⟩ := h.f1
  exact ⟨k h.f5, k h.f6, ⟨v0, v2, k e⟩, h.len, h.tab.below hb⟩
theorem msg_take {P : Program} {ops : Array Oper} {Q : Exit → Act → World → Prop} {md : Region.Mode} {S : World → Prop} {i : Nat} {oi : Oper} {d : Option Tmp} {v : Value} {fuel : Nat} {listed : Array Bool} {a : Act} {w : World} (hi : ops[i]? = some oi) (hd : oi.dst = d)
    (hs : Region.noSelect ops = true) (hf : Region.free md ops listed i = true) (hr : (Region.ready md ops listed).contains i = true)
    (hQ : ∀ c a w, Q (.panic c) (a.put d v) w → Q (.panic c) a w) (hy : YieldsIf P ops S oi v a) (hS : S w)
    (h : wpAnyH P md ops Q S fuel (listed.setIfInBounds i true) (a.put d v) w) : wpAnyH P md ops Q S (fuel + 1) listed a w := by
  subst hd
  exact wpAnyH_take hi hs hf hr hQ hy hS h
set_option maxHeartbeats 3200000 in
set_option maxRecDepth 100000 in
theorem msg_wrong.calls (x : S62) (B5 B6 B1 : Nat) (A1 : Option Addr) (n c : Nat) (r : Bool) (w : World) (hK : MsgCaps w B5 B6 B1 A1 n c) (h : msg_wrong n x = some r) :
    Calls Tryz.prog 95 #[.agg #[.string x.f0, .string x.f1], .pointer (some ⟨B5, 0, none⟩), .pointer (some ⟨B6, 0, none⟩), .pointer (some ⟨B1, 0, none⟩)] w fun e w' => e = .returned (.bool r) ∧ Below w.heap.size w w' := by
  unfold msg_wrong at h
  obtain ⟨b, hb, h⟩ := Option.bind_eq_some_iff.mp h
  obtain ⟨v0, v2, e1⟩ := hK.f1
  have hn := hK.len
  obtain ⟨W, hW⟩ : ∃ W, w.alloc (.cells #[.string x.f0, .string x.f1] 62) = W := ⟨_, rfl⟩
  have hB := Aside0.mk (show Below w.heap.size w W from by rw [← hW]; exact (Below.refl _ _).alloc (Nat.le_refl _) _)
  have hc := hK.below hB.out
  have HT := Aside0.mk hK.tab
  have d0 : W.cell? ⟨w.heap.size, 0, none⟩ = some (.string x.f0) := by rw [← hW]; exact (blk_cell (tok_block _ _ _) 0).trans rfl
  have d1 : W.cell? ⟨w.heap.size, 1, none⟩ = some (.string x.f1) := by rw [← hW]; exact (blk_cell (tok_block _ _ _) 1).trans rfl
  have d5 : W.cell? ⟨B5, 0, none⟩ = some (.func (.func 93) #[] #[]) := (blk_cell hc.f5 0).trans rfl
  have d6 : W.cell? ⟨B6, 0, none⟩ = some (.func (.func 94) #[] #[]) := (blk_cell hc.f6 0).trans rfl
  have dB : W.cell? ⟨B1, 1, none⟩ = some (.slice A1 n c) := by
    obtain ⟨v0, v2, e⟩ := hc.f1
    exact (blk_cell e 1).trans rfl
  have HBD := Aside0.mk hb
  have H := Aside0.mk h
  clear hb h hK e1 hc
  go_enter Tryz.func95, Tryz.ntmps95
  go_wp2_with (fail)
  have HB := hB
  clear hB hW
  cases b with
  | true =>
    rw [if_pos rfl] at H
    obtain rfl := Option.some.inj H.out
    refine wp_region_held_drew (S := (fun w' => w'.cell? ⟨w.heap.size, 0, none⟩ = some (.string x.f0) ∧ w'.cell? ⟨w.heap.size, 1, none⟩ = some (.string x.f1) ∧ w'.cell? ⟨B5, 0, none⟩ = some (.func (.func 93) #[] #[]) ∧ w'.cell? ⟨B6, 0, none⟩ = some (.func (.func 94) #[] #[]) ∧ w'.cell? ⟨B1, 1, none⟩ = some (.slice A1 n c))) (by kernel_rfl) ?_ (fun hHeld => ?_)
    · exact ⟨d0, d1, d5, d6, dB⟩
    (refine msg_take (i := 0) (d := some 6) (v := .func (.func 93) #[] #[]) rfl rfl (by kernel_rfl) (by kernel_rfl) (by kernel_rfl) (fun _ _ _ h => h) (Or.inl ⟨by rfl, ?hy⟩) (by assumption) ?_; (case hy => (intro w hSw; (try dsimp only at hSw); go_split_ands; go_simp; try (with_reducible rfl)))); (try simp only [Act.put, List.setIfInBounds_toArray, List.set_cons_zero, List.set_cons_succ])
    (refine msg_take (i := 1) (d := some 7) (v := .agg #[.string x.f0, .string x.f1]) rfl rfl (by kernel_rfl) (by kernel_rfl) (by kernel_rfl) (fun _ _ _ h => h) (Or.inl ⟨by rfl, ?hy⟩) (by assumption) ?_; (case hy => (intro w hSw; (try dsimp only at hSw); go_split_ands; go_simp; try (with_reducible rfl)))); (try simp only [Act.put, List.setIfInBounds_toArray, List.set_cons_zero, List.set_cons_succ])
    refine wpAnyH_ready (rs := [2]) (by kernel_rfl) (by simp) ?_
    refine AllReadyH.cons rfl (fun K hK => ?_) AllReadyH.nil
    go_simp
    (go_at_call 93; refine (msg_bad.calls x true _ HBD.out).mono ?_; rintro e w1 ⟨rfl, hz⟩; have HB := Aside0.mk (show Below w.heap.size w w1 from by first | exact below_step HB.out hz | exact below_step (below_drew1 HB.out) hz))
    (try go_wp2_with (fail))
    refine hK.out _ _ ?hS (fun hHeld => ?_)
    case hS => (first | go_keep | (go_split_ands; refine ⟨?_, ?_, ?_, ?_, ?_⟩ <;> (refine Eq.trans (hz.cell ?_) ?_; rotate_left; assumption; exact World.block_lt_of_cell? _ _ (by assumption))))
    clear hK K
    (try simp only [Act.put, List.setIfInBounds_toArray, List.set_cons_zero, List.set_cons_succ])
    (refine msg_take (i := 3) (d := some 9) (v := .bool true) rfl rfl (by kernel_rfl) (by kernel_rfl) (by kernel_rfl) (fun _ _ _ h => h) (Or.inl ⟨by rfl, ?hy⟩) (by assumption) ?_; (case hy => (intro w hSw; (try dsimp only at hSw); go_split_ands; go_simp; try (with_reducible rfl)))); (try simp only [Act.put, List.setIfInBounds_toArray, List.set_cons_zero, List.set_cons_succ])
    (refine msg_take (i := 4) (d := some 10) (v := undef) rfl rfl (by kernel_rfl) (by kernel_rfl) (by kernel_rfl) (fun _ _ _ h => h) (Or.inr ⟨by rfl, rfl⟩) (by assumption) ?_); (try simp only [Act.put, List.setIfInBounds_toArray, List.set_cons_zero, List.set_cons_succ])
    (refine msg_take (i := 5) (d := some 11) (v := undef) rfl rfl (by kernel_rfl) (by kernel_rfl) (by kernel_rfl) (fun _ _ _ h => h) (Or.inr ⟨by rfl, rfl⟩) (by assumption) ?_); (try simp only [Act.put, List.setIfInBounds_toArray, List.set_cons_zero, List.set_cons_succ])
    refine wpAnyH_ready (rs := [6]) (by kernel_rfl) (by simp) ?_
    refine AllReadyH.cons rfl (fun K hK => ?_) AllReadyH.nil
    go_simp
    refine hK.out _ _ ?hS (fun hHeld => ?_)
    case hS => exact hHeld
    clear hK K
    (try simp only [Act.put, List.setIfInBounds_toArray, List.set_cons_zero, List.set_cons_succ])
    (refine msg_take (i := 7) (d := some 13) (v := undef) rfl rfl (by kernel_rfl) (by kernel_rfl) (by kernel_rfl) (fun _ _ _ h => h) (Or.inr ⟨by rfl, rfl⟩) (by assumption) ?_); (try simp only [Act.put, List.setIfInBounds_toArray, List.set_cons_zero, List.set_cons_succ])
    (refine msg_take (i := 8) (d := some 14) (v := undef) rfl rfl (by kernel_rfl) (by kernel_rfl) (by kernel_rfl) (fun _ _ _ h => h) (Or.inr ⟨by rfl, rfl⟩) (by assumption) ?_); (try simp only [Act.put, List.setIfInBounds_toArray, List.set_cons_zero, List.set_cons_succ])
    (refine msg_take (i := 9) (d := some 15) (v := undef) rfl rfl (by kernel_rfl) (by kernel_rfl) (by kernel_rfl) (fun _ _ _ h => h) (Or.inr ⟨by rfl, rfl⟩) (by assumption) ?_); (try simp only [Act.put, List.setIfInBounds_toArray, List.set_cons_zero, List.set_cons_succ])
    (refine msg_take (i := 10) (d := some 16) (v := undef) rfl rfl (by kernel_rfl) (by kernel_rfl) (by kernel_rfl) (fun _ _ _ h => h) (Or.inr ⟨by rfl, rfl⟩) (by assumption) ?_); (try simp only [Act.put, List.setIfInBounds_toArray, List.set_cons_zero, List.set_cons_succ])
    (refine msg_take (i := 11) (d := some 17) (v := undef) rfl rfl (by kernel_rfl) (by kernel_rfl) (by kernel_rfl) (fun _ _ _ h => h) (Or.inr ⟨by rfl, rfl⟩) (by assumption) ?_); (try simp only [Act.put, List.setIfInBounds_toArray, List.set_cons_zero, List.set_cons_succ])
    (refine msg_take (i := 12) (d := some 18) (v := undef) rfl rfl (by kernel_rfl) (by kernel_rfl) (by kernel_rfl) (fun _ _ _ h => h) (Or.inr ⟨by rfl, rfl⟩) (by assumption) ?_); (try simp only [Act.put, List.setIfInBounds_toArray, List.set_cons_zero, List.set_cons_succ])
    refine wpAnyH_ready (rs := [13]) (by kernel_rfl) (by simp) ?_
    refine AllReadyH.cons rfl (fun K hK => ?_) AllReadyH.nil
    go_simp
    refine hK.out _ _ ?hS (fun hHeld => ?_)
    case hS => exact hHeld
    clear hK K
    (try simp only [Act.put, List.setIfInBounds_toArray, List.set_cons_zero, List.set_cons_succ])
    (refine msg_take (i := 14) (d := some 20) (v := undef) rfl rfl (by kernel_rfl) (by kernel_rfl) (by kernel_rfl) (fun _ _ _ h => h) (Or.inr ⟨by rfl, rfl⟩) (by assumption) ?_); (try simp only [Act.put, List.setIfInBounds_toArray, List.set_cons_zero, List.set_cons_succ])
    (refine msg_take (i := 15) (d := some 21) (v := undef) rfl rfl (by kernel_rfl) (by kernel_rfl) (by kernel_rfl) (fun _ _ _ h => h) (Or.inr ⟨by rfl, rfl⟩) (by assumption) ?_); (try simp only [Act.put, List.setIfInBounds_toArray, List.set_cons_zero, List.set_cons_succ])
    (refine msg_take (i := 16) (d := some 22) (v := .bool true) rfl rfl (by kernel_rfl) (by kernel_rfl) (by kernel_rfl) (fun _ _ _ h => h) (Or.inl ⟨by rfl, ?hy⟩) (by assumption) ?_; (case hy => (intro w hSw; (try dsimp only at hSw); go_split_ands; go_simp; try (with_reducible rfl)))); (try simp only [Act.put, List.setIfInBounds_toArray, List.set_cons_zero, List.set_cons_succ])
    (refine msg_take (i := 17) (d := some 5) (v := .bool true) rfl rfl (by kernel_rfl) (by kernel_rfl) (by kernel_rfl) (fun _ _ _ h => h) (Or.inl ⟨by rfl, ?hy⟩) (by assumption) ?_; (case hy => (intro w hSw; (try dsimp only at hSw); go_split_ands; go_simp; try (with_reducible rfl)))); (try simp only [Act.put, List.setIfInBounds_toArray, List.set_cons_zero, List.set_cons_succ])
    refine wpAnyH_done (by kernel_rfl) ?_ _
    all_goals (go_wp2_with (fail); go_ret; exact ⟨rfl, HB.out⟩)
  | false =>
    rw [if_neg Bool.false_ne_true] at H
    cases hl : (x.f0.toList == msg_clen) with
    | true =>
      rw [hl, if_pos rfl] at H
      obtain rfl := Option.some.inj H.out
      have HLG := Aside0.mk hl
      clear hl
      first | (go_region_held3 (fun w' => w'.cell? ⟨w.heap.size, 0, none⟩ = some (.string x.f0) ∧ w'.cell? ⟨w.heap.size, 1, none⟩ = some (.string x.f1) ∧ w'.cell? ⟨B5, 0, none⟩ = some (.func (.func 93) #[] #[]) ∧ w'.cell? ⟨B6, 0, none⟩ = some (.func (.func 94) #[] #[]) ∧ w'.cell? ⟨B1, 1, none⟩ = some (.slice A1 n c)) (first | go_keep | (go_split_ands; refine ⟨?_, ?_, ?_, ?_, ?_⟩ <;> (refine Eq.trans (hz.cell ?_) ?_; rotate_left; assumption; exact World.block_lt_of_cell? _ _ (by assumption)))) (first | (with_reducible refine (if_neg ?hc).mpr ?_; (case hc => (intro hh; cases hh))) | (go_at_call 93; refine (msg_bad.calls x false _ HBD.out).mono ?_; rintro e w1 ⟨rfl, hz⟩; have HB := Aside0.mk (show Below w.heap.size w w1 from by first | exact below_step HB.out hz | exact below_step (below_drew1 HB.out) hz)) | (go_at_call 94; refine (msg_long.calls x _).mono ?_; rintro e w1 ⟨rfl, hz⟩; have HB := Aside0.mk (show Below w.heap.size w w1 from by first | exact below_step HB.out hz | exact below_step (below_drew1 HB.out) hz); rw [HLG.out]) | (go_at_call 30; refine (msg_Itoa.calls n _ (by omega) (by omega) (by first | exact HT.out.below HB.out | exact HT.out.below (below_drew1 HB.out))).mono ?_; rintro e w1 ⟨rfl, hz⟩; have HB := Aside0.mk (show Below w.heap.size w w1 from by first | exact below_step HB.out hz | exact below_step (below_drew1 HB.out) hz)))) | fail "region"
      all_goals (go_wp2_with (fail); go_ret; exact ⟨rfl, HB.out⟩)
    | false =>
      rw [hl, if_neg Bool.false_ne_true] at H
      obtain rfl := Option.some.inj H.out
      have HLG := Aside0.mk hl
      clear hl
      refine wp_region_held_drew (S := (fun w' => w'.cell? ⟨w.heap.size, 0, none⟩ = some (.string x.f0) ∧ w'.cell? ⟨w.heap.size, 1, none⟩ = some (.string x.f1) ∧ w'.cell? ⟨B5, 0, none⟩ = some (.func (.func 93) #[] #[]) ∧ w'.cell? ⟨B6, 0, none⟩ = some (.func (.func 94) #[] #[]) ∧ w'.cell? ⟨B1, 1, none⟩ = some (.slice A1 n c))) (by kernel_rfl) ?_ (fun hHeld => ?_)
      · exact ⟨d0, d1, d5, d6, dB⟩
      (refine msg_take (i := 0) (d := some 6) (v := .func (.func 93) #[] #[]) rfl rfl (by kernel_rfl) (by kernel_rfl) (by kernel_rfl) (fun _ _ _ h => h) (Or.inl ⟨by rfl, ?hy⟩) (by assumption) ?_; (case hy => (intro w hSw; (try dsimp only at hSw); go_split_ands; go_simp; try (with_reducible rfl)))); (try simp only [Act.put, List.setIfInBounds_toArray, List.set_cons_zero, List.set_cons_succ])
      (refine msg_take (i := 1) (d := some 7) (v := .agg #[.string x.f0, .string x.f1]) rfl rfl (by kernel_rfl) (by kernel_rfl) (by kernel_rfl) (fun _ _ _ h => h) (Or.inl ⟨by rfl, ?hy⟩) (by assumption) ?_; (case hy => (intro w hSw; (try dsimp only at hSw); go_split_ands; go_simp; try (with_reducible rfl)))); (try simp only [Act.put, List.setIfInBounds_toArray, List.set_cons_zero, List.set_cons_succ])
      refine wpAnyH_ready (rs := [2]) (by kernel_rfl) (by simp) ?_
      refine AllReadyH.cons rfl (fun K hK => ?_) AllReadyH.nil
      go_simp
      (go_at_call 93; refine (msg_bad.calls x false _ HBD.out).mono ?_; rintro e w1 ⟨rfl, hz⟩; have HB := Aside0.mk (show Below w.heap.size w w1 from by first | exact below_step HB.out hz | exact below_step (below_drew1 HB.out) hz))
      (try go_wp2_with (fail))
      refine hK.out _ _ ?hS (fun hHeld => ?_)
      case hS => (first | go_keep | (go_split_ands; refine ⟨?_, ?_, ?_, ?_, ?_⟩ <;> (refine Eq.trans (hz.cell ?_) ?_; rotate_left; assumption; exact World.block_lt_of_cell? _ _ (by assumption))))
      clear hK K
      (try simp only [Act.put, List.setIfInBounds_toArray, List.set_cons_zero, List.set_cons_succ])
      (refine msg_take (i := 3) (d := some 9) (v := .bool false) rfl rfl (by kernel_rfl) (by kernel_rfl) (by kernel_rfl) (fun _ _ _ h => h) (Or.inl ⟨by rfl, ?hy⟩) (by assumption) ?_; (case hy => (intro w hSw; (try dsimp only at hSw); go_split_ands; go_simp; try (with_reducible rfl)))); (try simp only [Act.put, List.setIfInBounds_toArray, List.set_cons_zero, List.set_cons_succ])
      (refine msg_take (i := 4) (d := some 10) (v := .func (.func 94) #[] #[]) rfl rfl (by kernel_rfl) (by kernel_rfl) (by kernel_rfl) (fun _ _ _ h => h) (Or.inl ⟨by rfl, ?hy⟩) (by assumption) ?_; (case hy => (intro w hSw; (try dsimp only at hSw); go_split_ands; go_simp; try (with_reducible rfl)))); (try simp only [Act.put, List.setIfInBounds_toArray, List.set_cons_zero, List.set_cons_succ])
      (refine msg_take (i := 5) (d := some 11) (v := .agg #[.string x.f0, .string x.f1]) rfl rfl (by kernel_rfl) (by kernel_rfl) (by kernel_rfl) (fun _ _ _ h => h) (Or.inl ⟨by rfl, ?hy⟩) (by assumption) ?_; (case hy => (intro w hSw; (try dsimp only at hSw); go_split_ands; go_simp; try (with_reducible rfl)))); (try simp only [Act.put, List.setIfInBounds_toArray, List.set_cons_zero, List.set_cons_succ])
      refine wpAnyH_ready (rs := [6]) (by kernel_rfl) (by simp) ?_
      refine AllReadyH.cons rfl (fun K hK => ?_) AllReadyH.nil
      go_simp
      (go_at_call 94; refine (msg_long.calls x _).mono ?_; rintro e w1 ⟨rfl, hz⟩; have HB := Aside0.mk (show Below w.heap.size w w1 from by first | exact below_step HB.out hz | exact below_step (below_drew1 HB.out) hz); rw [HLG.out])
      (try go_wp2_with (fail))
      refine hK.out _ _ ?hS (fun hHeld => ?_)
      case hS => (first | go_keep | (go_split_ands; refine ⟨?_, ?_, ?_, ?_, ?_⟩ <;> (refine Eq.trans (hz.cell ?_) ?_; rotate_left; assumption; exact World.block_lt_of_cell? _ _ (by assumption))))
      clear hK K
      (try simp only [Act.put, List.setIfInBounds_toArray, List.set_cons_zero, List.set_cons_succ])
      (refine msg_take (i := 7) (d := some 13) (v := .bool false) rfl rfl (by kernel_rfl) (by kernel_rfl) (by kernel_rfl) (fun _ _ _ h => h) (Or.inl ⟨by rfl, ?hy⟩) (by assumption) ?_; (case hy => (intro w hSw; (try dsimp only at hSw); go_split_ands; go_simp; try (with_reducible rfl)))); (try simp only [Act.put, List.setIfInBounds_toArray, List.set_cons_zero, List.set_cons_succ])
      (refine msg_take (i := 8) (d := some 14) (v := undef) rfl rfl (by kernel_rfl) (by kernel_rfl) (by kernel_rfl) (fun _ _ _ h => h) (Or.inr ⟨by rfl, rfl⟩) (by assumption) ?_); (try simp only [Act.put, List.setIfInBounds_toArray, List.set_cons_zero, List.set_cons_succ])
      (refine msg_take (i := 9) (d := some 15) (v := undef) rfl rfl (by kernel_rfl) (by kernel_rfl) (by kernel_rfl) (fun _ _ _ h => h) (Or.inr ⟨by rfl, rfl⟩) (by assumption) ?_); (try simp only [Act.put, List.setIfInBounds_toArray, List.set_cons_zero, List.set_cons_succ])
      (refine msg_take (i := 10) (d := some 16) (v := undef) rfl rfl (by kernel_rfl) (by kernel_rfl) (by kernel_rfl) (fun _ _ _ h => h) (Or.inr ⟨by rfl, rfl⟩) (by assumption) ?_); (try simp only [Act.put, List.setIfInBounds_toArray, List.set_cons_zero, List.set_cons_succ])
      (refine msg_take (i := 11) (d := some 17) (v := undef) rfl rfl (by kernel_rfl) (by kernel_rfl) (by kernel_rfl) (fun _ _ _ h => h) (Or.inr ⟨by rfl, rfl⟩) (by assumption) ?_); (try simp only [Act.put, List.setIfInBounds_toArray, List.set_cons_zero, List.set_cons_succ])
      (refine msg_take (i := 12) (d := some 18) (v := undef) rfl rfl (by kernel_rfl) (by kernel_rfl) (by kernel_rfl) (fun _ _ _ h => h) (Or.inr ⟨by rfl, rfl⟩) (by assumption) ?_); (try simp only [Act.put, List.setIfInBounds_toArray, List.set_cons_zero, List.set_cons_succ])
      refine wpAnyH_ready (rs := [13]) (by kernel_rfl) (by simp) ?_
      refine AllReadyH.cons rfl (fun K hK => ?_) AllReadyH.nil
      go_simp
      refine hK.out _ _ ?hS (fun hHeld => ?_)
      case hS => exact hHeld
      clear hK K
      (try simp only [Act.put, List.setIfInBounds_toArray, List.set_cons_zero, List.set_cons_succ])
      (refine msg_take (i := 14) (d := some 20) (v := undef) rfl rfl (by kernel_rfl) (by kernel_rfl) (by kernel_rfl) (fun _ _ _ h => h) (Or.inr ⟨by rfl, rfl⟩) (by assumption) ?_); (try simp only [Act.put, List.setIfInBounds_toArray, List.set_cons_zero, List.set_cons_succ])
      (refine msg_take (i := 15) (d := some 21) (v := .bool false) rfl rfl (by kernel_rfl) (by kernel_rfl) (by kernel_rfl) (fun _ _ _ h => h) (Or.inl ⟨by rfl, ?hy⟩) (by assumption) ?_; (case hy => (intro w hSw; (try dsimp only at hSw); go_split_ands; go_simp; try (with_reducible rfl)))); (try simp only [Act.put, List.setIfInBounds_toArray, List.set_cons_zero, List.set_cons_succ])
      (refine msg_take (i := 16) (d := some 22) (v := .bool false) rfl rfl (by kernel_rfl) (by kernel_rfl) (by kernel_rfl) (fun _ _ _ h => h) (Or.inl ⟨by rfl, ?hy⟩) (by assumption) ?_; (case hy => (intro w hSw; (try dsimp only at hSw); go_split_ands; go_simp; try (with_reducible rfl)))); (try simp only [Act.put, List.setIfInBounds_toArray, List.set_cons_zero, List.set_cons_succ])
      (refine msg_take (i := 17) (d := some 5) (v := .bool false) rfl rfl (by kernel_rfl) (by kernel_rfl) (by kernel_rfl) (fun _ _ _ h => h) (Or.inl ⟨by rfl, ?hy⟩) (by assumption) ?_; (case hy => (intro w hSw; (try dsimp only at hSw); go_split_ands; go_simp; try (with_reducible rfl)))); (try simp only [Act.put, List.setIfInBounds_toArray, List.set_cons_zero, List.set_cons_succ])
      refine wpAnyH_done (by kernel_rfl) ?_ _
      all_goals (go_wp2_with (fail); go_ret; exact ⟨rfl, HB.out⟩)
end Go.Proofs.YtcgbpallpnaclaaGreatDoor.T
