/- A part of the walk of the laws of layer 22 (message): contracts of functions of the program, each walked once. -/
import Derived.Test.YtcgbpallpnaclaaGreatDoorUQ2
import Derived.Test.YtcgbpallpnaclaaGreatDoorPMWx3
import Derived.Test.YtcgbpallpnaclaaGreatDoorPMWx1
import Derived.BigQuiet
import Derived.RangeFuncNested
import Derived.RangeFuncBound
import Derived.RangeFuncCalls
import Derived.RangeFuncLeaves
import Derived.RangeFuncBox
import Derived.OwnWalkIn
import Derived.TacticsInMore
import Derived.LoopNIn
import Derived.LoopIn
import Derived.Deep.DeepMust
import Derived.LoopN
import Derived.Laws.BitsAllLaws
import Derived.Maps.OwnIn
import Derived.Maps.Own
import Derived.Maps.OwnSet
import Derived.Maps.OwnOps
import Derived.Shelf.Abstract
import Derived.Sort.CutIn
import Derived.Shelf.RegionOpen
import Derived.StillTailTactics
import Derived.Outline
import Derived.Deep.RegionHeld3
import Derived.Laws.StructEq
import Derived.Laws.RangeAny
import Derived.Laws.EntriesVeiled
import Derived.WalkSpells
import Derived.Lib.SlBytesConst
import Derived.Deep.RegionLaw
import Derived.Deep.RegionWith
import Derived.ArgAppend
import Derived.Shelf.Strings.SlTrimAscii
import Derived.Shelf.Strings.IndexAnyAll
import Derived.Test.YtcgbpallpnaclaaGreatDoorSh
import Derived.Test.YtcgbpallpnaclaaGreatDoorWEqStruct
namespace Go.Proofs.YtcgbpallpnaclaaGreatDoor.T
open Go.RowKit Go.Proofs.YtcgbpallpnaclaaGreatDoorW.PrintWords Go.Proofs.YtcgbpallpnaclaaGreatDoorW.PrintLast Go.Proofs.YtcgbpallpnaclaaGreatDoorW.PrintMore
open Go.Proofs.YtcgbpallpnaclaaGreatDoor.PMW
set_option linter.unusedVariables false
set_option linter.unusedSimpArgs false
theorem man_info_u8 : (Tryz.prog.info? 5).map (fun i => (i.zero, i.size, i.bytes)) = some (some (.int .u8 0), 1, 1) := by kernel_rfl
/-- A number's place in a list. -/
theorem man_take_snoc (l : List Int) (k : Nat) (hk : k < l.length) : l.take (k + 1) = l.take k ++ [rd l k] := by
  rw [List.take_succ_eq_append_getElem hk]
  simp [rd, List.getD_eq_getElem?_getD, List.getElem?_eq_getElem hk]
/-- A list of bytes in memory of the call's own, with the mark behind it. -/
def Twin (w : World) (base : Nat) (v : Value) (l : List Int) : Prop :=
  ∃ g cap, v = .slice (some ⟨g, 0, none⟩) l.length cap ∧ w.ownsRow base 5 1 (.slice (some ⟨g, 0, none⟩) (l.length + 1) cap) (l.length + 1) (nums .u8 (l ++ [77]))
theorem Twin.below {w w1 : World} {base : Nat} {v : Value} {l : List Int} (h : Twin w base v l) (hb : Below w.heap.size w w1) : Twin w1 base v l := by
  obtain ⟨g, cap, hv, ho⟩ := h
  exact ⟨g, cap, hv, pw_own_below ho hb⟩
theorem Twin.reads {w : World} {base : Nat} {v : Value} {l : List Int} (h : Twin w base v l) : ∃ A c, v = .slice A l.length c ∧ Kd.C (Kd.int .u8) w A l.length l ∧ l.length + 1 ≤ c ∧ Kd.C (Kd.int .u8) w A (l ++ [77]).length (l ++ [77]) := by
  obtain ⟨g, cap, rfl, ho⟩ := h
  have hr := own_reads' ho
  have hC : Kd.C (Kd.int .u8) w (some ⟨g, 0, none⟩) (l ++ [77]).length (l ++ [77]) := by
    have h := Kd.C_of_reads (enc := Value.int .u8) (d := (0 : Int)) (h1 := fun _ => rfl) hr
    rw [List.length_append]
    exact h
  refine ⟨some ⟨g, 0, none⟩, cap, rfl, ?_, own_cap ho, hC⟩
  have h2 := Kd.C_take (m := l.length) hC (by simp)
  simpa using h2
set_option maxHeartbeats 1600000 in
set_option maxRecDepth 100000 in
theorem mailcoachlaw01_TwinBytes.twin (A0 : Option Addr) (c0 : Nat) (l0 : List Int) (w : World) (hr0 : Kd.C (Kd.int .u8) w A0 l0.length l0) (hc0 : l0.length ≤ c0) (hn : l0.length ≤ 140737488351232) :
    Calls Tryz.prog 26 #[.slice A0 l0.length c0] w fun e w' => ∃ v, e = .returned v ∧ Twin w' w.heap.size v l0 ∧ Below w.heap.size w w' := by
  have HR0 := Aside0.mk hr0
  clear hr0 hc0
  obtain ⟨i0, hi, hzz⟩ := Option.map_eq_some_iff.1 man_info_u8
  simp only [Prod.mk.injEq] at hzz
  obtain ⟨hz0, hz1, hz2⟩ := hzz
  have hmk : ∀ W : World, (Instr.makeSlice 23 (.int .i64 0) (.int .i64 ((l0.length : Int) + 1))).run Tryz.prog W = .ok (.slice (some ⟨W.heap.size, 0, none⟩) 0 (l0.length + 1)) (W.alloc (.cells (madeCells #[.int .u8 0] (l0.length + 1)) 5)) := by
    intro W
    have h := run_make W 23 5 i0 (.int .u8 0) Tryz.underlying23 hi hz0 .i64 .i64 0 ((l0.length + 1 : Nat) : Int) (by omega) (by omega) (by rw [hz2]; omega) (by omega)
    rw [hz1] at h
    simp only [Int.toNat_natCast, Int.toNat_zero, Int.natCast_add, Int.natCast_one, Nat.mul_one, Value.cells] at h
    exact h
  go_enter Tryz.func26, Tryz.ntmps26
  go_wp2
  go_loopw [3, 4] (fun v3 v4 wr => ∃ k : Nat, k ≤ l0.length ∧ v4 = .int .i64 k ∧ Aside0 (wr.ownsRow w.heap.size 5 1 v3 (l0.take k).length (nums .u8 (l0.take k))) ∧ Aside0 (Below w.heap.size w wr)) (fun _ v4 _ => l0.length - (intOf v4).toNat)
  case atStart => exact ⟨0, by omega, rfl, ⟨World.ownsRow_made w _ _ (Nat.le_refl _) (by simp only [maxLen]; omega) (by rw [size_madeCells, Nat.mul_one])⟩, ⟨below_alloc (Below.refl _ _) _⟩⟩
  case round =>
    obtain ⟨k, hk, rfl, HO, HB⟩ := hrel
    by_cases hk2 : k < l0.length
    · obtain ⟨ad2, e2, hx2⟩ := Kd.at_int (Kd.C_below HR0.out HB.out) k (by omega) (by omega)
      cases e2
      simp only [Int.toNat_natCast] at hx2
      have hlk : (l0.take k).length = k := by rw [List.length_take]; omega
      have HLK := Aside0.mk hlk
      clear hlk
      go_wp2_with (at_builtin; refine print_append_num (w0 := w) w.heap.size rfl (.tmp 15) (.tmp 20) 23 5 .u8 1 rfl Tryz.underlying23 man_info_u8 (by decide) _ (l0.take k) (rd l0 k) rfl rfl HO.out HB.out HB.out.size (by rw [HLK.out]; omega) ?_; intro v1 w1 ho1 hb1 _ _)
      go_roundw
      case rel => exact ⟨k + 1, by omega, by go_num, ⟨by rw [man_take_snoc l0 k hk2]; exact ho1⟩, ⟨hb1⟩⟩
      case measure => simp [intOf]; omega
    · have hkl : l0.take k = l0 := List.take_of_length_le (by omega)
      rw [hkl] at HO
      clear hkl
      go_wp2_with (at_builtin; go_must (refine print_append_num (w0 := w) w.heap.size rfl (.tmp 22) (.tmp 23) 23 5 .u8 1 rfl Tryz.underlying23 man_info_u8 (by decide) _ l0 77 rfl rfl HO.out HB.out HB.out.size (by omega) ?_; intro v1 w1 ho1 hb1 _ _; obtain ⟨g, cap, rfl, hgb, hgl⟩ := ho1.form (by simp); have hcap := own_cap ho1; have hL77 : (l0 ++ [(77 : Int)]).length = l0.length + 1 := (by simp); rw [hL77] at hcap ho1 ⊢; clear hL77; have HO1 := Aside0.mk ho1; clear ho1; have HB1 := Aside0.mk hb1; clear hb1; have hcut := cut_to (P := Tryz.prog) 23 5 .i64 (i := i0) Tryz.underlying23 hi (some ⟨g, 0, none⟩) (l0.length + 1) cap l0.length (by omega) (by omega) hcap))
      go_ret
      exact ⟨_, rfl, ⟨g, cap, rfl, HO1.out⟩, HB1.out⟩
set_option maxHeartbeats 1600000 in
set_option maxRecDepth 100000 in
theorem mailcoachlaw01_LeftBytes.left (A0 : Option Addr) (c0 : Nat) (A1 : Option Addr) (c1 : Nat) (l1 : List Int) (w : World) (hr0 : Kd.C (Kd.int .u8) w A0 l1.length l1) (hc0 : l1.length + 1 ≤ c0) (hr2 : Kd.C (Kd.int .u8) w A0 (l1 ++ [77]).length (l1 ++ [77])) (hr1 : Kd.C (Kd.int .u8) w A1 l1.length l1) (hc1 : l1.length ≤ c1) :
    Calls Tryz.prog 41 #[.slice A0 l1.length c0, .slice A1 l1.length c1] w fun e w' => e = .returned (.bool true) ∧ Drawn0 w w' := by
  have HR0 := Aside0.mk hr0
  have HR1 := Aside0.mk hr1
  have HR2 := Aside0.mk hr2
  clear hr0 hr1 hr2
  obtain ⟨i0, hi, hzz⟩ := Option.map_eq_some_iff.1 man_info_u8
  have hl : l1.length ≤ 9223372036854775806 := by have := HR2.out.2.1; rw [List.length_append] at this; simp at this; omega
  have h77 : (l1 ++ [(77 : Int)]).length = l1.length + 1 := by simp
  have hrd : rd (l1 ++ [77]) l1.length = 77 := by simp [rd]
  obtain ⟨ad, e0, hx7⟩ := Kd.at_int HR2.out l1.length (by omega) (by rw [h77]; omega)
  cases e0
  rw [hrd] at hx7
  simp only [Int.toNat_natCast] at hx7
  have hcut := cut_to (P := Tryz.prog) 23 5 .i64 (i := i0) Tryz.underlying23 hi (some ad) c0 c0 ((l1.length : Int) + 1) (by omega) (by omega) (by omega)
  clear hzz hi
  clear h77 hrd
  have hcap : decide (c0 ≤ l1.length) = false := by simp; omega
  have hne : ((l1.length : Int) != (l1.length : Int)) = false := by simp
  go_enter Tryz.func41, Tryz.ntmps41
  go_wp2
  go_loopw [5] (fun v5 wr => ∃ k : Nat, k ≤ l1.length ∧ v5 = .int .i64 k ∧ Drawn0 w wr) (fun v5 _ => l1.length - (intOf v5).toNat)
  case atStart => exact ⟨0, by omega, rfl, Drawn0.refl _⟩
  case round =>
    obtain ⟨k, hk, rfl, HD⟩ := hrel
    obtain ⟨m1, rfl⟩ := HD.out
    by_cases hk2 : k < l1.length
    · obtain ⟨ad2, e2, hx2⟩ := Kd.at_int HR1.out k (by omega) (by omega)
      cases e2
      obtain ⟨ad3, e3, hx3⟩ := Kd.at_int HR0.out k (by omega) (by omega)
      cases e3
      simp only [Int.toNat_natCast] at hx2 hx3
      go_wp2
      go_quiet (fail)
      go_wp2
      go_roundw
      case rel => exact ⟨k + 1, by omega, by go_num, by repeat (first | exact Drawn0.refl _ | apply Drawn0.step)⟩
      case measure => simp [intOf]; omega
    · go_wp2
      go_ret
      exact ⟨rfl, HD⟩
/-! ### mailcoachlaw01.TwinFields, LeftFields -/
def tw_spare : S62 := ⟨⟨#[115, 112, 97, 114, 101]⟩, ⟨#[]⟩⟩
theorem tw_snoc (l : List S62) (k : Nat) (hk : k < l.length) : l.take (k + 1) = l.take k ++ [rd_T62 l k] := by
  rw [List.take_add_one, List.getElem?_eq_getElem hk]
  simp [rd_T62, List.getElem?_eq_getElem hk]
set_option maxHeartbeats 3200000 in
set_option maxRecDepth 100000 in
theorem mailcoachlaw01_TwinFields.twin (A0 : Option Addr) (c0 : Nat) (l0 : List S62) (w : World) (hr0 : Kd.C k62 w A0 l0.length l0) (hc0 : l0.length ≤ c0) (hn : (l0.length + 1) * 32 ≤ 140737488355328) :
    Calls Tryz.prog 25 #[.slice A0 l0.length c0] w fun e w' => (∃ (A : Option Addr) (cap : Nat), e = .returned (.slice A l0.length cap) ∧ l0.length + 1 ≤ cap ∧ Kd.R k62 62 w' w.heap.size (fun _ => True) (.slice A (l0.length + 1) cap) (l0 ++ [tw_spare])) ∧ Below w.heap.size w w' := by
  have HR0 := Aside0.mk hr0
  clear hr0 hc0
  obtain ⟨i0, hi, hzz⟩ := Option.map_eq_some_iff.1 info62
  simp only [Prod.mk.injEq] at hzz
  obtain ⟨hz0, hz1, hz2⟩ := hzz
  have hmk : ∀ W : World, (Instr.makeSlice 22 (.int .i64 0) (.int .i64 ((l0.length : Int) + 1))).run Tryz.prog W = .ok (.slice (some ⟨W.heap.size, 0, none⟩) 0 (l0.length + 1)) (W.alloc (.cells (madeCells #[.string ⟨#[]⟩, .string ⟨#[]⟩] ((l0.length + 1) * 2)) 62)) := by
    intro W
    have h := run_make W 22 62 i0 (.agg #[(.string ⟨#[]⟩), (.string ⟨#[]⟩)]) Tryz.underlying22 hi hz0 .i64 .i64 0 ((l0.length + 1 : Nat) : Int) (by omega) (by omega) (by rw [hz2]; omega) (by omega)
    rw [hz1] at h
    simp only [Int.toNat_natCast, Int.toNat_zero, Int.natCast_add, Int.natCast_one, Value.cells] at h
    have e : ((l0.length : Int) + 1).toNat = l0.length + 1 := by omega
    rw [e] at h
    exact h
  have hw1 : wrap64 ((l0.length : Int) + 1) = (l0.length : Int) + 1 := by unfold wrap64; omega
  go_enter Tryz.func25, Tryz.ntmps25
  go_wp2
  go_loopw [3, 4] (fun v3 v4 wr => ∃ k : Nat, k ≤ l0.length ∧ v4 = .int .i64 k ∧ Aside0 (Kd.R k62 62 wr w.heap.size (fun _ => True) v3 (l0.take k)) ∧ Aside0 (Below w.heap.size w wr)) (fun _ v4 _ => l0.length - (intOf v4).toNat)
  case atStart => exact ⟨0, by omega, rfl, ⟨⟨fun _ _ => trivial, [], World.ownsRow_made w _ _ (Nat.le_refl _) (by simp only [maxLen]; omega) (size_madeCells _ _), Reps.none _ _⟩⟩, ⟨below_alloc (Below.refl _ _) _⟩⟩
  case round =>
    obtain ⟨k, hk, rfl, HO, HB⟩ := hrel
    by_cases hk2 : k < l0.length
    · obtain ⟨ad2, e2, hx2, hx3⟩ := at_T62 (Kd.C_below HR0.out HB.out) k (by omega) (by omega)
      cases e2
      simp only [Int.toNat_natCast] at hx2 hx3
      have hlk : (l0.take k).length = k := by rw [List.length_take]; omega
      have HLK := Aside0.mk hlk
      clear hlk
      go_wp2_with (first | ((with_reducible refine gate_builtin (b := .append) (xs := #[.tmp 15, .tmp 20]) rfl ?_); (try (refine gate_guard (by rfl) ?_; dsimp only)); at_builtin; refine Kd.R_append k62 (w0 := w) w.heap.size rfl (.tmp 15) (.tmp 20) 22 62 (.agg #[(.string ⟨#[]⟩), (.string ⟨#[]⟩)]) 32 rfl Tryz.underlying22 info62 rfl (by decide) (by omega) _ (l0.take k) (rd_T62 l0 k) [.string (rd_T62 l0 k).f0, .string (rd_T62 l0 k).f1] (fun _ => True) (fun _ => False) rfl rfl ?aP (fun _ hk => hk.elim) (fun _ _ => trivial) HO.out HB.out HB.out.size ?aL ?_; (case aP => exact k62_mkM _ _ _ (rd_T62 l0 k)); (case aL => (rw [HLK.out]; omega)); intro v1 w1 ho hb hg hat; have HO1 := Aside0.mk ho; have HB1 := Aside0.mk hb; clear ho hb hg hat))
      go_roundw
      case rel => exact ⟨k + 1, by omega, by go_num, ⟨by rw [show l0.take (k + 1) = l0.take k ++ [(rd_T62 l0 k)] from tw_snoc l0 k hk2]; exact HO1.out⟩, ⟨HB1.out⟩⟩
      case measure => simp [intOf]; omega
    · have hkl : l0.take k = l0 := List.take_of_length_le (by omega)
      rw [hkl] at HO
      clear hkl
      go_wp2_with (first | ((with_reducible refine gate_builtin (b := .append) (xs := #[.tmp 22, .tmp 24]) rfl ?_); (try (refine gate_guard (by rfl) ?_; dsimp only)); at_builtin; refine Kd.R_append k62 (w0 := w) w.heap.size rfl (.tmp 22) (.tmp 24) 22 62 (.agg #[(.string ⟨#[]⟩), (.string ⟨#[]⟩)]) 32 rfl Tryz.underlying22 info62 rfl (by decide) (by omega) _ l0 tw_spare [.string tw_spare.f0, .string tw_spare.f1] (fun _ => True) (fun _ => False) rfl rfl ?aP (fun _ hk => hk.elim) (fun _ _ => trivial) HO.out HB.out HB.out.size ?aL ?_; (case aP => exact k62_mkM _ _ _ tw_spare); (case aL => omega); intro v1 w1 ho hb hg hat; obtain ⟨hok1, inner1, hown1, hr1⟩ := ho; obtain ⟨g, cap, rfl, hgb, hgl⟩ := hown1.form (by simp); have hcap := own_cap hown1; have ho : Kd.R k62 62 w1 w.heap.size (fun _ => True) (.slice (some ⟨g, 0, none⟩) (l0 ++ [tw_spare]).length cap) (l0 ++ [tw_spare]) := ⟨hok1, inner1, hown1, hr1⟩; clear hok1 hown1 hr1; have hL1 : (l0 ++ [tw_spare]).length = l0.length + 1 := (by simp); rw [hL1] at hcap ho ⊢; clear hL1; have HO1 := Aside0.mk ho; have HB1 := Aside0.mk hb; clear ho hb hg hat; have hcut := cut_to (P := Tryz.prog) 22 62 .i64 (i := i0) Tryz.underlying22 hi (some ⟨g, 0, none⟩) (l0.length + 1) cap l0.length (by omega) (by omega) hcap))
      go_ret
      exact ⟨⟨_, _, rfl, hcap, HO1.out⟩, HB1.out⟩
attribute [local go_sem high] eqA62
theorem tw_rd (l : List S62) (k : Nat) (hk : k < l.length) : rd_T62 (l ++ [tw_spare]) k = rd_T62 l k := by
  simp [rd_T62, List.getD_eq_getElem?_getD, List.getElem?_append_left hk]
theorem tw_last (l : List S62) : rd_T62 (l ++ [tw_spare]) l.length = tw_spare := by
  simp [rd_T62, List.getD_eq_getElem?_getD]
theorem tw_name : (tw_spare.f0.toList == [115, 112, 97, 114, 101]) = true := by kernel_rfl
set_option maxHeartbeats 3200000 in
set_option maxRecDepth 100000 in
theorem mailcoachlaw01_LeftFields.left (A0 : Option Addr) (c0 : Nat) (A1 : Option Addr) (c1 : Nat) (l1 : List S62) (w : World) (hr2 : Kd.C k62 w A0 (l1.length + 1) (l1 ++ [tw_spare])) (hc0 : l1.length + 1 ≤ c0) (hr1 : Kd.C k62 w A1 l1.length l1) (hc1 : l1.length ≤ c1) (hl : (l1.length + 1) * 32 ≤ 140737488355328) :
    Calls Tryz.prog 40 #[.slice A0 l1.length c0, .slice A1 l1.length c1] w fun e w' => e = .returned (.bool true) ∧ Below w.heap.size w w' := by
  have HR1 := Aside0.mk hr1
  have HR2 := Aside0.mk hr2
  clear hr1 hr2
  obtain ⟨i0, hi, hzz⟩ := Option.map_eq_some_iff.1 info62
  obtain ⟨ad, e0, hx7, hx8⟩ := at_T62 HR2.out l1.length (by omega) (by omega)
  cases e0
  rw [tw_last] at hx7 hx8
  simp only [Int.toNat_natCast] at hx7 hx8
  have hcut := cut_to (P := Tryz.prog) 22 62 .i64 (i := i0) Tryz.underlying22 hi (some ad) c0 c0 ((l1.length : Int) + 1) (by omega) (by omega) (by omega)
  clear hzz hi
  have hcap : decide (c0 ≤ l1.length) = false := by simp; omega
  have hne : ((l1.length : Int) != (l1.length : Int)) = false := by simp
  go_enter Tryz.func40, Tryz.ntmps40
  go_wp2
  go_loopw [5] (fun v5 wr => ∃ k : Nat, k ≤ l1.length ∧ v5 = .int .i64 k ∧ Drawn0 w wr) (fun v5 _ => l1.length - (intOf v5).toNat)
  case atStart => exact ⟨0, by omega, rfl, Drawn0.refl _⟩
  case round =>
    obtain ⟨k, hk, rfl, HD⟩ := hrel
    obtain ⟨m1, rfl⟩ := HD.out
    by_cases hk2 : k < l1.length
    · obtain ⟨ad2, e2, hx2, hy2⟩ := at_T62 HR1.out k (by omega) (by omega)
      cases e2
      obtain ⟨ad3, e3, hx3, hy3⟩ := at_T62 HR2.out k (by omega) (by omega)
      cases e3
      rw [tw_rd l1 k hk2] at hx3 hy3
      simp only [Int.toNat_natCast] at hx2 hx3 hy2 hy3
      go_wp2
      go_quiet (fail)
      go_wp2
      go_roundw
      case rel => exact ⟨k + 1, by omega, by go_num, by repeat (first | exact Drawn0.refl _ | apply Drawn0.step)⟩
      case measure => simp [intOf]; omega
    · obtain ⟨wz, hwz⟩ : ∃ wz, wz = w.drewN m1 := ⟨_, rfl⟩
      have HBz : Below w.heap.size w wz := by rw [hwz]; exact pw_below_drewN (Below.refl _ _) _
      rw [← hwz]
      clear hwz hx7 hx8 HD
      obtain ⟨ad', e0, hx7, hx8⟩ := at_T62 (Kd.C_below HR2.out HBz) l1.length (by omega) (by omega)
      cases e0
      rw [tw_last] at hx7 hx8
      simp only [Int.toNat_natCast] at hx7 hx8
      go_wp2
      go_ret
      exact ⟨by show Ending.returned (.bool (tw_spare.f0.toList == [115, 112, 97, 114, 101])) = _; rw [tw_name], below_alloc HBz _⟩
/-! ### rows that a store elsewhere leaves -/
theorem far_row {α : Type} {R R' : α → List Value → Prop} {size : Nat} {W W' : World} {A : Option Addr} {n : Nat} {xs : List α} {B : Nat} {cells : Array Value} {t : TypeId} (h : ReadsRow R size W A n xs) (hB : W.heap[B]? = some (.cells cells t (0, 0))) (hsl : ∀ u ∈ cells, ∃ a b c, u = Value.slice a b c)
    (hR : ∀ p c, R p c → R' p c ∧ ∀ u ∈ c, ∀ a b c', u ≠ Value.slice a b c') (ho : ∀ k, k ≠ B → W'.heap[k]? = W.heap[k]?) : ReadsRow R' size W' A n xs := by
  obtain ⟨h1, h2, h3⟩ := h
  refine ⟨h1, h2, fun hp => ?_⟩
  obtain ⟨ad, e, hc⟩ := h3 hp
  refine ⟨ad, e, fun j p hj => ?_⟩
  obtain ⟨c, hl, hr, hcell⟩ := hc j p hj
  refine ⟨c, hl, (hR p c hr).1, fun i u hu => ?_⟩
  have h4 := hcell i u hu
  have hne : (ad.add (j * size + i)).block ≠ B := by
    intro eb
    unfold World.cell? at h4
    rw [eb, hB] at h4
    simp only at h4
    split at h4
    · cases h4
    · obtain ⟨a, b, c', e'⟩ := hsl u (Array.mem_of_getElem? h4)
      exact (hR p c hr).2 u (List.mem_of_getElem? hu) a b c' e'
  unfold World.cell? at h4 ⊢
  rw [ho _ hne]
  exact h4
theorem far_fields {W W' : World} {A : Option Addr} {n : Nat} {xs : List S62} {B : Nat} {cells : Array Value} {t : TypeId} (h : Kd.C k62 W A n xs) (hB : W.heap[B]? = some (.cells cells t (0, 0))) (hsl : ∀ u ∈ cells, ∃ a b c, u = Value.slice a b c) (ho : ∀ k, k ≠ B → W'.heap[k]? = W.heap[k]?) : Kd.C k62 W' A n xs :=
  far_row h hB hsl (fun p c hp => by obtain rfl := k62_open hp; exact ⟨k62_mk W' p, by simp⟩) ho
theorem far_bytes {W W' : World} {A : Option Addr} {n : Nat} {xs : List Int} {B : Nat} {cells : Array Value} {t : TypeId} (h : Kd.C (Kd.int .u8) W A n xs) (hB : W.heap[B]? = some (.cells cells t (0, 0))) (hsl : ∀ u ∈ cells, ∃ a b c, u = Value.slice a b c) (ho : ∀ k, k ≠ B → W'.heap[k]? = W.heap[k]?) : Kd.C (Kd.int .u8) W' A n xs :=
  far_row h hB hsl (fun p c (hp : c = [Value.int .u8 p]) => by subst hp; exact ⟨rfl, by simp⟩) ho
/-! ### TwinMessage, LeftMessage (made by wip/gen_may.py) -/
structure TwinM (w : World) (D0 : Option Addr) (d0 : Nat) (l0 : List S62) (D1 : Option Addr) (d1 : Nat) (l1 : List Int) (D2 : Option Addr) (d2 : Nat) (l2 : List S62) : Prop where
  c0 : Kd.C k62 w D0 (l0 ++ [tw_spare]).length (l0 ++ [tw_spare])
  g0 : l0.length + 1 ≤ d0
  c1 : Kd.C (Kd.int .u8) w D1 (l1 ++ [77]).length (l1 ++ [77])
  g1 : l1.length + 1 ≤ d1
  c2 : Kd.C k62 w D2 (l2 ++ [tw_spare]).length (l2 ++ [tw_spare])
  g2 : l2.length + 1 ≤ d2
section
variable {w w1 : World} {D0 : Option Addr} {d0 : Nat} {l0 : List S62} {D1 : Option Addr} {d1 : Nat} {l1 : List Int} {D2 : Option Addr} {d2 : Nat} {l2 : List S62}
theorem TwinM.below (h : TwinM w D0 d0 l0 D1 d1 l1 D2 d2 l2) (hb : Below w.heap.size w w1) : TwinM w1 D0 d0 l0 D1 d1 l1 D2 d2 l2 :=
  ⟨Kd.C_below h.c0 hb, h.g0, Kd.C_below h.c1 hb, h.g1, Kd.C_below h.c2 hb, h.g2⟩
theorem tw_less {α : Type} {k : Kd α} {A : Option Addr} {l : List α} {z : α} (h : Kd.C k w A (l ++ [z]).length (l ++ [z])) : Kd.C k w A l.length l := by
  have := Kd.C_take h (show l.length ≤ (l ++ [z]).length by simp)
  rwa [List.take_left] at this
theorem tw_more {α : Type} {k : Kd α} {A : Option Addr} {l : List α} {z : α} (h : Kd.C k w A (l ++ [z]).length (l ++ [z])) : Kd.C k w A (l.length + 1) (l ++ [z]) := by
  have e : (l ++ [z]).length = l.length + 1 := by simp
  rwa [e] at h
end
set_option maxHeartbeats 6400000 in
set_option maxRecDepth 100000 in
theorem mailcoachlaw01_TwinMessage.twin (A0_0 : Option Addr) (c0_0 : Nat) (l0_0 : List S62) (A0_1 : Option Addr) (c0_1 : Nat) (l0_1 : List Int) (A0_2 : Option Addr) (c0_2 : Nat) (l0_2 : List S62) (w : World) (hr0_0 : Kd.C k62 w A0_0 l0_0.length l0_0) (hc0_0 : l0_0.length ≤ c0_0) (hr0_1 : Kd.C (Kd.int .u8) w A0_1 l0_1.length l0_1) (hc0_1 : l0_1.length ≤ c0_1) (hr0_2 : Kd.C k62 w A0_2 l0_2.length l0_2) (hc0_2 : l0_2.length ≤ c0_2) (n0 : (l0_0.length + 1) * 32 ≤ 140737488355328) (n1 : l0_1.length ≤ 140737488351232) (n2 : (l0_2.length + 1) * 32 ≤ 140737488355328) :
    Calls Tryz.prog 7 #[.agg #[.slice A0_0 l0_0.length c0_0, .slice A0_1 l0_1.length c0_1, .slice A0_2 l0_2.length c0_2]] w fun e w' => (∃ (D0 : Option Addr) (d0 : Nat) (D1 : Option Addr) (d1 : Nat) (D2 : Option Addr) (d2 : Nat), e = .returned (.agg #[.slice D0 l0_0.length d0, .slice D1 l0_1.length d1, .slice D2 l0_2.length d2]) ∧ TwinM w' D0 d0 l0_0 D1 d1 l0_1 D2 d2 l0_2) ∧ Below w.heap.size w w' := by
  have HR0 := Aside0.mk hr0_0
  have HR1 := Aside0.mk hr0_1
  have HR2 := Aside0.mk hr0_2
  clear hr0_0 hr0_1 hr0_2
  obtain ⟨W0, hW0⟩ : ∃ W0, (w.alloc (.cells #[.slice A0_0 l0_0.length c0_0, .slice A0_1 l0_1.length c0_1, .slice A0_2 l0_2.length c0_2] 25)).alloc (.cells #[.slice none 0 0, .slice none 0 0, .slice none 0 0] 25) = W0 := ⟨_, rfl⟩
  have BKm := Aside0.mk (show W0.heap[w.heap.size]? = some (.cells #[.slice A0_0 l0_0.length c0_0, .slice A0_1 l0_1.length c0_1, .slice A0_2 l0_2.length c0_2] 25 (0, 0)) by rw [← hW0]; exact blk_alloc (tok_block _ _ _) _)
  have BKr := Aside0.mk (show W0.heap[w.heap.size + 1]? = some (.cells #[.slice none 0 0, .slice none 0 0, .slice none 0 0] 25 (0, 0)) by rw [← hW0]; have := tok_block (w.alloc (.cells #[.slice A0_0 l0_0.length c0_0, .slice A0_1 l0_1.length c0_1, .slice A0_2 l0_2.length c0_2] 25)) #[.slice none 0 0, .slice none 0 0, .slice none 0 0] 25; rw [World.size_alloc] at this; exact this)
  have HBc := Aside0.mk (show Below w.heap.size w W0 by rw [← hW0]; exact below_alloc (below_alloc (Below.refl _ _) _) _)
  go_enter Tryz.func7, Tryz.ntmps7
  go_upto_region 1 with (fail)
  (try rw [hW0])
  clear hW0
  refine wp_region_held_drew (S := fun w' => w'.heap[w.heap.size]? = some (.cells #[.slice A0_0 l0_0.length c0_0, .slice A0_1 l0_1.length c0_1, .slice A0_2 l0_2.length c0_2] 25 (0, 0))) (by kernel_rfl) ?_ (fun hHeld => ?_)
  · exact BKm.out
  obtain ⟨R1, hR1⟩ : ∃ z_, W0.drew = z_ := ⟨_, rfl⟩
  replace BKr := Aside0.mk (show R1.heap[w.heap.size + 1]? = some (.cells #[.slice none 0 0, .slice none 0 0, .slice none 0 0] 25 (0, 0)) by rw [← hR1]; exact BKr.out)
  replace HBc := Aside0.mk (show Below w.heap.size w R1 by rw [← hR1]; exact below_drew1 HBc.out)
  rw [hR1] at hHeld ⊢
  clear hR1 BKm
  (refine msg_take (i := 0) (d := some 3) (v := .pointer (some ⟨w.heap.size, 0, none⟩)) rfl rfl (by kernel_rfl) (by kernel_rfl) (by kernel_rfl) (fun _ _ _ h => h) (Or.inl ⟨by rfl, ?hy⟩) (by assumption) ?_; (case hy => (intro w' hSw; go_simp; try (with_reducible rfl)))); (try simp only [Act.put, List.setIfInBounds_toArray, List.set_cons_zero, List.set_cons_succ])
  (refine msg_take (i := 1) (d := some 4) (v := .slice A0_0 l0_0.length c0_0) rfl rfl (by kernel_rfl) (by kernel_rfl) (by kernel_rfl) (fun _ _ _ h => h) (Or.inl ⟨by rfl, ?hy⟩) (by assumption) ?_; (case hy => (intro w' hSw; have e0 : w'.cell? ⟨w.heap.size, 0, none⟩ = some (.slice A0_0 l0_0.length c0_0) := (blk_cell hSw 0).trans rfl; have e1 : w'.cell? ⟨w.heap.size, 1, none⟩ = some (.slice A0_1 l0_1.length c0_1) := (blk_cell hSw 1).trans rfl; have e2 : w'.cell? ⟨w.heap.size, 2, none⟩ = some (.slice A0_2 l0_2.length c0_2) := (blk_cell hSw 2).trans rfl; clear hSw; go_simp; try (with_reducible rfl)))); (try simp only [Act.put, List.setIfInBounds_toArray, List.set_cons_zero, List.set_cons_succ])
  (refine msg_take (i := 3) (d := some 6) (v := .pointer (some ⟨w.heap.size, 1, none⟩)) rfl rfl (by kernel_rfl) (by kernel_rfl) (by kernel_rfl) (fun _ _ _ h => h) (Or.inl ⟨by rfl, ?hy⟩) (by assumption) ?_; (case hy => (intro w' hSw; go_simp; try (with_reducible rfl)))); (try simp only [Act.put, List.setIfInBounds_toArray, List.set_cons_zero, List.set_cons_succ])
  (refine msg_take (i := 4) (d := some 7) (v := .slice A0_1 l0_1.length c0_1) rfl rfl (by kernel_rfl) (by kernel_rfl) (by kernel_rfl) (fun _ _ _ h => h) (Or.inl ⟨by rfl, ?hy⟩) (by assumption) ?_; (case hy => (intro w' hSw; have e0 : w'.cell? ⟨w.heap.size, 0, none⟩ = some (.slice A0_0 l0_0.length c0_0) := (blk_cell hSw 0).trans rfl; have e1 : w'.cell? ⟨w.heap.size, 1, none⟩ = some (.slice A0_1 l0_1.length c0_1) := (blk_cell hSw 1).trans rfl; have e2 : w'.cell? ⟨w.heap.size, 2, none⟩ = some (.slice A0_2 l0_2.length c0_2) := (blk_cell hSw 2).trans rfl; clear hSw; go_simp; try (with_reducible rfl)))); (try simp only [Act.put, List.setIfInBounds_toArray, List.set_cons_zero, List.set_cons_succ])
  (refine msg_take (i := 6) (d := some 9) (v := .pointer (some ⟨w.heap.size, 2, none⟩)) rfl rfl (by kernel_rfl) (by kernel_rfl) (by kernel_rfl) (fun _ _ _ h => h) (Or.inl ⟨by rfl, ?hy⟩) (by assumption) ?_; (case hy => (intro w' hSw; go_simp; try (with_reducible rfl)))); (try simp only [Act.put, List.setIfInBounds_toArray, List.set_cons_zero, List.set_cons_succ])
  (refine msg_take (i := 7) (d := some 10) (v := .slice A0_2 l0_2.length c0_2) rfl rfl (by kernel_rfl) (by kernel_rfl) (by kernel_rfl) (fun _ _ _ h => h) (Or.inl ⟨by rfl, ?hy⟩) (by assumption) ?_; (case hy => (intro w' hSw; have e0 : w'.cell? ⟨w.heap.size, 0, none⟩ = some (.slice A0_0 l0_0.length c0_0) := (blk_cell hSw 0).trans rfl; have e1 : w'.cell? ⟨w.heap.size, 1, none⟩ = some (.slice A0_1 l0_1.length c0_1) := (blk_cell hSw 1).trans rfl; have e2 : w'.cell? ⟨w.heap.size, 2, none⟩ = some (.slice A0_2 l0_2.length c0_2) := (blk_cell hSw 2).trans rfl; clear hSw; go_simp; try (with_reducible rfl)))); (try simp only [Act.put, List.setIfInBounds_toArray, List.set_cons_zero, List.set_cons_succ])
  refine wpAnyH_ready (rs := [2]) (by kernel_rfl) (by simp) ?_
  refine AllReadyH.cons rfl (fun K hK => ?_) AllReadyH.nil
  go_simp
  (go_at_call 25; refine (mailcoachlaw01_TwinFields.twin A0_0 c0_0 l0_0 _ (Kd.C_below HR0.out HBc.out) hc0_0 n0).mono ?_); rintro e u1 ⟨⟨D0, d0, rfl, g2, ho⟩, hz⟩
  have CF2 := Aside0.mk (Kd.R_reads' ho).2.2
  clear ho
  have BKr := Aside0.mk (blk_below BKr.out hz)
  have HBc := Aside0.mk (below_step HBc.out hz)
  have hS := blk_below hHeld hz
  clear hz
  (try go_wp2_with (fail))
  refine hK.out _ _ hS (fun hHeld => ?_)
  clear hS hK K
  (try simp only [Act.put, List.setIfInBounds_toArray, List.set_cons_zero, List.set_cons_succ])
  refine wpAnyH_ready (rs := [5]) (by kernel_rfl) (by simp) ?_
  refine AllReadyH.cons rfl (fun K hK => ?_) AllReadyH.nil
  go_simp
  (go_at_call 26; refine (mailcoachlaw01_TwinBytes.twin A0_1 c0_1 l0_1 _ (Kd.C_below HR1.out HBc.out) hc0_1 n1).mono ?_); rintro e u2 ⟨v, rfl, tv, hz⟩
  obtain ⟨D1, d1, rfl, _, g5, ca⟩ := tv.reads
  have CF5 := Aside0.mk ca
  clear ca tv
  have CF2 := Aside0.mk (Kd.C_below CF2.out hz)
  have BKr := Aside0.mk (blk_below BKr.out hz)
  have HBc := Aside0.mk (below_step HBc.out hz)
  have hS := blk_below hHeld hz
  clear hz
  (try go_wp2_with (fail))
  refine hK.out _ _ hS (fun hHeld => ?_)
  clear hS hK K
  (try simp only [Act.put, List.setIfInBounds_toArray, List.set_cons_zero, List.set_cons_succ])
  refine wpAnyH_ready (rs := [8]) (by kernel_rfl) (by simp) ?_
  refine AllReadyH.cons rfl (fun K hK => ?_) AllReadyH.nil
  go_simp
  (go_at_call 25; refine (mailcoachlaw01_TwinFields.twin A0_2 c0_2 l0_2 _ (Kd.C_below HR2.out HBc.out) hc0_2 n2).mono ?_); rintro e u3 ⟨⟨D2, d2, rfl, g8, ho⟩, hz⟩
  have CF8 := Aside0.mk (Kd.R_reads' ho).2.2
  clear ho
  have CF2 := Aside0.mk (Kd.C_below CF2.out hz)
  have CF5 := Aside0.mk (Kd.C_below CF5.out hz)
  have BKr := Aside0.mk (blk_below BKr.out hz)
  have HBc := Aside0.mk (below_step HBc.out hz)
  have hS := blk_below hHeld hz
  clear hz
  (try go_wp2_with (fail))
  refine hK.out _ _ hS (fun hHeld => ?_)
  clear hS hK K
  (try simp only [Act.put, List.setIfInBounds_toArray, List.set_cons_zero, List.set_cons_succ])
  (refine msg_take (i := 9) (d := some 12) (v := .agg #[.slice D0 l0_0.length d0, .slice D1 l0_1.length d1, .slice D2 l0_2.length d2]) rfl rfl (by kernel_rfl) (by kernel_rfl) (by kernel_rfl) (fun _ _ _ h => h) (Or.inl ⟨by rfl, ?hy⟩) (by assumption) ?_; (case hy => (intro w' hSw; go_simp; try (with_reducible rfl)))); (try simp only [Act.put, List.setIfInBounds_toArray, List.set_cons_zero, List.set_cons_succ])
  refine wpAnyH_ready (rs := [10]) (by kernel_rfl) (by simp) ?_
  refine AllReadyH.cons rfl (fun K hK => ?_) AllReadyH.nil
  have zo0 : u3.cell? ⟨w.heap.size + 1, 0, none⟩ = some (.slice none 0 0) ∧ u3.frozen? ⟨w.heap.size + 1, 0, none⟩ = false := ⟨(blk_cell BKr.out 0).trans rfl, blk_frozen BKr.out 0⟩
  have zo1 : u3.cell? ⟨w.heap.size + 1, 1, none⟩ = some (.slice none 0 0) ∧ u3.frozen? ⟨w.heap.size + 1, 1, none⟩ = false := ⟨(blk_cell BKr.out 1).trans rfl, blk_frozen BKr.out 1⟩
  have zo2 : u3.cell? ⟨w.heap.size + 1, 2, none⟩ = some (.slice none 0 0) ∧ u3.frozen? ⟨w.heap.size + 1, 2, none⟩ = false := ⟨(blk_cell BKr.out 2).trans rfl, blk_frozen BKr.out 2⟩
  obtain ⟨s1, s2⟩ := msg_store3 (.slice D0 l0_0.length d0) (.slice D1 l0_1.length d1) (.slice D2 l0_2.length d2) BKr.out
  go_simp
  obtain ⟨wn, hwn⟩ : ∃ z_, ((u3.setCell ⟨w.heap.size + 1, 0, none⟩ (.slice D0 l0_0.length d0)).setCell ⟨w.heap.size + 1, 1, none⟩ (.slice D1 l0_1.length d1)).setCell ⟨w.heap.size + 1, 2, none⟩ (.slice D2 l0_2.length d2) = z_ := ⟨_, rfl⟩
  have HBc := Aside0.mk (show Below w.heap.size w wn by rw [← hwn]; exact ((HBc.out.setCell (p := ⟨w.heap.size + 1, 0, none⟩) (Nat.le_succ _) _).setCell (p := ⟨w.heap.size + 1, 1, none⟩) (Nat.le_succ _) _).setCell (p := ⟨w.heap.size + 1, 2, none⟩) (Nat.le_succ _) _)
  rw [hwn] at s1 s2
  have CF2 := Aside0.mk (far_fields CF2.out BKr.out (by simp) s2)
  have CF5 := Aside0.mk (far_bytes CF5.out BKr.out (by simp) s2)
  have CF8 := Aside0.mk (far_fields CF8.out BKr.out (by simp) s2)
  have S1 := Aside0.mk s1
  have hS := (s2 w.heap.size (by omega)).trans hHeld
  (try rw [hwn])
  clear s1 s2 zo0 zo1 zo2 hwn
  refine hK.out _ _ hS (fun hHeld => ?_)
  clear hS hK K
  (try simp only [Act.put, List.setIfInBounds_toArray, List.set_cons_zero, List.set_cons_succ])
  refine wpAnyH_done (by kernel_rfl) ?_ _
  go_wp2_with (fail)
  refine bodyPost_ret (results_cell_row rfl _ _ (w.heap.size + 1) 25 #[.slice D0 l0_0.length d0, .slice D1 l0_1.length d1, .slice D2 l0_2.length d2] (0, 0) _ rfl S1.out Tryz.underlying25 rfl (by kernel_rfl)) rfl ?_
  exact ⟨⟨D0, d0, D1, d1, D2, d2, rfl, ⟨CF2.out, g2, CF5.out, g5, CF8.out, g8⟩⟩, HBc.out⟩
set_option maxHeartbeats 3200000 in
set_option maxRecDepth 100000 in
theorem mailcoachlaw01_LeftMessage.left (D0 : Option Addr) (d0 : Nat) (D1 : Option Addr) (d1 : Nat) (D2 : Option Addr) (d2 : Nat) (A0_0 : Option Addr) (c0_0 : Nat) (l0_0 : List S62) (A0_1 : Option Addr) (c0_1 : Nat) (l0_1 : List Int) (A0_2 : Option Addr) (c0_2 : Nat) (l0_2 : List S62) (w : World) (ht : TwinM w D0 d0 l0_0 D1 d1 l0_1 D2 d2 l0_2) (hr0_0 : Kd.C k62 w A0_0 l0_0.length l0_0) (hc0_0 : l0_0.length ≤ c0_0) (hr0_1 : Kd.C (Kd.int .u8) w A0_1 l0_1.length l0_1) (hc0_1 : l0_1.length ≤ c0_1) (hr0_2 : Kd.C k62 w A0_2 l0_2.length l0_2) (hc0_2 : l0_2.length ≤ c0_2) (n0 : (l0_0.length + 1) * 32 ≤ 140737488355328) (n2 : (l0_2.length + 1) * 32 ≤ 140737488355328) :
    Calls Tryz.prog 12 #[.agg #[.slice D0 l0_0.length d0, .slice D1 l0_1.length d1, .slice D2 l0_2.length d2], .agg #[.slice A0_0 l0_0.length c0_0, .slice A0_1 l0_1.length c0_1, .slice A0_2 l0_2.length c0_2]] w fun e w' => e = .returned (.bool true) ∧ Below w.heap.size w w' := by
  have HR0 := Aside0.mk hr0_0
  have HR1 := Aside0.mk hr0_1
  have HR2 := Aside0.mk hr0_2
  have HTW := Aside0.mk ht
  clear hr0_0 hr0_1 hr0_2 ht
  obtain ⟨W0, hW0⟩ : ∃ W0, (w.alloc (.cells #[.slice D0 l0_0.length d0, .slice D1 l0_1.length d1, .slice D2 l0_2.length d2] 25)).alloc (.cells #[.slice A0_0 l0_0.length c0_0, .slice A0_1 l0_1.length c0_1, .slice A0_2 l0_2.length c0_2] 25) = W0 := ⟨_, rfl⟩
  have BKt : W0.heap[w.heap.size]? = some (.cells #[.slice D0 l0_0.length d0, .slice D1 l0_1.length d1, .slice D2 l0_2.length d2] 25 (0, 0)) := by rw [← hW0]; exact blk_alloc (tok_block _ _ _) _
  have BKm : W0.heap[w.heap.size + 1]? = some (.cells #[.slice A0_0 l0_0.length c0_0, .slice A0_1 l0_1.length c0_1, .slice A0_2 l0_2.length c0_2] 25 (0, 0)) := by rw [← hW0]; have := tok_block (w.alloc (.cells #[.slice D0 l0_0.length d0, .slice D1 l0_1.length d1, .slice D2 l0_2.length d2] 25)) #[.slice A0_0 l0_0.length c0_0, .slice A0_1 l0_1.length c0_1, .slice A0_2 l0_2.length c0_2] 25; rw [World.size_alloc] at this; exact this
  have HB := Aside0.mk (show Below w.heap.size w W0 by rw [← hW0]; exact below_alloc (below_alloc (Below.refl _ _) _) _)
  have t0 : W0.cell? ⟨w.heap.size, 0, none⟩ = some (.slice D0 l0_0.length d0) := (blk_cell BKt 0).trans rfl
  have t1 : W0.cell? ⟨w.heap.size, 1, none⟩ = some (.slice D1 l0_1.length d1) := (blk_cell BKt 1).trans rfl
  have t2 : W0.cell? ⟨w.heap.size, 2, none⟩ = some (.slice D2 l0_2.length d2) := (blk_cell BKt 2).trans rfl
  have m0 : W0.cell? ⟨w.heap.size + 1, 0, none⟩ = some (.slice A0_0 l0_0.length c0_0) := (blk_cell BKm 0).trans rfl
  have m1 : W0.cell? ⟨w.heap.size + 1, 1, none⟩ = some (.slice A0_1 l0_1.length c0_1) := (blk_cell BKm 1).trans rfl
  have m2 : W0.cell? ⟨w.heap.size + 1, 2, none⟩ = some (.slice A0_2 l0_2.length c0_2) := (blk_cell BKm 2).trans rfl
  go_enter Tryz.func12, Tryz.ntmps12
  go_upto_region 1 with (fail)
  (try rw [hW0])
  clear hW0 BKt BKm
  go_wp2_with (first | (go_at_call 40; (with_reducible refine (mailcoachlaw01_LeftFields.left D0 d0 A0_0 c0_0 l0_0 _ (tw_more (HTW.out.below HB.out).c0) HTW.out.g0 (Kd.C_below HR0.out HB.out) hc0_0 n0).mono ?_); rintro e w1 ⟨rfl, hb⟩; have HB1 := Aside0.mk (below_step HB.out hb); have t0a := pw_cell_below hb t0; have t1a := pw_cell_below hb t1; have t2a := pw_cell_below hb t2; have m0a := pw_cell_below hb m0; have m1a := pw_cell_below hb m1; have m2a := pw_cell_below hb m2; clear hb) | (go_at_call 41; (with_reducible refine (mailcoachlaw01_LeftBytes.left D1 d1 A0_1 c0_1 l0_1 _ (tw_less (HTW.out.below HB1.out).c1) HTW.out.g1 (HTW.out.below HB1.out).c1 (Kd.C_below HR1.out HB1.out) hc0_1).mono ?_); rintro e w2 ⟨rfl, hd⟩; have hb := (show Below w1.heap.size w1 w2 from by obtain ⟨q2, rfl⟩ := hd.out; exact pw_below_drewN (Below.refl _ _) _); have HB2 := Aside0.mk (below_step HB1.out hb); have t0b := pw_cell_below hb t0a; have t1b := pw_cell_below hb t1a; have t2b := pw_cell_below hb t2a; have m0b := pw_cell_below hb m0a; have m1b := pw_cell_below hb m1a; have m2b := pw_cell_below hb m2a; clear hb hd) | (go_at_call 40; (with_reducible refine (mailcoachlaw01_LeftFields.left D2 d2 A0_2 c0_2 l0_2 _ (tw_more (HTW.out.below HB2.out).c2) HTW.out.g2 (Kd.C_below HR2.out HB2.out) hc0_2 n2).mono ?_); rintro e w3 ⟨rfl, hb⟩; have HB3 := Aside0.mk (below_step HB2.out hb); clear hb))
  go_ret
  exact ⟨rfl, HB3.out⟩
end Go.Proofs.YtcgbpallpnaclaaGreatDoor.T
