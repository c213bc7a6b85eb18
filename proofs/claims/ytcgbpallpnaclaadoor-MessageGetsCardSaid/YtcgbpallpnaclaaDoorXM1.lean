/- A part of the walk of the laws of layer 22 (message): contracts of functions of the program, each walked once. -/
import Derived.Test.YtcgbpallpnaclaaDoorXL
import Derived.Test.YtcgbpallpnaclaaDoorPMGx1
import Derived.RangeFuncNested
import Derived.RangeFuncBound
import Derived.RangeFuncCalls
import Derived.RangeFuncLeaves
import Derived.RangeFuncBox
import Derived.OwnWalkIn
import Derived.TacticsInMore
import Derived.LoopNIn
import Derived.LoopIn
import Derived.Deep.DeepMust
import Derived.LoopN
import Derived.Laws.BitsAllLaws
import Derived.Maps.OwnIn
import Derived.Maps.Own
import Derived.Maps.OwnSet
import Derived.Maps.OwnOps
import Derived.Shelf.Abstract
import Derived.Sort.CutIn
import Derived.Shelf.RegionOpen
import Derived.StillTailTactics
import Derived.Outline
import Derived.Deep.RegionHeld3
import Derived.Laws.StructEq
import Derived.Laws.RangeAny
import Derived.Laws.EntriesVeiled
import Derived.WalkSpells
import Derived.Lib.SlBytesConst
import Derived.Deep.RegionLaw
import Derived.Deep.RegionWith
import Derived.ArgAppend
import Derived.Shelf.Strings.SlTrimAscii
import Derived.Shelf.Strings.IndexAnyAll
import Derived.Test.YtcgbpallpnaclaaDoorSh
import Derived.Test.YtcgbpallpnaclaaDoorWEqStruct
namespace Go.Proofs.YtcgbpallpnaclaaDoor.T
open Go.RowKit Go.Proofs.YtcgbpallpnaclaaDoorW.PrintWords Go.Proofs.YtcgbpallpnaclaaDoorW.PrintLast Go.Proofs.YtcgbpallpnaclaaDoorW.PrintMore
open Go.Proofs.YtcgbpallpnaclaaDoor.PMG
set_option linter.unusedVariables false
set_option linter.unusedSimpArgs false
/-! ### mailcoachlaw01.TwinFields, LeftFields -/
def tw_spare : S45 := ⟨⟨#[115, 112, 97, 114, 101]⟩, ⟨#[]⟩⟩
theorem tw_snoc (l : List S45) (k : Nat) (hk : k < l.length) : l.take (k + 1) = l.take k ++ [rd_T45 l k] := by
  rw [List.take_add_one, List.getElem?_eq_getElem hk]
  simp [rd_T45, List.getElem?_eq_getElem hk]
set_option maxHeartbeats 3200000 in
set_option maxRecDepth 100000 in
theorem mailcoachlaw01_TwinFields.twin (A0 : Option Addr) (c0 : Nat) (l0 : List S45) (w : World) (hr0 : Kd.C k45 w A0 l0.length l0) (hc0 : l0.length ≤ c0) (hn : (l0.length + 1) * 32 ≤ 140737488355328) :
    Calls Tryd.prog 7 #[.slice A0 l0.length c0] w fun e w' => (∃ (A : Option Addr) (cap : Nat), e = .returned (.slice A l0.length cap) ∧ l0.length + 1 ≤ cap ∧ Kd.R k45 45 w' w.heap.size (fun _ => True) (.slice A (l0.length + 1) cap) (l0 ++ [tw_spare])) ∧ Below w.heap.size w w' := by
  have HR0 := Aside0.mk hr0
  clear hr0 hc0
  obtain ⟨i0, hi, hzz⟩ := Option.map_eq_some_iff.1 info45
  simp only [Prod.mk.injEq] at hzz
  obtain ⟨hz0, hz1, hz2⟩ := hzz
  have hmk : ∀ W : World, (Instr.makeSlice 22 (.int .i64 0) (.int .i64 ((l0.length : Int) + 1))).run Tryd.prog W = .ok (.slice (some ⟨W.heap.size, 0, none⟩) 0 (l0.length + 1)) (W.alloc (.cells (madeCells #[.string ⟨#[]⟩, .string ⟨#[]⟩] ((l0.length + 1) * 2)) 45)) := by
    intro W
    have h := run_make W 22 45 i0 (.agg #[(.string ⟨#[]⟩), (.string ⟨#[]⟩)]) Tryd.underlying22 hi hz0 .i64 .i64 0 ((l0.length + 1 : Nat) : Int) (by omega) (by omega) (by rw [hz2]; omega) (by omega)
    rw [hz1] at h
    simp only [Int.toNat_natCast, Int.toNat_zero, Int.natCast_add, Int.natCast_one, Value.cells] at h
    have e : ((l0.length : Int) + 1).toNat = l0.length + 1 := by omega
    rw [e] at h
    exact h
  have hw1 : wrap64 ((l0.length : Int) + 1) = (l0.length : Int) + 1 := by unfold wrap64; omega
  go_enter Tryd.func7, Tryd.ntmps7
  go_wp2
  go_loopw [3, 4] (fun v3 v4 wr => ∃ k : Nat, k ≤ l0.length ∧ v4 = .int .i64 k ∧ Aside0 (Kd.R k45 45 wr w.heap.size (fun _ => True) v3 (l0.take k)) ∧ Aside0 (Below w.heap.size w wr)) (fun _ v4 _ => l0.length - (intOf v4).toNat)
  case atStart => exact ⟨0, by omega, rfl, ⟨⟨fun _ _ => trivial, [], World.ownsRow_made w _ _ (Nat.le_refl _) (by simp only [maxLen]; omega) (size_madeCells _ _), Reps.none _ _⟩⟩, ⟨below_alloc (Below.refl _ _) _⟩⟩
  case round =>
    obtain ⟨k, hk, rfl, HO, HB⟩ := hrel
    by_cases hk2 : k < l0.length
    · obtain ⟨ad2, e2, hx2, hx3⟩ := at_T45 (Kd.C_below HR0.out HB.out) k (by omega) (by omega)
      cases e2
      simp only [Int.toNat_natCast] at hx2 hx3
      have hlk : (l0.take k).length = k := by rw [List.length_take]; omega
      have HLK := Aside0.mk hlk
      clear hlk
      go_wp2_with (first | ((with_reducible refine gate_builtin (b := .append) (xs := #[.tmp 15, .tmp 20]) rfl ?_); (try (refine gate_guard (by rfl) ?_; dsimp only)); at_builtin; refine Kd.R_append k45 (w0 := w) w.heap.size rfl (.tmp 15) (.tmp 20) 22 45 (.agg #[(.string ⟨#[]⟩), (.string ⟨#[]⟩)]) 32 rfl Tryd.underlying22 info45 rfl (by decide) (by omega) _ (l0.take k) (rd_T45 l0 k) [.string (rd_T45 l0 k).f0, .string (rd_T45 l0 k).f1] (fun _ => True) (fun _ => False) rfl rfl ?aP (fun _ hk => hk.elim) (fun _ _ => trivial) HO.out HB.out HB.out.size ?aL ?_; (case aP => exact k45_mkM _ _ _ (rd_T45 l0 k)); (case aL => (rw [HLK.out]; omega)); intro v1 w1 ho hb hg hat; have HO1 := Aside0.mk ho; have HB1 := Aside0.mk hb; clear ho hb hg hat))
      go_roundw
      case rel => exact ⟨k + 1, by omega, by go_num, ⟨by rw [show l0.take (k + 1) = l0.take k ++ [(rd_T45 l0 k)] from tw_snoc l0 k hk2]; exact HO1.out⟩, ⟨HB1.out⟩⟩
      case measure => simp [intOf]; omega
    · have hkl : l0.take k = l0 := List.take_of_length_le (by omega)
      rw [hkl] at HO
      clear hkl
      go_wp2_with (first | ((with_reducible refine gate_builtin (b := .append) (xs := #[.tmp 22, .tmp 24]) rfl ?_); (try (refine gate_guard (by rfl) ?_; dsimp only)); at_builtin; refine Kd.R_append k45 (w0 := w) w.heap.size rfl (.tmp 22) (.tmp 24) 22 45 (.agg #[(.string ⟨#[]⟩), (.string ⟨#[]⟩)]) 32 rfl Tryd.underlying22 info45 rfl (by decide) (by omega) _ l0 tw_spare [.string tw_spare.f0, .string tw_spare.f1] (fun _ => True) (fun _ => False) rfl rfl ?aP (fun _ hk => hk.elim) (fun _ _ => trivial) HO.out HB.out HB.out.size ?aL ?_; (case aP => exact k45_mkM _ _ _ tw_spare); (case aL => omega); intro v1 w1 ho hb hg hat; obtain ⟨hok1, inner1, hown1, hr1⟩ := ho; obtain ⟨g, cap, rfl, hgb, hgl⟩ := hown1.form (by simp); have hcap := own_cap hown1; have ho : Kd.R k45 45 w1 w.heap.size (fun _ => True) (.slice (some ⟨g, 0, none⟩) (l0 ++ [tw_spare]).length cap) (l0 ++ [tw_spare]) := ⟨hok1, inner1, hown1, hr1⟩; clear hok1 hown1 hr1; have hL1 : (l0 ++ [tw_spare]).length = l0.length + 1 := (by simp); rw [hL1] at hcap ho ⊢; clear hL1; have HO1 := Aside0.mk ho; have HB1 := Aside0.mk hb; clear ho hb hg hat; have hcut := cut_to (P := Tryd.prog) 22 45 .i64 (i := i0) Tryd.underlying22 hi (some ⟨g, 0, none⟩) (l0.length + 1) cap l0.length (by omega) (by omega) hcap))
      go_ret
      exact ⟨⟨_, _, rfl, hcap, HO1.out⟩, HB1.out⟩
end Go.Proofs.YtcgbpallpnaclaaDoor.T
