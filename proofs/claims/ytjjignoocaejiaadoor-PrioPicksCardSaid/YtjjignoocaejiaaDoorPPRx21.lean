/- PrioPicks: the walk of the law, by hand: it computes prio.Pick and the document's Pick of the same streams, and says whether they are equal. -/
import Derived.Test.YtjjignoocaejiaaDoorPPRx0
import Derived.Test.YtjjignoocaejiaaDoorPPRx13
import Derived.Test.YtjjignoocaejiaaDoorPPRx14
import Derived.Test.YtjjignoocaejiaaDoorPPRx17
import Derived.Test.YtjjignoocaejiaaDoorPPRx5
import Derived.RangeFuncNested
import Derived.RangeFuncBound
import Derived.RangeFuncCalls
import Derived.RangeFuncLeaves
import Derived.RangeFuncBox
import Derived.OwnWalkIn
import Derived.TacticsInMore
import Derived.LoopNIn
import Derived.LoopIn
import Derived.Deep.DeepMust
import Derived.LoopN
import Derived.Laws.BitsAllLaws
import Derived.Maps.OwnIn
import Derived.Shelf.Abstract
import Derived.Sort.CutIn
import Derived.Shelf.RegionOpen
import Derived.StillTailTactics
import Derived.Outline
import Derived.Deep.RegionHeld3
import Derived.Laws.StructEq
import Derived.Test.YtjjignoocaejiaaDoorWEqStruct
namespace Go.Proofs.YtjjignoocaejiaaDoor.PPR
open Go.RowKit Go.Proofs.YtjjignoocaejiaaDoorW.PrintWords Go.Proofs.YtjjignoocaejiaaDoorW.PrintLast Go.Proofs.YtjjignoocaejiaaDoorW.PrintMore
set_option linter.unusedVariables false
set_option linter.unusedSimpArgs false
/-! ### mailcoachlaw23.PrioPicks -/
def picks_of (x : S38) : S40 := ⟨x.f0, ⟨x.f1.f0, x.f1.f1⟩⟩
def mailcoachlaw23_PrioPicks.f (k : Nat) (l0 : List S38) (a1 : Int) : Option Bool := if l0.length * 24 ≤ 140737488351232 then ((prio_Pick.f l0 a1).bind fun x => (mailcoachref23_Pick.f (l0.map picks_of) a1).bind fun y => if x = y then ((mailcoachlaw23_lives.f).bind fun t => some t) else some false) else none
theorem picks_eq23 (d : Nat) (w : World) (x0 y0 : Int) (x1 y1 : Bool) :
    (Op.equalIn (d + 2) 23 (.agg #[.int .i64 x0, .bool x1]) (.agg #[.int .i64 y0, .bool y1])).run Tryd.prog w = .ok (x0 == y0 && (x1 == y1)) w := by
  refine eqA_of Tryd.underlying23 (by kernel_rfl) ?_
  refine eqf_cons (by rfl) (by go_simp; rfl) (by go_simp; rfl) (by go_simp) ?_
  exact eqf_last (by rfl) (by go_simp; rfl) (by go_simp; rfl) (by go_simp)
theorem picks_eq (d : Nat) (w : World) (x0 y0 x1 y1 : Int) (x2 y2 : Bool) :
    (Op.equalIn (d + 3) 38 (.agg #[.int .u64 x0, .int .i64 x1, .bool x2]) (.agg #[.int .u64 y0, .int .i64 y1, .bool y2])).run Tryd.prog w = .ok (x0 == y0 && (x1 == y1 && (x2 == y2))) w := by
  refine eqA_of Tryd.underlying38 (by kernel_rfl) ?_
  refine eqf_cons (by rfl) (by go_simp; rfl) (by go_simp; rfl) (by go_simp) ?_
  exact eqf_last (by rfl) (by go_simp) (by go_simp) (picks_eq23 d w x1 y1 x2 y2)
theorem picks_info : (Tryd.prog.info? 40).map (fun i => (i.zero, i.size, i.bytes)) = some (some (.agg #[(.int .u64 0), (.int .i64 0), (.bool false)]), 3, 24) := by kernel_rfl
section
attribute [local go_sem high] picks_eq
set_option maxHeartbeats 8000000 in
set_option maxRecDepth 100000 in
theorem mailcoachlaw23_PrioPicks.calls (k : Nat) (A0 : Option Addr) (c0 : Nat) (l0 : List S38) (a1 : Int) (r : Bool) (w : World) (hr0 : k38.C w A0 l0.length l0) (hc0 : l0.length ≤ c0) (h : mailcoachlaw23_PrioPicks.f k l0 a1 = some r) :
    Calls Tryd.prog 4 #[.slice A0 l0.length c0, .int .u64 a1] w fun e w' => e = .returned (.bool r) ∧ Below w.heap.size w w' := by
  unfold mailcoachlaw23_PrioPicks.f at h
  have hsz : l0.length * 24 ≤ 140737488351232 := by
    by_cases hh : l0.length * 24 ≤ 140737488351232
    · exact hh
    · rw [if_neg hh] at h; cases h
  rw [if_pos hsz] at h
  obtain ⟨x, hx, h⟩ := Option.bind_eq_some_iff.mp h
  obtain ⟨y, hy, h⟩ := Option.bind_eq_some_iff.mp h
  have HX := Aside0.mk hx
  have HY := Aside0.mk hy
  have H := Aside0.mk h
  have HR := Aside0.mk hr0
  have HB := Aside0.mk (Below.refl w.heap.size w)
  clear h hx hy hr0
  go_enter Tryd.func4, Tryd.ntmps4
  go_wp2_with (first | ((with_reducible refine gate_builtin (b := .append) (xs := #[.const (.slice none 0 0), .tmp 10]) rfl ?_); (try (refine gate_guard (by rfl) ?_; dsimp only)); at_builtin; refine Kd.R_append_rows k38 (Rr := k38.K w) (w0 := w) w.heap.size rfl (.const (.slice none 0 0)) (.tmp 10) 34 38 (.agg #[(.int .u64 0), (.int .i64 0), (.bool false)]) 24 rfl Tryd.underlying34 info38 rfl (by decide) (by omega) (.slice none 0 0) [] l0 A0 l0.length c0 (fun _ => True) (fun _ => False) rfl rfl (Kd.R_nil _ _ _ _ _) ?aR ?aK (fun _ hk => hk.elim) (fun _ _ => trivial) ?aB ?aS ?aL ?_; (case aR => exact HR.out); (case aK => (intro x cs hx; obtain rfl := k38_open hx; exact k38_mkM _ _ _ x)); (case aB => exact HB.out); (case aS => exact Nat.le_refl _); (case aL => simp; omega); intro v1 w1 ho hb hg hat; rw [List.nil_append] at ho; have HO := Aside0.mk ho; clear HB; have HB := Aside0.mk hb; clear ho hb hg hat; obtain ⟨A1, c1, e1⟩ := Kd.R_slice HO.out; subst e1))
  go_loopw [5, 7] (fun v5 v7 wr => ∃ (j : Nat) (m : List S40), j ≤ l0.length ∧ v7 = .int .i64 j ∧ Aside0 (m = (l0.take j).map picks_of) ∧ Aside0 (k40.R 40 wr w.heap.size (fun _ => True) v5 m) ∧ Aside0 (k38.R 38 wr w.heap.size (fun _ => True) (.slice A1 l0.length c1) l0) ∧ Aside0 (Below w.heap.size w wr)) (fun _ v7 _ => l0.length - (intOf v7).toNat)
  case atStart => exact ⟨0, [], by omega, rfl, ⟨rfl⟩, ⟨Kd.R_nil _ _ _ _ _⟩, HO, HB⟩
  case round =>
    obtain ⟨j, m, hj, rfl, HM, HO5, HO6, HB1⟩ := hrel
    clear HO HB
    by_cases hlt : j < l0.length
    · have HC := Aside0.mk (Kd.C_below HR.out HB1.out)
      obtain ⟨ad, hA, x0, x1, x2⟩ := at_T38 HC.out (j : Int) (by omega) (by omega)
      rw [Int.toNat_natCast] at x0 x1 x2
      obtain ⟨z, hz⟩ : ∃ z, rd_T38 l0 (j : Int) = z := ⟨_, rfl⟩
      rw [hz] at x0 x1 x2
      have hlt2 : (j : Int) < (l0.length : Int) := by omega
      obtain ⟨A5, c5, e5⟩ := Kd.R_slice HO5.out
      subst e5
      subst hA
      have HP := Aside0.mk (show m ++ [picks_of z] = (l0.take (j + 1)).map picks_of by
        rw [HM.out, List.take_add_one, List.map_append, List.getElem?_eq_getElem hlt, ← hz]
        simp [rd_T38, List.getD_eq_getElem?_getD, List.getElem?_eq_getElem hlt])
      have HZ := Aside0.mk hz
      have HLT := Aside0.mk hlt
      clear hz hlt
      go_wp2
      have hml : m.length = j := by rw [HM.out, List.length_map, List.length_take]; omega
      have HL := Aside0.mk (show (m.length + 1) * 24 ≤ 140737488351232 by rw [hml]; omega)
      clear hml
      go_region_law (first | (go_simp; go_at_call 10; (with_reducible refine (mailcoachlaw23_of.calls z.f1.f0 z.f1.f1 z.f1.f0 z.f1.f1 _ rfl).mono ?_); rintro e w8 ⟨rfl, hb8⟩; have HB8 := Aside0.mk (below_step (by repeat (first | (with_reducible first | exact HB1.out | apply below_alloc | apply pw_below_drewN | apply below_drew1) | exact HB1.out)) hb8); have HO58 := Aside0.mk (Kd.R_below (by (with_reducible repeat (first | apply Kd.R_alloc | apply Kd.R_drewN | apply Kd.R_drew)); exact HO5.out) hb8); have HO68 := Aside0.mk (Kd.R_below (by (with_reducible repeat (first | apply Kd.R_alloc | apply Kd.R_drewN | apply Kd.R_drew)); exact HO6.out) hb8); have x0n := pw_cell_below hb8 x0; have x1n := pw_cell_below hb8 x1; have x2n := pw_cell_below hb8 x2; clear hb8) | (refine Kd.R_append_step k40 (w0 := w) w.heap.size rfl (.tmp 18) (.tmp 31) 36 40 (.agg #[(.int .u64 0), (.int .i64 0), (.bool false)]) 24 rfl Tryd.underlying36 picks_info rfl (by decide) (by omega) (.slice A5 m.length c5) m (picks_of z) [.int .u64 z.f0, .int .i64 z.f1.f0, .bool z.f1.f1] (fun _ => True) (fun _ => False) rfl rfl ?aP (fun _ hk => hk.elim) ?aF ?aO ?aB ?aS ?aL ?_; (case aP => exact k40_mkM _ _ _ (picks_of z)); (case aB => exact (by repeat (first | (with_reducible first | exact HB8.out | apply below_alloc | apply pw_below_drewN | apply below_drew1) | exact HB8.out))); (case aF => exact (fun _ _ => trivial)); (case aO => exact (by (with_reducible repeat (first | apply Kd.R_alloc | apply Kd.R_drewN | apply Kd.R_drew)); exact HO58.out)); (case aS => exact (below_size (by repeat (first | (with_reducible first | exact HB8.out | apply below_alloc | apply pw_below_drewN | apply below_drew1) | exact HB8.out)))); (case aL => have := HL.out; omega); intro v2 w2 ho hb hg hat; have HO6n := Aside0.mk (Kd.R_over' (by (with_reducible repeat (first | apply Kd.R_alloc | apply Kd.R_drewN | apply Kd.R_drew)); exact HO68.out) (Kd.R_typed (by (with_reducible repeat (first | apply Kd.R_alloc | apply Kd.R_drewN | apply Kd.R_drew)); exact HO58.out)) (by decide) hg); have HO5n := Aside0.mk ho; have HBn := Aside0.mk hb; clear ho hb hg hat))
      all_goals
        go_wp2
        go_roundw
        case rel => exact ⟨j + 1, m ++ [picks_of z], HLT.out, by go_num, HP, HO5n, HO6n, HBn⟩
        case measure => have := HLT.out; simp [intOf]; omega
    · obtain rfl : j = l0.length := by omega
      have hm : m = l0.map picks_of := by rw [HM.out, List.take_length]
      subst hm
      obtain ⟨A5, c5, e5⟩ := Kd.R_slice HO5.out
      subst e5
      have HC := Aside0.mk (Kd.R_reads' HO6.out)
      clear HM hlt
      go_wp2_with (go_at_call 14; refine (prio_Pick.calls A1 c1 l0 a1 x _ HC.out.2.2 HC.out.2.1 HX.out).mono ?_; rintro e w2 ⟨rfl, hb2⟩; have HB2 := Aside0.mk (below_step HB1.out hb2); have HO52 := Aside0.mk (Kd.R_below HO5.out hb2); have HO62 := Aside0.mk (Kd.R_below HO6.out hb2); clear hb2)
      go_loopw [9] (fun v9 wr => ∃ (i : Nat), i ≤ l0.length ∧ v9 = .int .i64 i ∧ Aside0 (k40.R 40 wr w.heap.size (fun _ => True) (.slice A5 (l0.map picks_of).length c5) (l0.map picks_of)) ∧ Aside0 (k38.R 38 wr w.heap.size (fun _ => True) (.slice A1 l0.length c1) l0) ∧ Aside0 (Below w.heap.size w wr)) (fun v9 _ => l0.length - (intOf v9).toNat)
      case atStart => exact ⟨0, by omega, rfl, HO52, HO62, HB2⟩
      case round =>
        obtain ⟨i, hi, rfl, HO5, HO6, HB3⟩ := hrel
        clear HO52 HO62 HB2 HB1
        by_cases hlt : i < l0.length
        · have HC := Aside0.mk (Kd.C_below HR.out HB3.out)
          have HC2 := Aside0.mk (Kd.R_reads' HO6.out)
          obtain ⟨ad, hA, x0, x1, x2⟩ := at_T38 HC.out (i : Int) (by omega) (by omega)
          obtain ⟨ad1, hA1, y0, y1, y2⟩ := at_T38 HC2.out.2.2 (i : Int) (by omega) (by omega)
          rw [Int.toNat_natCast] at x0 x1 x2 y0 y1 y2
          obtain ⟨z, hz⟩ : ∃ z, rd_T38 l0 (i : Int) = z := ⟨_, rfl⟩
          rw [hz] at x0 x1 x2 y0 y1 y2
          have hlt2 : (i : Int) < (l0.length : Int) := by omega
          subst hA
          subst hA1
          have HLT := Aside0.mk hlt
          clear hz hlt
          go_wp2
          repeat (go_quiet (fail); try go_wp2)
          go_roundw
          case rel => exact ⟨i + 1, HLT.out, by go_num, by first | exact HO5 | exact ⟨by (with_reducible repeat (first | apply Kd.R_alloc | apply Kd.R_drewN | apply Kd.R_drew)); exact HO5.out⟩, by first | exact HO6 | exact ⟨by (with_reducible repeat (first | apply Kd.R_alloc | apply Kd.R_drewN | apply Kd.R_drew)); exact HO6.out⟩, by first | exact HB3 | exact ⟨by repeat (first | (with_reducible first | exact HB3.out | apply below_alloc | apply pw_below_drewN | apply below_drew1) | exact HB3.out)⟩⟩
          case measure => have := HLT.out; simp [intOf]; omega
        · have HC2 := Aside0.mk (Kd.R_reads' HO5.out)
          have hd : decide ((i : Int) < (l0.length : Int)) = false := decide_eq_false (by omega)
          have hml : (l0.map picks_of).length = l0.length := List.length_map ..
          have HC3 : Aside0 (k40.C wr A5 l0.length (l0.map picks_of)) := ⟨by have := HC2.out.2.2; rw [hml] at this; exact this⟩
          have hc5 : (l0.map picks_of).length ≤ c5 := HC2.out.2.1
          have PK : Aside0 (∀ wq : World, k40.C wq A5 l0.length (l0.map picks_of) → Calls Tryd.prog 15 #[.slice A5 l0.length c5, .int .u64 a1] wq fun e w' => e = .returned (.int .i64 y) ∧ Below wq.heap.size wq w') := ⟨by
            intro wq hq
            have := mailcoachref23_Pick.calls A5 c5 (l0.map picks_of) a1 y wq (by rw [hml]; exact hq) hc5 HY.out
            rw [hml] at this
            exact this⟩
          clear hml hc5 HC2 hd
          have hd : decide ((i : Int) < (l0.length : Int)) = false := decide_eq_false (by omega)
          by_cases exy : x = y
          · subst exy
            have HL : Aside0 (mailcoachlaw23_lives.f = some r) := ⟨by obtain ⟨tl, h1, h2⟩ := Option.bind_eq_some_iff.mp (by have := H.out; rw [if_pos rfl] at this; exact this); rw [h1, h2]⟩
            clear H HX HY
            go_wp2_with (first | (go_at_call 15; (with_reducible refine (PK.out _ HC3.out).mono ?_); rintro e w4 ⟨rfl, hb4⟩; have HB4 := Aside0.mk (below_step HB3.out hb4); clear hb4) | (go_at_call 13; (with_reducible refine (mailcoachlaw23_lives.calls r _ HL.out).mono ?_); rintro e w5 ⟨rfl, hb5⟩; have HB5 := Aside0.mk (below_step HB4.out hb5); clear hb5))
            go_ret
            exact ⟨rfl, HB5.out⟩
          · have HL : Aside0 (r = false) := ⟨by have := H.out; rw [if_neg exy] at this; exact (Option.some.inj this).symm⟩
            have hxy : decide (x = y) = false := decide_eq_false exy
            have hbq : (x == y) = false := beq_false_of_ne exy
            clear H HX HY
            go_wp2_with (first | (go_at_call 15; (with_reducible refine (PK.out _ HC3.out).mono ?_); rintro e w4 ⟨rfl, hb4⟩; have HB4 := Aside0.mk (below_step HB3.out hb4); clear hb4))
            go_ret
            exact ⟨by rw [HL.out]; simp [exy, hxy, hbq], HB4.out⟩
end
end Go.Proofs.YtjjignoocaejiaaDoor.PPR
