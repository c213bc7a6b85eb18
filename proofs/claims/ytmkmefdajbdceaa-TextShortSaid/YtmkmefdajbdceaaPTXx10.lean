-- Written by wip/mprint.py (the kit's printer, and texts of this claim's own for what it does not take). Not trusted: Lean checks it.
import Derived.Test.YtmkmefdajbdceaaPTXx0
import Derived.Test.YtmkmefdajbdceaaPTXx9
namespace Go.Proofs.Ytmkmefdajbdceaa.PTX
open Go.RowKit Go.Proofs.YtmkmefdajbdceaaW.PrintWords Go.Proofs.YtmkmefdajbdceaaW.PrintLast Go.Proofs.YtmkmefdajbdceaaW.PrintMore
attribute [local go_sem] max2_int min2_int max_two min_two max_three min_three max_four min_four   -- for this text's walks alone
set_option linter.unusedVariables false
set_option linter.unusedSimpArgs false

/-! ### mailcoachref10_Firsts: function 45 -/
mutual
def mailcoachref10_Firsts.l0 : Nat → List Int → List (S75) → Int → Int → Option ((List (S75)))
  | 0, _, _, _, _ => none
  | k + 1, x1, x2, x3, x4 => if x4 ≤ 30 then (if 0 ≤ x4 then (if x4 < (x2.length : Int) then (mailcoachref10_Firsts.l1 k x1 (x2.set (x4 : Int).toNat (⟨(2 * x3) % 4294967296, (rd_T75 x2 x4).f1⟩ : S75)) ((2 * x3) % 4294967296) x4 0) else (none)) else (none)) else (some x2)
def mailcoachref10_Firsts.l1 : Nat → List Int → List (S75) → Int → Int → Int → Option ((List (S75)))
  | 0, _, _, _, _, _ => none
  | k + 1, x1, x2, x3, x4, x5 => if x5 < 257 then (if 0 ≤ x5 then (if x5 < (x1.length : Int) then (if (rd x1 x5) = x4 then (if 0 ≤ x4 then (if x4 < (x2.length : Int) then (if ((rd_T75 x2 x4).f1).length < 17592186044416 then (mailcoachref10_Firsts.l1 k x1 (x2.set (x4 : Int).toNat (⟨(rd_T75 x2 x4).f0, (((rd_T75 x2 x4).f1) ++ [x5])⟩ : S75)) ((x3 + 1) % 4294967296) x4 (wrap64 (x5 + 1))) else (none)) else (none)) else (none)) else (mailcoachref10_Firsts.l1 k x1 x2 x3 x4 (wrap64 (x5 + 1)))) else (none)) else (none)) else (mailcoachref10_Firsts.l0 k x1 x2 x3 (wrap64 (x4 + 1)))
end
def mailcoachref10_Firsts.f (k : Nat)  : Option ((List (S75))) := (mailcoachref10_Lengths.f).bind fun t102 => (if 31 ≤ 8796093022208 then (mailcoachref10_Firsts.l0 k t102 (List.replicate 31 z75) 0 1) else (none))
theorem mailcoachref10_Firsts.mono_l : ∀ k, (∀ y0 y1 y2 y3, LeO (mailcoachref10_Firsts.l0 k y0 y1 y2 y3) (mailcoachref10_Firsts.l0 (k + 1) y0 y1 y2 y3)) ∧ (∀ y0 y1 y2 y3 y4, LeO (mailcoachref10_Firsts.l1 k y0 y1 y2 y3 y4) (mailcoachref10_Firsts.l1 (k + 1) y0 y1 y2 y3 y4))
  | 0 => ⟨fun _ _ _ _ r h => by simp [mailcoachref10_Firsts.l0] at h, fun _ _ _ _ _ r h => by simp [mailcoachref10_Firsts.l1] at h⟩
  | k + 1 => by
    obtain ⟨ih0, ih1⟩ := mailcoachref10_Firsts.mono_l k
    refine ⟨?_, ?_⟩
    · intro y0 y1 y2 y3
      unfold mailcoachref10_Firsts.l0
      repeat' first
      | (with_reducible exact ih0 _ _ _ _)
      | (with_reducible exact ih1 _ _ _ _ _)
      | (with_reducible exact LeO.refl _)
      | (with_reducible exact LeO.none _)
      | (with_reducible refine LeO.ite ?_ ?_)
      | (with_reducible refine LeO.bind ?_ (fun _ => ?_))
      | exact ih0 _ _ _ _
      | exact ih1 _ _ _ _ _
      | exact LeO.none _
      | refine LeO.ite ?_ ?_
      | refine LeO.bind ?_ (fun _ => ?_)
    · intro y0 y1 y2 y3 y4
      unfold mailcoachref10_Firsts.l1
      repeat' first
      | (with_reducible exact ih0 _ _ _ _)
      | (with_reducible exact ih1 _ _ _ _ _)
      | (with_reducible exact LeO.refl _)
      | (with_reducible exact LeO.none _)
      | (with_reducible refine LeO.ite ?_ ?_)
      | (with_reducible refine LeO.bind ?_ (fun _ => ?_))
      | exact ih0 _ _ _ _
      | exact ih1 _ _ _ _ _
      | exact LeO.none _
      | refine LeO.ite ?_ ?_
      | refine LeO.bind ?_ (fun _ => ?_)
theorem mailcoachref10_Firsts.mono : ∀ k, LeO (mailcoachref10_Firsts.f k ) (mailcoachref10_Firsts.f (k + 1) ) := by
  intro  k
  obtain ⟨ih0, ih1⟩ := mailcoachref10_Firsts.mono_l k
  unfold mailcoachref10_Firsts.f
  repeat' first
      | (with_reducible exact ih0 _ _ _ _)
      | (with_reducible exact ih1 _ _ _ _ _)
      | (with_reducible exact LeO.refl _)
      | (with_reducible exact LeO.none _)
      | (with_reducible refine LeO.ite ?_ ?_)
      | (with_reducible refine LeO.bind ?_ (fun _ => ?_))
      | exact ih0 _ _ _ _
      | exact ih1 _ _ _ _ _
      | exact LeO.none _
      | refine LeO.ite ?_ ?_
      | refine LeO.bind ?_ (fun _ => ?_)
set_option maxHeartbeats 8000000 in
set_option maxRecDepth 100000 in
theorem mailcoachref10_Firsts.calls (k : Nat)  (r : List (S75)) (w : World) (h : mailcoachref10_Firsts.f k  = some r) :
    Calls Try.prog 45 #[] w fun e w' => ∃ v0_ : Value, e = .returned (v0_) ∧ Kd.S k75 75 w' w.heap.size (fun _ => True) v0_ r ∧ Below w.heap.size w w' := by
  have HB := Aside0.mk (Below.refl w.heap.size w)
  have H : ((mailcoachref10_Lengths.f).bind fun t102 => (if 31 ≤ 8796093022208 then (mailcoachref10_Firsts.l0 k t102 (List.replicate 31 z75) 0 1) else (none))) = some r := h
  clear h
  replace H := Option.bind_eq_some_iff.mp H
  obtain ⟨t102, A10, H⟩ := H
  replace H : (if 31 ≤ 8796093022208 then (mailcoachref10_Firsts.l0 k t102 (List.replicate 31 z75) 0 1) else (none)) = some r := H
  have A1 := Aside0.mk A10
  clear A10
  by_cases c2 : 31 ≤ 8796093022208
  · rw [if_pos c2] at H
    have c2b0 := eq_true c2
    have c2b1 : decide (31 ≤ 8796093022208) = true := decide_eq_true c2
    clear c2
    obtain ⟨y105, hy105⟩ : ∃ y_ : List (S75), y_ = (List.replicate 31 z75) := ⟨_, rfl⟩
    replace H : (mailcoachref10_Firsts.l0 k t102 y105 0 1) = some r := by first | (rw [hy105]; with_reducible exact H) | (have H2_ := (Option.bind_some _ _).symm.trans H; rw [hy105]; with_reducible exact H2_) | (have H2_ := (Option.bind_some _ _).symm.trans H; with_reducible exact H2_) | with_reducible exact H | (rw [hy105]; exact H) | exact H
    have Ny105 := Aside0.mk hy105
    clear hy105
    have H' := Aside0.mk H
    clear H
    go_enter Try.func45, Try.ntmps45
    go_wp2_with (first | ((with_reducible refine gate_callee (f := 54) rfl ?_); refine goesL_ (some 6) rfl rfl Try.func54 (by kernel_rfl) rfl #[] rfl (by (try simp only [List.map_toArray, List.map_cons, List.map_nil]); first | done | rfl | (simp only [List.length_drop, List.length_take]; rfl)) ?_; (with_reducible refine (mailcoachref10_Lengths.calls  t102 _ A1.out).mono ?_); rintro e w3 ⟨v103, rfl, ho0, hb⟩; refine ⟨_, rfl, ?_⟩; have n0_ := Aside0.mk (Kd.R_lower ho0 (below_size (by repeat (first | (with_reducible first | exact HB.out | apply below_alloc | apply pw_below_drewN | apply below_drew1) | exact HB.out)))); have n1_ := Aside0.mk (below_step (by repeat (first | (with_reducible first | exact HB.out | apply below_alloc | apply pw_below_drewN | apply below_drew1) | exact HB.out)) hb); clear HB; have HO104 := n0_; have HB := n1_; clear n0_ n1_; (try clear hb); (try clear hb2); (try clear hk); (try clear hi); (try clear ho0)) | ((with_reducible refine gate_dst (N := 7) rfl ?_); refine Kd.S_make k75 _ 75 rfl (N := 7) rfl 71 _ _ rfl 31 rfl rfl Try.underlying71 (.agg #[(.int .u32 0), (.slice none 0 0)]) 32 info75 rfl (by decide) (by omega) z75 (ok := fun _ => True) (okp := fun _ => True) (k75_mkM _ _ _ z75 (Kd.R_nil _ _ _ _ _)) (fun _ hk => hk) trivial (by omega) (by omega) (Below.refl _ _) (Nat.le_refl _) ?_; intro v106 w4 ho5 hb hg_ hnew_; clear hg_ hnew_; (first | rw [← Ny105.out] at ho5 | (simp only [Int.reduceToNat] at ho5; rw [← Ny105.out] at ho5)); have n0_ := Aside0.mk (Kd.R_below (by (with_reducible repeat (first | apply Kd.R_alloc | apply Kd.R_drewN | apply Kd.R_drew)); exact HO104.out) hb); have n1_ := Aside0.mk (Kd.S_lower (Kd.S_new' ho5 (Kd.R_lt (by (with_reducible repeat (first | apply Kd.R_alloc | apply Kd.R_drewN | apply Kd.R_drew)); exact HO104.out))) (below_size (by repeat (first | (with_reducible first | exact HB.out | apply below_alloc | apply pw_below_drewN | apply below_drew1) | exact HB.out)))); have n2_ := Aside0.mk (below_step (by repeat (first | (with_reducible first | exact HB.out | apply below_alloc | apply pw_below_drewN | apply below_drew1) | exact HB.out)) hb); clear HO104; clear HB; have HO104 := n0_; have HO107 := n1_; have HB := n2_; clear n0_ n1_ n2_; clear hb ho5))
    go_loopg [3, 4] k (fun kq v3 v4 w' => ∃ (x2_1 : List (S75)) (x3_1 : Int) (x4_1 : Int), v3 = .int .u32 x3_1 ∧ v4 = .int .i64 x4_1 ∧ Aside0 (mailcoachref10_Firsts.l0 kq t102 x2_1 x3_1 x4_1 = some r) ∧ Aside0 (kq ≤ k) ∧ Aside0 (Kd.R (Kd.int .i64) 3 w' w.heap.size (fun _ => True) v103 t102) ∧ Aside0 (Kd.S k75 75 w' w.heap.size (fun k_ => some k_ ≠ (v103 : Value).ownBlock) v106 x2_1) ∧ Aside0 (Below w.heap.size w w'))
    case atStart => exact ⟨(y105), (0), (1), (by first | rfl | (simp; done) | (simp [*]; done)), (by first | rfl | (simp; done) | (simp [*]; done)), H', ⟨Nat.le_refl _⟩, ⟨by (with_reducible repeat (first | apply Kd.R_alloc | apply Kd.R_drewN | apply Kd.R_drew)); exact HO104.out⟩, ⟨by (with_reducible repeat (first | apply Kd.S_alloc | apply Kd.S_drewN | apply Kd.S_drew)); exact Kd.S_mono HO107.out (fun _ hk => hk.2)⟩, ⟨by repeat (first | (with_reducible first | exact HB.out | apply below_alloc | apply pw_below_drewN | apply below_drew1) | exact HB.out)⟩⟩
    case round =>
      clear H'
      try clear c2
      try clear c2b0
      try clear c2b1
      try clear p2
      try clear c4
      try clear c5
      obtain ⟨x2_1, x3_1, x4_1, rfl, rfl, HA, HK1, HO_1, HO_2, HB⟩ := hrel
      cases gk with
      | zero => exact absurd HA.out (by simp [mailcoachref10_Firsts.l0])
      | succ k1 =>
        have H := HA.out
        clear HA
        simp only [mailcoachref10_Firsts.l0] at H
        by_cases c6 : x4_1 ≤ 30
        · rw [if_pos c6] at H
          have c6b0 : decide (x4_1 ≤ 30) = true := decide_eq_true c6
          clear c6
          by_cases c7 : 0 ≤ x4_1
          · rw [if_pos c7] at H
            have c7b0 : decide (0 ≤ x4_1) = true := decide_eq_true c7
            clear c7
            by_cases c8 : x4_1 < (x2_1.length : Int)
            · rw [if_pos c8] at H
              have c8b0 : decide (x4_1 < (x2_1.length : Int)) = true := decide_eq_true c8
              clear c8
              obtain ⟨y108, hy108⟩ : ∃ y_ : List (S75), y_ = (x2_1.set (x4_1 : Int).toNat (⟨(2 * x3_1) % 4294967296, (rd_T75 x2_1 x4_1).f1⟩ : S75)) := ⟨_, rfl⟩
              replace H : (mailcoachref10_Firsts.l1 k1 t102 y108 ((2 * x3_1) % 4294967296) x4_1 0) = some r := by first | (rw [hy108]; with_reducible exact H) | (have H2_ := (Option.bind_some _ _).symm.trans H; rw [hy108]; with_reducible exact H2_) | (have H2_ := (Option.bind_some _ _).symm.trans H; with_reducible exact H2_) | with_reducible exact H | (rw [hy108]; exact H) | exact H
              have Ny108 := Aside0.mk hy108
              clear hy108
              have H' := Aside0.mk H
              clear H
              have p9 : 0 ≤ (x4_1 : Int) := of_decide_eq_true (by first | (with_reducible assumption) | assumption)
              have q9 : (x4_1 : Int) < ((x2_1.length : Int) : Int) := of_decide_eq_true (by first | (with_reducible assumption) | assumption)
              obtain ⟨go9, co9, eo9, gb9, gl9, cl9, HG9⟩ := Kd.S_form HO_2.out (by omega)
              (first | cases eo9 | (injection eo9 with ea_ en_ ec_; (first | subst ea_ | (injection ea_ with ea_; subst ea_)); subst ec_; clear en_))
              have GB9 := Aside0.mk gb9
              have GG9 := Aside0.mk HG9
              clear gb9 gl9 HG9
              obtain ⟨_, ce9, hcl9, hM9, hcc9, hfr9, _, _⟩ := Kd.S_elem HO_2.out z75 (x4_1 : Int) p9 q9
              obtain ⟨ve9_1, rfl, ge9_1⟩ := k75_openM hM9
              have hx9_0 : wr.cell? ⟨go9, (x4_1 : Int).toNat * 2, none⟩ = some (.int .u32 ((rd_T75 x2_1 x4_1).f0)) := hcc9 0 _ rfl
              have hx9_1 : wr.cell? ⟨go9, (x4_1 : Int).toNat * 2 + 1, none⟩ = some (ve9_1) := hcc9 1 _ rfl
              have hf9_0 : wr.frozen? ⟨go9, (x4_1 : Int).toNat * 2, none⟩ = false := hfr9 0
              have hf9_1 : wr.frozen? ⟨go9, (x4_1 : Int).toNat * 2 + 1, none⟩ = false := hfr9 1
              clear hcl9 hcc9 hfr9 hM9
              replace p9 := eq_true p9
              replace q9 := eq_true q9
              have HX10 := Aside0.mk (show Kd.S k75 75 wr w.heap.size (fun k_ => ((fun k_ => some k_ ≠ (v103 : Value).ownBlock)) k_ ∧ ¬ ((fun _ => False)) k_) (.slice (some ⟨go9, 0, none⟩) x2_1.length co9) x2_1 from (by (with_reducible repeat (first | apply Kd.S_alloc | apply Kd.S_drewN | apply Kd.S_drew)); exact Kd.S_mono HO_2.out (fun k_ hk => ⟨hk, fun e_ => e_⟩)))
              obtain ⟨oki10, ce10, hcl10, hM10, hcc10, hfr10, hoki10, hH10⟩ := Kd.S_elem HX10.out z75 (x4_1 : Int) (of_decide_eq_true (by first | (with_reducible assumption) | assumption)) (by have h_ : (x4_1 : Int) < ((x2_1.length : Int) : Int) := of_decide_eq_true (by first | (with_reducible assumption) | assumption); first | exact h_ | (have e_ := (Kd.S_reads' HO_2.out).1; omega) | simpa using h_)
              obtain ⟨ve10_1, rfl, ge10_1⟩ := k75_openM hM10
              have HP10 := Kd.S_seg hH10 (of_decide_eq_true (by first | (with_reducible assumption) | assumption)) (by have h_ : (x4_1 : Int) < ((x2_1.length : Int) : Int) := of_decide_eq_true (by first | (with_reducible assumption) | assumption); first | exact h_ | (have e_ := (Kd.S_reads' HO_2.out).1; omega) | simpa using h_) (seg := [.int .u32 ((2 * x3_1) % 4294967296)]) (j := 0) (show 1 ≤ 2 from by decide) (x' := (⟨(2 * x3_1) % 4294967296, (rd_T75 x2_1 x4_1).f1⟩ : S75)) (k75_mkM _ _ _ (⟨(2 * x3_1) % 4294967296, (rd_T75 x2_1 x4_1).f1⟩ : S75) (Kd.R_mono ge10_1 (fun _ h_ => Or.inl h_))) (fun _ hk => hk) (fun k_ hk_ => hk_.elim)
              have hx10_0 := hcc10 0 _ rfl
              (try simp only [show (k75).sz = 2 from rfl, Nat.mul_one, Nat.add_zero] at hx10_0)
              have hf10_0 := hfr10 0
              (try simp only [show (k75).sz = 2 from rfl, Nat.mul_one, Nat.add_zero] at hf10_0)
              clear hcl10 hcc10 hfr10 hM10 hoki10 hH10
              go_wp2_with (first | ((with_reducible refine gate_store (t := 57) (p := 18) rfl ?_); refine store_event (t := 57) (p := 18) (v := ?vo_w11) (w1 := (wr.setCell ⟨go9, (x4_1 : Int).toNat * 2, none⟩ (.int .u32 ((2 * x3_1) % 4294967296)))) ?hg ?ho ?hn ?hr ?_; (case ho => rfl); (case hg => rfl); (case hn => rfl); (case hr => first | (go_simp; done) | (go_simp; rfl)); intro w11 hw; have hg : wr.grownBy w11 (some go9) := (by rw [hw]; exact HP10.2); have hp_ : Kd.S k75 75 w11 w.heap.size (fun k_ => some k_ ≠ (v103 : Value).ownBlock) (.slice (some ⟨go9, 0, none⟩) x2_1.length co9) y108 := (by rw [hw, Ny108.out]; exact HP10.1); clear HP10; have n0_ := Aside0.mk (Kd.R_over' (v := (.slice (some ⟨go9, 0, none⟩) x2_1.length co9)) (by (with_reducible repeat (first | apply Kd.R_alloc | apply Kd.R_drewN | apply Kd.R_drew)); exact HO_1.out) (Kd.S_typed HO_2.out) (by decide) hg); have n1_ := Aside0.mk (hp_); have n2_ := Aside0.mk ((by rw [hw]; exact below_set (HB.out) GB9.out : Below w.heap.size w w11)); clear HO_1; clear HO_2; clear HB; have HO_1 := n0_; have HO_2 := n1_; have HB := n2_; clear n0_ n1_ n2_; clear hg hw hp_))
              go_loopg [3, 5] k1 (fun kq v3 v5 w' => ∃ (x2_2 : List (S75)) (x3_2 : Int) (x5_2 : Int), v3 = .int .u32 x3_2 ∧ v5 = .int .i64 x5_2 ∧ Aside0 (mailcoachref10_Firsts.l1 kq t102 x2_2 x3_2 x4_1 x5_2 = some r) ∧ Aside0 (kq ≤ k1) ∧ Aside0 (Kd.R (Kd.int .i64) 3 w' w.heap.size (fun _ => True) v103 t102) ∧ Aside0 (Kd.S k75 75 w' w.heap.size (fun k_ => some k_ ≠ (v103 : Value).ownBlock) (.slice (some ⟨go9, 0, none⟩) x2_1.length co9) x2_2) ∧ Aside0 (Below w.heap.size w w'))
              case atStart => exact ⟨(y108), ((2 * x3_1) % 4294967296), (0), (by first | rfl | (simp; done) | (simp [*]; done)), (by first | rfl | (simp; done) | (simp [*]; done)), H', ⟨Nat.le_refl _⟩, ⟨by (with_reducible repeat (first | apply Kd.R_alloc | apply Kd.R_drewN | apply Kd.R_drew)); exact HO_1.out⟩, ⟨by (with_reducible repeat (first | apply Kd.S_alloc | apply Kd.S_drewN | apply Kd.S_drew)); exact HO_2.out⟩, ⟨by repeat (first | (with_reducible first | exact HB.out | apply below_alloc | apply pw_below_drewN | apply below_drew1) | exact HB.out)⟩⟩
              case round =>
                clear H'
                try clear c1
                try clear hx1
                try clear hf1
                try clear c2
                try clear c2b0
                try clear c2b1
                try clear p2
                try clear c4
                try clear c5
                try clear c6
                try clear c6b0
                try clear c7
                try clear c7b0
                try clear c8
                try clear c8b0
                try clear c9
                try clear p9
                try clear q9
                try clear hx9
                try clear hf9
                try clear c10
                try clear hx10
                try clear hf10
                try clear hx10_0
                try clear hx9_0
                try clear hx9_1
                try clear p2
                try clear p9
                try clear q9
                obtain ⟨x2_2, x3_2, x5_2, rfl, rfl, HA, HK2, HO_1, HO_2, HB⟩ := hrel
                have hl2_2 := (Kd.S_reads' HO_2.out).1
                rw [hl2_2] at HO_2
                (try simp only [hl2_2])
                (try simp only [hl2_2] at HO_1)
                cases gk with
                | zero => exact absurd HA.out (by simp [mailcoachref10_Firsts.l1])
                | succ k2 =>
                  have H := HA.out
                  clear HA
                  simp only [mailcoachref10_Firsts.l1] at H
                  by_cases c12 : x5_2 < 257
                  · rw [if_pos c12] at H
                    have c12b0 : decide (x5_2 < 257) = true := decide_eq_true c12
                    clear c12
                    by_cases c13 : 0 ≤ x5_2
                    · rw [if_pos c13] at H
                      have c13b0 : decide (0 ≤ x5_2) = true := decide_eq_true c13
                      clear c13
                      by_cases c14 : x5_2 < (t102.length : Int)
                      · rw [if_pos c14] at H
                        have c14b0 : decide (x5_2 < (t102.length : Int)) = true := decide_eq_true c14
                        clear c14
                        by_cases c15 : (rd t102 x5_2) = x4_1
                        · rw [if_pos c15] at H
                          have c15b0 : ((rd t102 x5_2) == x4_1) = true := beq_iff_eq.mpr c15
                          have c15b1 : ((rd t102 x5_2) != x4_1) = false := bne_eq_false_iff_eq.mpr c15
                          clear c15
                          by_cases c16 : 0 ≤ x4_1
                          · rw [if_pos c16] at H
                            have c16b0 : decide (0 ≤ x4_1) = true := decide_eq_true c16
                            clear c16
                            by_cases c17 : x4_1 < (x2_2.length : Int)
                            · rw [if_pos c17] at H
                              have c17b0 : decide (x4_1 < (x2_2.length : Int)) = true := decide_eq_true c17
                              clear c17
                              by_cases c18 : ((rd_T75 x2_2 x4_1).f1).length < 17592186044416
                              · rw [if_pos c18] at H
                                have LMc18 := Aside0.mk c18
                                clear c18
                                obtain ⟨y111, hy111⟩ : ∃ y_ : List Int, y_ = (((rd_T75 x2_2 x4_1).f1) ++ [x5_2]) := ⟨_, rfl⟩
                                replace H : (mailcoachref10_Firsts.l1 k2 t102 (x2_2.set (x4_1 : Int).toNat (⟨(rd_T75 x2_2 x4_1).f0, y111⟩ : S75)) ((x3_2 + 1) % 4294967296) x4_1 (wrap64 (x5_2 + 1))) = some r := by first | (rw [hy111]; with_reducible exact H) | (have H2_ := (Option.bind_some _ _).symm.trans H; rw [hy111]; with_reducible exact H2_) | (have H2_ := (Option.bind_some _ _).symm.trans H; with_reducible exact H2_) | with_reducible exact H | (rw [hy111]; exact H) | exact H
                                have Ny111 := Aside0.mk hy111
                                clear hy111
                                obtain ⟨y114, hy114⟩ : ∃ y_ : List (S75), y_ = (x2_2.set (x4_1 : Int).toNat (⟨(rd_T75 x2_2 x4_1).f0, y111⟩ : S75)) := ⟨_, rfl⟩
                                replace H : (mailcoachref10_Firsts.l1 k2 t102 y114 ((x3_2 + 1) % 4294967296) x4_1 (wrap64 (x5_2 + 1))) = some r := by first | (rw [hy114]; with_reducible exact H) | (have H2_ := (Option.bind_some _ _).symm.trans H; rw [hy114]; with_reducible exact H2_) | (have H2_ := (Option.bind_some _ _).symm.trans H; with_reducible exact H2_) | with_reducible exact H | (rw [hy114]; exact H) | exact H
                                have Ny114 := Aside0.mk hy114
                                clear hy114
                                have H' := Aside0.mk H
                                clear H
                                obtain ⟨Ao20, co20, eo20⟩ := Kd.R_slice HO_1.out
                                subst eo20
                                have p109 : 0 ≤ (x5_2 : Int) := of_decide_eq_true (by first | (with_reducible assumption) | assumption)
                                have q109 : x5_2 < (t102.length : Int) := of_decide_eq_true (by first | (with_reducible assumption) | assumption)
                                obtain ⟨ad109, e109, hx109_0⟩ := Kd.at_int (Kd.R_reads' HO_1.out).2.2 x5_2 p109 q109
                                cases e109
                                replace p109 := eq_true p109
                                replace q109 := eq_true q109
                                have p110 : 0 ≤ (x4_1 : Int) := of_decide_eq_true (by first | (with_reducible assumption) | assumption)
                                have q110 : x4_1 < (x2_2.length : Int) := of_decide_eq_true (by first | (with_reducible assumption) | assumption)
                                obtain ⟨ad110, A110_1, c110_1, e110, hx110_0, hx110_1, hl110_1, hi110_1⟩ := at_T75 (Kd.S_reads' HO_2.out).2.2 x4_1 p110 q110
                                obtain rfl : (⟨go9, 0, none⟩ : Addr) = ad110 := (by injection e110)
                                obtain ⟨ce110, hce110, hMe110, hcc110⟩ := Kd.S_get HO_2.out z75 x4_1 p110 (by first | exact q110 | exact of_decide_eq_true (by first | (with_reducible assumption) | assumption) | (have e_ := (Kd.S_reads' HO_2.out).1; omega))
                                obtain ⟨ve110_1, rfl, ge110_1⟩ := k75_openM hMe110
                                have hv110_1 := hcc110 1 _ rfl
                                rw [add_field _ _ 1 (by omega)] at hv110_1
                                replace hv110_1 := Option.some.inj (hv110_1.symm.trans hx110_1)
                                rw [hv110_1] at ge110_1
                                have HL110_1 := Aside0.mk (show Kd.R (Kd.int .i64) 3 _ _ _ _ ((rd_T75 x2_2 x4_1).f1) from ge110_1)
                                clear hv110_1 ge110_1
                                have HX110_1 := Aside0.mk hx110_1
                                clear hcc110 hce110
                                (first | simp only [add_plain] at hx110_0 | simp only [add_at] at hx110_0 | simp only [Addr.add, Nat.zero_add] at hx110_0 | skip)
                                (first | simp only [add_plain] at hx110_1 | simp only [add_at] at hx110_1 | simp only [Addr.add, Nat.zero_add] at hx110_1 | skip)
                                have HR110_1 := Aside0.mk hi110_1
                                have HC110_1 := Aside0.mk hl110_1
                                clear hi110_1 hl110_1
                                replace p110 := eq_true p110
                                replace q110 := eq_true q110
                                obtain ⟨oki21, ce21, hcl21, hM21, hcc21, _, _, hH21⟩ := Kd.S_elem HO_2.out z75 (x4_1 : Int) (of_decide_eq_true (by first | (with_reducible assumption) | assumption)) (by have h_ : (x4_1 : Int) < ((x2_2.length : Int) : Int) := of_decide_eq_true (by first | (with_reducible assumption) | assumption); first | exact h_ | (have e_ := (Kd.S_reads' HO_2.out).1; omega) | simpa using h_)
                                obtain ⟨ve21_1, rfl, ge21_1⟩ := k75_openM hM21
                                have hv21 := hcc21 1 _ rfl
                                have hX21 := HX110_1.out
                                (try simp only [add_plain] at hX21)
                                (try simp only [Nat.add_zero] at hv21)
                                replace hv21 := Option.some.inj (hv21.symm.trans hX21)
                                subst hv21
                                clear hX21 hcc21 hcl21
                                have UU21 := Aside0.mk (show Kd.R (Kd.int .i64) 3 _ w.heap.size oki21 (.slice A110_1 ((rd_T75 x2_2 x4_1).f1).length c110_1) ((rd_T75 x2_2 x4_1).f1) from ge21_1)
                                have HH21 := Aside0.mk hH21
                                have HN21 := Aside0.mk (Kd.S_reads' HO_2.out).1
                                clear hH21 ge21_1
                                go_wp2_with (first | ((with_reducible refine gate_builtin (b := .append) (xs := #[.tmp 35, .tmp 37]) rfl ?_); at_builtin; refine Kd.R_append (Kd.int .i64) (w0 := w) w.heap.size rfl (.tmp 35) (.tmp 37) 60 3 (.int .i64 0) 8 rfl Try.underlying60 info3 rfl (by decide) (by omega) (.slice A110_1 ((rd_T75 x2_2 x4_1).f1).length c110_1) ((rd_T75 x2_2 x4_1).f1) x5_2 [.int .i64 x5_2] (fun k_ => oki21 k_ ∨ ((fun k_ => some k_ ≠ (.slice (some ad109) t102.length co20 : Value).ownBlock)) k_ ∧ wr.heap.size ≤ k_) (fun _ => False) rfl rfl ?aP (fun _ hk => hk.elim) ?aF ?aO ?aB ?aS ?aL ?_; (case aP => exact rfl); (case aB => exact (by repeat (first | (with_reducible first | exact HB.out | apply below_alloc | apply pw_below_drewN | apply below_drew1) | exact HB.out))); (case aF => exact (fun k_ hk => .inr ⟨Kd.fresh' (Kd.R_lt (by (with_reducible repeat (first | apply Kd.R_alloc | apply Kd.R_drewN | apply Kd.R_drew)); exact HO_1.out)) k_ hk, hk⟩)); (case aO => exact (by (with_reducible repeat (first | apply Kd.R_alloc | apply Kd.R_drewN | apply Kd.R_drew)); exact Kd.R_mono UU21.out (fun _ hk => .inl hk))); (case aS => exact (below_size (by repeat (first | (with_reducible first | exact HB.out | apply below_alloc | apply pw_below_drewN | apply below_drew1) | exact HB.out)))); (case aL => have := LMc18.out; omega); intro v112 w22 ho hb hg hat; rw [← Ny111.out] at ho; have n0_ := Aside0.mk (Kd.R_grown2 (by (with_reducible repeat (first | apply Kd.R_alloc | apply Kd.R_drewN | apply Kd.R_drew)); exact HO_1.out) rfl hg (fun k_ e_ => (HL110_1.out.1 k_ e_).1)); have n1_ := Aside0.mk (hb); have n2_ := Aside0.mk (Kd.H_grown (Kd.H_widen (by repeat (first | exact HH21.out | refine Kd.H_alloc ?_ _ | refine Kd.H_drewN ?_ _ | refine Kd.H_drew ?_))) hg (fun k_ e_ => .inl (UU21.out.1 k_ e_))); have n3_ := Aside0.mk (ho); clear HO_1; clear HB; clear HH21; clear HO_2; clear UU21; clear HL110_1; have HO_1 := n0_; have HB := n1_; have HH21 := n2_; have HO113 := n3_; clear n0_ n1_ n2_ n3_; clear ho hb hg hat; have p19 : 0 ≤ (x4_1 : Int) := of_decide_eq_true (by first | (with_reducible assumption) | assumption); have q19 : (x4_1 : Int) < ((x2_2.length : Int) : Int) := of_decide_eq_true (by first | (with_reducible assumption) | assumption); replace p19 := eq_true p19; replace q19 := eq_true q19; obtain ⟨Ao25, co25, eo25⟩ := Kd.R_slice HO113.out; subst eo25; obtain ⟨_, _, hraw23, _, _, hcc23, _⟩ := Kd.H_raw HH21.out (of_decide_eq_true (by first | (with_reducible assumption) | assumption)) (by have h_ : (x4_1 : Int) < ((x2_2.length : Int) : Int) := of_decide_eq_true (by first | (with_reducible assumption) | assumption); first | exact h_ | (have e_ := (HN21.out); omega) | simpa using h_); obtain ⟨_, hfr23⟩ := Kd.H_at HH21.out (of_decide_eq_true (by first | (with_reducible assumption) | assumption)) (by have h_ : (x4_1 : Int) < ((x2_2.length : Int) : Int) := of_decide_eq_true (by first | (with_reducible assumption) | assumption); first | exact h_ | (have e_ := (HN21.out); omega) | simpa using h_); have hx23_0 := hcc23 1 _ rfl; have hf23_0 := hfr23 1; (try rw [show (k75).sz = 2 from rfl] at hx23_0); (try rw [show (k75).sz = 2 from rfl] at hf23_0); have HP23 := Kd.S_seg0 HH21.out (of_decide_eq_true (by first | (with_reducible assumption) | assumption)) (by have h_ : (x4_1 : Int) < ((x2_2.length : Int) : Int) := of_decide_eq_true (by first | (with_reducible assumption) | assumption); first | exact h_ | (have e_ := (HN21.out); omega) | simpa using h_) (seg := [.slice Ao25 y111.length co25]) (j := 1) (show 2 ≤ 2 from by decide) (x' := (⟨(rd_T75 x2_2 x4_1).f0, y111⟩ : S75)) (k75_mkM _ _ _ (⟨(rd_T75 x2_2 x4_1).f0, y111⟩ : S75) HO113.out) (fun _ hk => hk); clear hcc23 hfr23) | ((with_reducible refine gate_store (t := 60) (p := 40) rfl ?_); refine store_event (t := 60) (p := 40) (v := ?vo_w24) (w1 := (w22.setCell ⟨go9, (x4_1 : Int).toNat * 2 + 1, none⟩ (.slice Ao25 y111.length co25))) ?hg ?ho ?hn ?hr ?_; (case ho => rfl); (case hg => rfl); (case hn => rfl); (case hr => first | (go_simp; done) | (go_simp; rfl)); intro w24 hw; have hg : w22.grownBy w24 (some go9) := (by rw [hw]; exact HP23.2); have hp_ : Kd.S k75 75 w24 w.heap.size (fun k_ => some k_ ≠ (.slice (some ad109) t102.length co20 : Value).ownBlock) (.slice (some ⟨go9, 0, none⟩) x2_2.length co9) y114 := (by rw [hw, Ny114.out]; exact HP23.1); clear HP23; have n0_ := Aside0.mk (Kd.R_over' (v := (.slice (some ⟨go9, 0, none⟩) x2_2.length co9)) (by (with_reducible repeat (first | apply Kd.R_alloc | apply Kd.R_drewN | apply Kd.R_drew)); exact HO_1.out) (Kd.R_typed hraw23) (by decide) hg); have n1_ := Aside0.mk ((by rw [hw]; exact below_set HB.out GB9.out : Below w.heap.size w w24)); have n2_ := Aside0.mk (hp_); clear HO_1; clear HB; clear HO113; clear HH21; have HO_1 := n0_; have HB := n1_; have HO_2 := n2_; clear n0_ n1_ n2_; clear hg hw hp_ hraw23))
                                (try simp only [← hl2_2])
                                go_roundg k2
                                case measure => have := HK1.out; have := HK2.out; omega
                                case rel => exact ⟨(y114), ((x3_2 + 1) % 4294967296), (wrap64 (x5_2 + 1)), (by first | rfl | (simp; done) | (simp [*]; done)), (by first | rfl | (simp; done) | (simp [*]; done)), H', ⟨by have := HK1.out; have := HK2.out; omega⟩, ⟨by (try simp only [hl2_2]); (with_reducible repeat (first | apply Kd.R_alloc | apply Kd.R_drewN | apply Kd.R_drew)); exact HO_1.out⟩, ⟨by (try simp only [hl2_2]); (with_reducible repeat (first | apply Kd.S_alloc | apply Kd.S_drewN | apply Kd.S_drew)); exact HO_2.out⟩, ⟨by repeat (first | (with_reducible first | exact HB.out | apply below_alloc | apply pw_below_drewN | apply below_drew1) | exact HB.out)⟩⟩
                              · rw [if_neg c18] at H
                                exact absurd H (by simp)
                            · rw [if_neg c17] at H
                              exact absurd H (by simp)
                          · rw [if_neg c16] at H
                            exact absurd H (by simp)
                        · rw [if_neg c15] at H
                          have c15b0 : ((rd t102 x5_2) == x4_1) = false := beq_eq_false_iff_ne.mpr c15
                          have c15b1 : ((rd t102 x5_2) != x4_1) = true := bne_iff_ne.mpr c15
                          have H' := Aside0.mk H
                          clear H
                          obtain ⟨Ao26, co26, eo26⟩ := Kd.R_slice HO_1.out
                          subst eo26
                          have p109 : 0 ≤ (x5_2 : Int) := of_decide_eq_true (by first | (with_reducible assumption) | assumption)
                          have q109 : x5_2 < (t102.length : Int) := of_decide_eq_true (by first | (with_reducible assumption) | assumption)
                          obtain ⟨ad109, e109, hx109_0⟩ := Kd.at_int (Kd.R_reads' HO_1.out).2.2 x5_2 p109 q109
                          cases e109
                          replace p109 := eq_true p109
                          replace q109 := eq_true q109
                          go_wp2
                          (try simp only [← hl2_2])
                          go_roundg k2
                          case measure => have := HK1.out; have := HK2.out; omega
                          case rel => exact ⟨(x2_2), (x3_2), (wrap64 (x5_2 + 1)), (by first | rfl | (simp; done) | (simp [*]; done)), (by first | rfl | (simp; done) | (simp [*]; done)), H', ⟨by have := HK1.out; have := HK2.out; omega⟩, ⟨by (try simp only [hl2_2]); (with_reducible repeat (first | apply Kd.R_alloc | apply Kd.R_drewN | apply Kd.R_drew)); exact HO_1.out⟩, ⟨by (try simp only [hl2_2]); (with_reducible repeat (first | apply Kd.S_alloc | apply Kd.S_drewN | apply Kd.S_drew)); exact HO_2.out⟩, ⟨by repeat (first | (with_reducible first | exact HB.out | apply below_alloc | apply pw_below_drewN | apply below_drew1) | exact HB.out)⟩⟩
                      · rw [if_neg c14] at H
                        exact absurd H (by simp)
                    · rw [if_neg c13] at H
                      exact absurd H (by simp)
                  · rw [if_neg c12] at H
                    have c12b0 : decide (x5_2 < 257) = false := decide_eq_false c12
                    clear c12
                    have H' := Aside0.mk H
                    clear H
                    go_wp2
                    (try simp only [← hl2_2])
                    go_roundg k2
                    case measure => have := HK1.out; have := HK2.out; omega
                    case rel => exact ⟨(x2_2), (x3_2), (wrap64 (x4_1 + 1)), (by first | rfl | (simp; done) | (simp [*]; done)), (by first | rfl | (simp; done) | (simp [*]; done)), H', ⟨by have := HK1.out; have := HK2.out; omega⟩, ⟨by (try simp only [hl2_2]); (with_reducible repeat (first | apply Kd.R_alloc | apply Kd.R_drewN | apply Kd.R_drew)); exact HO_1.out⟩, ⟨by (try simp only [hl2_2]); (with_reducible repeat (first | apply Kd.S_alloc | apply Kd.S_drewN | apply Kd.S_drew)); exact HO_2.out⟩, ⟨by repeat (first | (with_reducible first | exact HB.out | apply below_alloc | apply pw_below_drewN | apply below_drew1) | exact HB.out)⟩⟩
            · rw [if_neg c8] at H
              exact absurd H (by simp)
          · rw [if_neg c7] at H
            exact absurd H (by simp)
        · rw [if_neg c6] at H
          have c6b0 : decide (x4_1 ≤ 30) = false := decide_eq_false c6
          clear c6
          obtain rfl := Option.some.inj H
          go_wp2
          go_ret
          exact ⟨_, by first | rfl | (simp [errW_none, errW_some] <;> rfl) | (simp [*, errW_none, errW_some] <;> rfl), by (with_reducible repeat (first | apply Kd.S_alloc | apply Kd.S_drewN | apply Kd.S_drew)); exact Kd.S_mono HO_2.out (fun _ hk => trivial), by repeat (first | (with_reducible first | exact HB.out | apply below_alloc | apply pw_below_drewN | apply below_drew1) | exact HB.out)⟩
  · rw [if_neg c2] at H
    exact absurd H (by simp)

end Go.Proofs.Ytmkmefdajbdceaa.PTX
