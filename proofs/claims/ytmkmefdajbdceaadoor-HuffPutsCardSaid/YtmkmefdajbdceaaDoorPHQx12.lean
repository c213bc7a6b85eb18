-- Written by wip/mprint.py (the kit's printer, and texts of this claim's own for what it does not take). Not trusted: Lean checks it.
import Derived.Test.YtmkmefdajbdceaaDoorPHQx0
import Derived.Test.YtmkmefdajbdceaaDoorPHQx1
import Derived.Test.YtmkmefdajbdceaaDoorPHQx2
import Derived.Test.YtmkmefdajbdceaaDoorPHQx3
import Derived.Test.YtmkmefdajbdceaaDoorPHQx5
import Derived.Test.YtmkmefdajbdceaaDoorPHQx6
import Derived.Test.YtmkmefdajbdceaaDoorPHQx7
import Derived.Test.YtmkmefdajbdceaaDoorPHQx8
import Derived.Test.YtmkmefdajbdceaaDoorPHQx9
import Derived.Test.YtmkmefdajbdceaaDoorPHQx10
import Derived.Test.YtmkmefdajbdceaaDoorPHQx11
namespace Go.Proofs.YtmkmefdajbdceaaDoor.PHQ
open Go.RowKit Go.Proofs.YtmkmefdajbdceaaDoorW.PrintWords Go.Proofs.YtmkmefdajbdceaaDoorW.PrintLast Go.Proofs.YtmkmefdajbdceaaDoorW.PrintMore
attribute [local go_sem] max2_int min2_int max_two min_two max_three min_three max_four min_four   -- for this text's walks alone
set_option linter.unusedVariables false
set_option linter.unusedSimpArgs false

/-! ### huff_lengths: function 62, by hand -/

/-! ### huff_Len: function 16, by hand -/

/-! ### mailcoachref10_Len: function 17 -/
def mailcoachref10_Len.l0 : Nat → ByteArray → List Int → Int → Int → Option (Int)
  | 0, _, _, _, _ => none
  | k + 1, x0, x3, x4, x5 => if x5 < (x0.size : Int) then (if 0 ≤ x5 then (if 0 ≤ (bt x0 x5) then (if (bt x0 x5) < (x3.length : Int) then (mailcoachref10_Len.l0 k x0 x3 (wrap64 (x4 + (rd x3 (bt x0 x5)))) (wrap64 (x5 + 1))) else (none)) else (none)) else (none)) else (some (wrap64 (Int.tdiv (wrap64 (x4 + 7)) 8)))
def mailcoachref10_Len.f (k : Nat) (a0 : ByteArray) : Option (Int) := (mailcoachref10_Lengths.f).bind fun t128 => (mailcoachref10_Len.l0 k a0 t128 0 0)
theorem mailcoachref10_Len.mono_l : ∀ k, (∀ y0 y1 y2 y3, LeO (mailcoachref10_Len.l0 k y0 y1 y2 y3) (mailcoachref10_Len.l0 (k + 1) y0 y1 y2 y3))
  | 0 => fun _ _ _ _ r h => by simp [mailcoachref10_Len.l0] at h
  | k + 1 => by
    have ih0 := mailcoachref10_Len.mono_l k
    · intro y0 y1 y2 y3
      unfold mailcoachref10_Len.l0
      repeat' first
      | (with_reducible exact ih0 _ _ _ _)
      | (with_reducible exact LeO.refl _)
      | (with_reducible exact LeO.none _)
      | (with_reducible refine LeO.ite ?_ ?_)
      | (with_reducible refine LeO.bind ?_ (fun _ => ?_))
      | exact ih0 _ _ _ _
      | exact LeO.none _
      | refine LeO.ite ?_ ?_
      | refine LeO.bind ?_ (fun _ => ?_)
theorem mailcoachref10_Len.mono : ∀ a0 k, LeO (mailcoachref10_Len.f k a0) (mailcoachref10_Len.f (k + 1) a0) := by
  intro a0 k
  have ih0 := mailcoachref10_Len.mono_l k
  unfold mailcoachref10_Len.f
  repeat' first
      | (with_reducible exact ih0 _ _ _ _)
      | (with_reducible exact LeO.refl _)
      | (with_reducible exact LeO.none _)
      | (with_reducible refine LeO.ite ?_ ?_)
      | (with_reducible refine LeO.bind ?_ (fun _ => ?_))
      | exact ih0 _ _ _ _
      | exact LeO.none _
      | refine LeO.ite ?_ ?_
      | refine LeO.bind ?_ (fun _ => ?_)
set_option maxHeartbeats 8000000 in
set_option maxRecDepth 100000 in
theorem mailcoachref10_Len.calls (k : Nat) (a0 : ByteArray) (r : Int) (w : World) (h : mailcoachref10_Len.f k a0 = some r) :
    Calls Tryd.prog 17 #[.string a0] w fun e w' => e = .returned (.int .i64 r) ∧ Below w.heap.size w w' := by
  have HB := Aside0.mk (Below.refl w.heap.size w)
  have H : ((mailcoachref10_Lengths.f).bind fun t128 => (mailcoachref10_Len.l0 k a0 t128 0 0)) = some r := h
  clear h
  replace H := Option.bind_eq_some_iff.mp H
  obtain ⟨t128, A20, H⟩ := H
  replace H : (mailcoachref10_Len.l0 k a0 t128 0 0) = some r := H
  have A2 := Aside0.mk A20
  clear A20
  have H' := Aside0.mk H
  clear H
  go_enter Tryd.func17, Tryd.ntmps17
  go_wp2_with (first | ((with_reducible refine gate_callee (f := 60) rfl ?_); refine goesL_ (some 6) rfl rfl Tryd.func60 (by kernel_rfl) rfl #[] rfl (by (try simp only [List.map_toArray, List.map_cons, List.map_nil]); first | done | rfl | (simp only [List.length_drop, List.length_take]; rfl)) ?_; (with_reducible refine (mailcoachref10_Lengths.calls  t128 _ A2.out).mono ?_); rintro e w3 ⟨v129, rfl, ho0, hb⟩; refine ⟨_, rfl, ?_⟩; have n0_ := Aside0.mk (Kd.R_lower ho0 (below_size (by repeat (first | (with_reducible first | exact HB.out | apply below_alloc | apply pw_below_drewN | apply below_drew1) | exact HB.out)))); have n1_ := Aside0.mk (below_step (by repeat (first | (with_reducible first | exact HB.out | apply below_alloc | apply pw_below_drewN | apply below_drew1) | exact HB.out)) hb); clear HB; have HO130 := n0_; have HB := n1_; clear n0_ n1_; (try clear hb); (try clear hb2); (try clear hk); (try clear hi); (try clear ho0)))
  go_loopg [4, 5] k (fun kq v4 v5 w' => ∃ (x4_1 : Int) (x5_1 : Int), v4 = .int .i64 x4_1 ∧ v5 = .int .i64 x5_1 ∧ Aside0 (mailcoachref10_Len.l0 kq a0 t128 x4_1 x5_1 = some r) ∧ Aside0 (kq ≤ k) ∧ Aside0 (Kd.R (Kd.int .i64) 3 w' w.heap.size (fun _ => True) v129 t128) ∧ Aside0 (Below w.heap.size w w'))
  case atStart => exact ⟨(0), (0), (by first | rfl | (simp; done) | (simp [*]; done)), (by first | rfl | (simp; done) | (simp [*]; done)), H', ⟨Nat.le_refl _⟩, ⟨by (with_reducible repeat (first | apply Kd.R_alloc | apply Kd.R_drewN | apply Kd.R_drew)); exact HO130.out⟩, ⟨by repeat (first | (with_reducible first | exact HB.out | apply below_alloc | apply pw_below_drewN | apply below_drew1) | exact HB.out)⟩⟩
  case round =>
    clear H'
    try clear c1
    try clear p2
    obtain ⟨x4_1, x5_1, rfl, rfl, HA, HK1, HO_3, HB⟩ := hrel
    cases gk with
    | zero => exact absurd HA.out (by simp [mailcoachref10_Len.l0])
    | succ k1 =>
      have H := HA.out
      clear HA
      simp only [mailcoachref10_Len.l0] at H
      by_cases c4 : x5_1 < (a0.size : Int)
      · rw [if_pos c4] at H
        have c4b0 : decide (x5_1 < (a0.size : Int)) = true := decide_eq_true c4
        clear c4
        by_cases c5 : 0 ≤ x5_1
        · rw [if_pos c5] at H
          have c5b0 : decide (0 ≤ x5_1) = true := decide_eq_true c5
          clear c5
          by_cases c7 : 0 ≤ (bt a0 x5_1)
          · rw [if_pos c7] at H
            have c7b0 : decide (0 ≤ (bt a0 x5_1)) = true := decide_eq_true c7
            clear c7
            by_cases c8 : (bt a0 x5_1) < (t128.length : Int)
            · rw [if_pos c8] at H
              have c8b0 : decide ((bt a0 x5_1) < (t128.length : Int)) = true := decide_eq_true c8
              clear c8
              have H' := Aside0.mk H
              clear H
              have p6 : 0 ≤ (x5_1 : Int) := of_decide_eq_true (by first | (with_reducible assumption) | assumption)
              have q6 : x5_1 < (a0.size : Int) := of_decide_eq_true (by first | (with_reducible assumption) | assumption)
              have hx6 := bt_at a0 x5_1
              replace p6 := eq_true p6
              replace q6 := eq_true q6
              obtain ⟨Ao9, co9, eo9⟩ := Kd.R_slice HO_3.out
              subst eo9
              have p131 : 0 ≤ ((bt a0 x5_1) : Int) := of_decide_eq_true (by first | (with_reducible assumption) | assumption)
              have q131 : (bt a0 x5_1) < (t128.length : Int) := of_decide_eq_true (by first | (with_reducible assumption) | assumption)
              obtain ⟨ad131, e131, hx131_0⟩ := Kd.at_int (Kd.R_reads' HO_3.out).2.2 (bt a0 x5_1) p131 q131
              cases e131
              replace p131 := eq_true p131
              replace q131 := eq_true q131
              go_wp2
              go_roundg k1
              case measure => have := HK1.out; omega
              case rel => exact ⟨(wrap64 (x4_1 + (rd t128 (bt a0 x5_1)))), (wrap64 (x5_1 + 1)), (by first | rfl | (simp; done) | (simp [*]; done)), (by first | rfl | (simp; done) | (simp [*]; done)), H', ⟨by have := HK1.out; omega⟩, ⟨by (with_reducible repeat (first | apply Kd.R_alloc | apply Kd.R_drewN | apply Kd.R_drew)); exact HO_3.out⟩, ⟨by repeat (first | (with_reducible first | exact HB.out | apply below_alloc | apply pw_below_drewN | apply below_drew1) | exact HB.out)⟩⟩
            · rw [if_neg c8] at H
              exact absurd H (by simp)
          · rw [if_neg c7] at H
            exact absurd H (by simp)
        · rw [if_neg c5] at H
          exact absurd H (by simp)
      · rw [if_neg c4] at H
        have c4b0 : decide (x5_1 < (a0.size : Int)) = false := decide_eq_false c4
        clear c4
        obtain rfl := Option.some.inj H
        go_wp2
        go_ret
        exact ⟨by first | rfl | (simp [errW_none, errW_some] <;> rfl) | (simp [*, errW_none, errW_some] <;> rfl), by repeat (first | (with_reducible first | exact HB.out | apply below_alloc | apply pw_below_drewN | apply below_drew1) | exact HB.out)⟩

/-! ### mailcoachlaw10_HuffPuts: function 5, by hand -/
theorem mailcoachlaw01_Beyond.one (n : Nat) (hn : n ≤ 9223372036854775807) : mailcoachlaw01_Beyond.f 2 [(n : Int)] = some (decide (1048576 < n)) := by
  have e : wrap64 (0 + rd [(n : Int)] 0) = n := by simp only [rd, wrap64]; simp; omega
  unfold mailcoachlaw01_Beyond.f
  simp only [mailcoachlaw01_Beyond.l0]
  rw [if_pos (by simp), if_pos (by simp), e]
  by_cases h : 1048576 < n
  · rw [if_pos (by omega)]; simp [h]
  · rw [if_neg (by omega)]
    have e1 : wrap64 (0 + 1) = 1 := by unfold wrap64; omega
    rw [e1, if_neg (by simp)]
    simp [h]
theorem man_lit_C (W : World) (k : IntKind) (t : TypeId) (x : Int) : Kd.C (Kd.int k) (W.alloc (.cells #[.int k x] t)) (some ⟨W.heap.size, 0, none⟩) [x].length [x] := by
  have h := own_lit W W.heap.size t k [x] (Nat.le_refl _) (by simp)
  have hr := own_reads' h
  exact Kd.C_of_reads (enc := Value.int k) (d := (0 : Int)) (h1 := fun _ => rfl) hr
theorem mailcoachlaw01_Beyond.calls1 (W : World) (n : Nat) (hn : n ≤ 9223372036854775807) :
    Calls Tryd.prog 13 #[.slice (some ⟨W.heap.size, 0, none⟩) 1 1] (W.alloc (.cells #[.int .i64 n] 3)) fun e w' => e = .returned (.bool (decide (1048576 < n))) ∧ Drawn0 (W.alloc (.cells #[.int .i64 n] 3)) w' :=
  mailcoachlaw01_Beyond.calls 2 (some ⟨W.heap.size, 0, none⟩) 1 [(n : Int)] _ _ (man_lit_C W .i64 3 n) (Nat.le_refl _) (mailcoachlaw01_Beyond.one n hn)

theorem book_own_form {w : World} {base n size : Nat} {e : TypeId} {v : Value} {xs : List Value} (h : w.ownsRow base e size v n xs) (hn : 0 < n) : ∃ g cap, v = .slice (some ⟨g, 0, none⟩) n cap := by
  rcases h.2 with ⟨_, h0⟩ | ⟨g, cap, cur, hv, _⟩
  · omega
  · exact ⟨g, cap, hv⟩
theorem book_own_apart {w : World} {base n size : Nat} {e : TypeId} {v u : Value} {xs : List Value} (h : w.ownsRow base e size v n xs) (hu : ∀ k, u.ownBlock = some k → k < base) : v.ownBlock = none ∨ v.ownBlock ≠ u.ownBlock := by
  rcases own_base' h with hn | ⟨b, hb, hle⟩
  · exact .inl hn
  · refine .inr (fun e => ?_)
    rw [hb] at e
    have := hu b e.symm
    omega
/-- Two lists of a kind that lie apart: what Book.Apart asks. -/
theorem book_two {base g : Nat} {n : Int} {w : World} {A1 A2 : Option Addr} {c1 c2 : Nat} {l : List Int} {vb : Value} (h : BookSt base g n 2 (([] ++ [.slice A1 l.length c1, .slice none 0 0, .int .i64 (0 + 1)]) ++ [.slice A2 l.length c2, .slice none 0 0, .int .i64 (0 + 1 + 1)]) vb w)
    (o1 : w.ownsRow base 5 1 (.slice A1 l.length c1) l.length (nums .u8 l)) (o2 : w.ownsRow base 5 1 (.slice A2 l.length c2) l.length (nums .u8 l)) (hap : (Value.slice A2 l.length c2).ownBlock = none ∨ (Value.slice A2 l.length c2).ownBlock ≠ (Value.slice A1 l.length c1).ownBlock) (hl : l.length ≤ 100000000) :
    Calls Tryd.prog 10 #[.pointer (some ⟨g, 0, none⟩)] w fun e w' => e = .returned (.bool true) ∧ Below base w w' := by
  obtain ⟨gb, cap, rfl⟩ := book_own_form h.own (by omega)
  refine book_Apart base g gb cap 2 n (fun j => if j = 0 then A1 else A2) (fun j => if j = 0 then c1 else c2) (fun _ => l) w (by omega) (fun _ _ => hl) ?_ ?_ ?_
  · have e : (([] ++ [Value.slice A1 l.length c1, .slice none 0 0, .int .i64 (0 + 1)]) ++ [.slice A2 l.length c2, .slice none 0 0, .int .i64 (0 + 1 + 1)] : List Value) = book_row (fun j => .slice (if j = 0 then A1 else A2) l.length (if j = 0 then c1 else c2)) (fun _ => .slice none 0 0) 2 := by
      simp [book_row, List.range_succ]
    rw [e] at h
    exact h
  · intro j hj
    by_cases h0 : j = 0
    · subst h0; simpa using o1
    · simpa [h0] using o2
  · intro j k hj hk hne
    rcases (show j = 0 ∧ k = 1 ∨ j = 1 ∧ k = 0 by omega) with ⟨rfl, rfl⟩ | ⟨rfl, rfl⟩
    · rcases hap with h | h
      · cases h1 : (Value.slice A1 l.length c1).ownBlock with
        | none => exact .inl (by simpa using h1)
        | some r => exact .inr (by simp only [if_true, Nat.one_ne_zero, if_false]; rw [h1, h]; simp)
      · exact .inr (by simpa using fun e => h e.symm)
    · simpa using hap

theorem mailcoachlaw10_HuffPuts.beyond (a0 : ByteArray) (w : World) (hs : 1048576 < a0.size) (hm : a0.size ≤ 9223372036854775807) :
    Calls Tryd.prog 5 #[.string a0] w fun e w' => e = .returned (.bool true) ∧ Below w.heap.size w w' := by
  have hd : decide (1048576 < a0.size) = true := by simp [hs]
  go_enter Tryd.func5, Tryd.ntmps5
  go_wp2_with (go_at_call 13; refine (mailcoachlaw01_Beyond.calls1 _ _ (by omega)).mono ?_; rintro e w' ⟨rfl, HD1⟩; rw [hd])
  go_ret
  exact ⟨rfl, below_step (below_alloc (Below.refl _ _) _) HD1.below⟩
set_option maxHeartbeats 3200000 in
set_option maxRecDepth 100000 in
theorem mailcoachlaw10_HuffPuts.walk (k k2 : Nat) (a0 : ByteArray) (l : List Int) (e0 n : Int) (wi : World) (hs : a0.size ≤ 1048576) (h1 : huff_Put.f a0 = some (l, e0)) (h2 : mailcoachref10_Put.f k a0 = some (l, e0)) (h3 : mailcoachlaw01_SameBytes.f k2 l l = some true) (hl : l.length ≤ 100000000) (h4 : huff_Len.f a0 = some n) (h5 : mailcoachref10_Len.f k a0 = some n) :
    Calls Tryd.prog 5 #[.string a0] wi fun e w' => e = .returned (.bool true) ∧ Below wi.heap.size wi w' := by
  have hd : decide (1048576 < a0.size) = false := by simp; omega
  have H1 := Aside0.mk h1
  have H2 := Aside0.mk h2
  have H3 := Aside0.mk h3
  have H4 := Aside0.mk h4
  have H5 := Aside0.mk h5
  have HL := Aside0.mk hl
  have hee : (e0 != e0) = false := by simp
  have hnn : (n != n) = false := by simp
  clear h1 h2 h3 h4 h5 hl
  go_enter Tryd.func5, Tryd.ntmps5
  go_upto_region 3 with (go_at_call 13; refine (mailcoachlaw01_Beyond.calls1 _ _ (by omega)).mono ?_; rintro e w ⟨rfl, HD1⟩; rw [hd]; have HBI := Aside0.mk (below_step (below_alloc (Below.refl wi.heap.size wi) _) HD1.below); clear HD1)
  go_upto_region 4 with (go_at_call 14; refine (huff_Put.calls a0 l e0 _ H1.out).mono ?_; rintro e w1 ⟨v1, rfl, hr, hd⟩; have HB1 := Aside0.mk hd; obtain ⟨A1, c1, rfl⟩ := Kd.R_slice hr; have HO1 := Aside0.mk (show w1.ownsRow w.heap.size 5 1 (.slice A1 l.length c1) l.length (nums .u8 l) from Kd.own_of_R hr); clear hr hd)
  go_upto_region 5 with (go_at_call 14; refine (huff_Put.calls a0 l e0 _ H1.out).mono ?_; rintro e w2 ⟨v2, rfl, hr, hd⟩; have HB2 := Aside0.mk (below_step HB1.out hd); obtain ⟨A2, c2, rfl⟩ := Kd.R_slice hr; have HO2 := Aside0.mk (show w2.ownsRow w1.heap.size 5 1 (.slice A2 l.length c2) l.length (nums .u8 l) from Kd.own_of_R hr); have HAP := Aside0.mk (book_own_apart HO2.out (own_lt HO1.out)); have HO1 := Aside0.mk (pw_own_below HO1.out hd); have HO2 := Aside0.mk (own_weaken HO2.out HB1.out.size); clear hr hd)
  go_upto_region 6 with (go_at_call 15; refine (mailcoachref10_Put.calls k a0 l e0 _ H2.out).mono ?_; rintro e w3 ⟨v3, rfl, hr, hd⟩; have HB3 := Aside0.mk (below_step HB2.out hd); obtain ⟨A3, c3, rfl⟩ := Kd.R_slice hr; have HO3 := Aside0.mk (show w3.ownsRow w2.heap.size 5 1 (.slice A3 l.length c3) l.length (nums .u8 l) from Kd.own_of_R hr); have HO1 := Aside0.mk (pw_own_below HO1.out hd); have HO2 := Aside0.mk (pw_own_below HO2.out hd); clear hr hd)
  have HC1 := Aside0.mk (Kd.C_of_reads (enc := Value.int .u8) (d := (0 : Int)) (h1 := fun _ => rfl) (own_reads' HO1.out))
  have HC2 := Aside0.mk (Kd.C_of_reads (enc := Value.int .u8) (d := (0 : Int)) (h1 := fun _ => rfl) (own_reads' HO2.out))
  have HC3 := Aside0.mk (Kd.C_of_reads (enc := Value.int .u8) (d := (0 : Int)) (h1 := fun _ => rfl) (own_reads' HO3.out))
  go_upto_region 8 with (first | (go_at_call_of 8 A1; refine (mailcoachlaw01_SameBytes.calls k2 A1 c1 l A3 c3 l true _ (by exact HC1.out) (own_cap HO1.out) (by exact HC3.out) (own_cap HO3.out) H3.out).mono ?_; rintro e w4 ⟨rfl, hd⟩; obtain ⟨m4, rfl⟩ := hd.out) | (go_at_call_of 8 A2; refine (mailcoachlaw01_SameBytes.calls k2 A2 c2 l A3 c3 l true _ (by exact HC2.out) (own_cap HO2.out) (by exact HC3.out) (own_cap HO3.out) H3.out).mono ?_; rintro e w5 ⟨rfl, hd⟩; obtain ⟨m5, rfl⟩ := hd.out) | (go_at_call 16; refine (huff_Len.calls a0 n _ H4.out).mono ?_; rintro e w6 ⟨rfl, hd⟩; have HZ6 := Aside0.mk (below_step (book_below_n (Below.refl w3.heap.size w3) _) hd); clear hd) | (go_at_call 17; refine (mailcoachref10_Len.calls k a0 n _ H5.out).mono ?_; rintro e wz ⟨rfl, hd⟩; have HZ := Aside0.mk (below_step HZ6.out hd); clear hd))
  have HZB := Aside0.mk (below_step HB3.out HZ.out)
  have BA := Aside0.mk (show Below w3.heap.size w3 (wz.alloc (.cells (book_cells 0 (.slice none 0 0)) 41)) from HZ.out.alloc HZ.out.size _)
  have BS := Aside0.mk (show BookSt w.heap.size wz.heap.size 0 0 [] (.slice none 0 0) (wz.alloc (.cells (book_cells 0 (.slice none 0 0)) 41)) from ⟨HZB.out.size, heap_alloc_new _ _, World.ownsRow_nil _ _ _ _⟩)
  go_upto_region 10 with (go_at_call 9; refine (book_Bytes w.heap.size wz.heap.size 0 0 [] (.slice none 0 0) _ A1 l.length c1 (by exact BS.out) (by omega) (by omega)).mono ?_; rintro e w6 ⟨rfl, vb1, hs, hb, hk⟩; have HS6 := Aside0.mk hs; have HB6 := Aside0.mk ((below_then HB3.out HB3.out.size BA.out).trans hb); have HO1 := Aside0.mk (hk.own (pw_own_below HO1.out BA.out)); have HO2 := Aside0.mk (hk.own (pw_own_below HO2.out BA.out)); clear hs hb hk)
  go_upto_region 11 with (go_at_call 9; refine (book_Bytes w.heap.size wz.heap.size (0 + 1) (0 + 1) _ vb1 _ A2 l.length c2 (by exact HS6.out) (by omega) (by omega)).mono ?_; rintro e w7 ⟨rfl, vb2, hs, hb, hk⟩; have HS7 := Aside0.mk hs; have HB7 := Aside0.mk (HB6.out.trans hb); have HO1 := Aside0.mk (hk.own HO1.out); have HO2 := Aside0.mk (hk.own HO2.out); clear hs hb hk)
  go_wp2_with (go_at_call 10; refine (book_two HS7.out HO1.out HO2.out HAP.out HL.out).mono ?_; rintro e w8 ⟨rfl, hb⟩; have HB8 := Aside0.mk (HB7.out.trans hb); clear hb)
  go_ret
  exact ⟨rfl, below_step HBI.out HB8.out⟩


end Go.Proofs.YtmkmefdajbdceaaDoor.PHQ
