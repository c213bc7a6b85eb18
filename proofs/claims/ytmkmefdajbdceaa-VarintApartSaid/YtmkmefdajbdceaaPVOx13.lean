-- Written by wip/xpart.sh: texts of this claim's own. Not trusted: Lean checks it.
import Derived.Test.YtmkmefdajbdceaaPVOx6
import Derived.Test.YtmkmefdajbdceaaPVOx7
import Derived.Test.YtmkmefdajbdceaaPVOx8
namespace Go.Proofs.Ytmkmefdajbdceaa.PVO
open Go.RowKit Go.Proofs.YtmkmefdajbdceaaW.PrintWords Go.Proofs.YtmkmefdajbdceaaW.PrintLast Go.Proofs.YtmkmefdajbdceaaW.PrintMore
attribute [local go_sem] max2_int min2_int max_two min_two max_three min_three max_four min_four
set_option linter.unusedVariables false
set_option linter.unusedSimpArgs false
def mailcoachlaw01_VarintApart.f (k : Nat) (n m first bits : Int) : Option Bool :=
  (mailcoachlaw01_alive.f k).bind fun al => if al = true then (varint_Put.f n).bind fun a => (varint_Put.f m).bind fun b =>
    ((if a.2 = 0 ∧ b.2 = 0 then (mailcoachlaw01_SameBytes.f k (a.1.take (min a.1.length b.1.length)) (b.1.take (min a.1.length b.1.length))).map (fun s => s != (n == m)) else some false).bind fun bad =>
      if bad = true then some false else
      (varint_PutPrefix.f first bits n).bind fun c => (varint_PutPrefix.f first bits m).bind fun d =>
        if c.2 = 0 ∧ d.2 = 0 then (mailcoachlaw01_SameBytes.f k (c.1.take (min c.1.length d.1.length)) (d.1.take (min c.1.length d.1.length))).map (fun s => s == (n == m)) else some true)
  else some false
theorem man_cell_drewN {w : World} {ad : Addr} {v : Value} (h : w.cell? ad = some v) (n : Nat) : (w.drewN n).cell? ad = some v := (World.cell?_drewN w n ad).trans h
set_option maxHeartbeats 3200000 in
set_option maxRecDepth 100000 in
theorem mailcoachlaw01_VarintApart.calls (k : Nat) (n m first bits : Int) (r : Bool) (w : World) (h : mailcoachlaw01_VarintApart.f k n m first bits = some r) :
    Calls Try.prog 10 #[.int .u64 n, .int .u64 m, .agg #[.int .u8 first, .int .i64 bits]] w fun e w' => e = .returned (.bool r) ∧ Below w.heap.size w w' := by
  have hu42 := Try.underlying42
  obtain ⟨i0, hinf, _, _, _⟩ := info_parts man_info_u8
  unfold mailcoachlaw01_VarintApart.f at h
  obtain ⟨al, hal, h⟩ := Option.bind_eq_some_iff.mp h
  have HAL := Aside0.mk hal
  clear hal
  cases al with
  | false =>
    obtain rfl : false = r := by simpa using h
    clear h
    go_enter Try.func10, Try.ntmps10
    go_wp2_with (fail)
    refine (mailcoachlaw01_alive.calls k false _ HAL.out).mono ?_
    rintro e1 w1 ⟨rfl, hb⟩
    have B1 := Aside0.mk (below_step (below_alloc (Below.refl w.heap.size w) _) hb)
    clear hb
    go_wp2_with (fail)
    go_ret
    exact ⟨rfl, B1.out⟩
  | true =>
    rw [if_pos rfl] at h
    obtain ⟨⟨a, e⟩, ha, h⟩ := Option.bind_eq_some_iff.mp h
    obtain ⟨⟨b, f⟩, hb, h⟩ := Option.bind_eq_some_iff.mp h
    obtain ⟨bad, hbad, h⟩ := Option.bind_eq_some_iff.mp h
    have HA := Aside0.mk ha
    have HB := Aside0.mk hb
    have HBAD := Aside0.mk hbad
    have HH := Aside0.mk h
    clear ha hb hbad h
    have hzb : (w.alloc (Obj.cells #[Value.int IntKind.u8 first, Value.int IntKind.i64 bits] 42)).heap[w.heap.size]? = some (Obj.cells #[Value.int IntKind.u8 first, Value.int IntKind.i64 bits] 42) := by unfold World.alloc; exact Array.getElem?_push_size
    have hz0 : (w.alloc (Obj.cells #[Value.int IntKind.u8 first, Value.int IntKind.i64 bits] 42)).cell? ⟨w.heap.size, 0, none⟩ = some (.int .u8 first) := (blk_cell hzb 0).trans rfl
    have hz1 : (w.alloc (Obj.cells #[Value.int IntKind.u8 first, Value.int IntKind.i64 bits] 42)).cell? ⟨w.heap.size, 1, none⟩ = some (.int .i64 bits) := (blk_cell hzb 1).trans rfl
    have Z0 := Aside0.mk hz0
    have Z1 := Aside0.mk hz1
    clear hz0 hz1 hzb
    go_enter Try.func10, Try.ntmps10
    go_wp2_with (fail)
    refine (mailcoachlaw01_alive.calls k true _ HAL.out).mono ?_
    rintro e1 w1 ⟨rfl, hb⟩
    have B1 := Aside0.mk (below_step (below_alloc (Below.refl w.heap.size w) _) hb)
    have Z0 := Aside0.mk (pw_cell_below hb Z0.out)
    have Z1 := Aside0.mk (pw_cell_below hb Z1.out)
    clear hb
    go_wp2_with (fail)
    refine (varint_Put.calls n a e w1 HA.out).mono ?_
    rintro e2 w2 ⟨v2, rfl, ho2, hb⟩
    obtain ⟨A2, c2, rfl⟩ := Kd.R_slice ho2
    obtain ⟨-, hc2, hr2⟩ := Kd.R_reads' ho2
    have R2 := Aside0.mk hr2
    have B2 := Aside0.mk (below_step B1.out hb)
    have Z0 := Aside0.mk (pw_cell_below hb Z0.out)
    have Z1 := Aside0.mk (pw_cell_below hb Z1.out)
    clear hb ho2 hr2
    go_wp2_with (fail)
    refine (varint_Put.calls m b f w2 HB.out).mono ?_
    rintro e3 w3 ⟨v3, rfl, ho3, hb⟩
    obtain ⟨A3, c3, rfl⟩ := Kd.R_slice ho3
    obtain ⟨-, hc3, hr3⟩ := Kd.R_reads' ho3
    have R3 := Aside0.mk hr3
    have R2 := Aside0.mk (Kd.C_below R2.out hb)
    have B3 := Aside0.mk (below_step B2.out hb)
    have Z0 := Aside0.mk (pw_cell_below hb Z0.out)
    have Z1 := Aside0.mk (pw_cell_below hb Z1.out)
    clear hb ho3 hr3
    by_cases he : e = 0
    · by_cases hf : f = 0
      · subst he hf
        have hfin := HBAD.out
        clear HBAD
        obtain ⟨t, ht⟩ : ∃ t : Nat, t = min a.length b.length := ⟨_, rfl⟩
        rw [if_pos ⟨rfl, rfl⟩, ← ht] at hfin
        obtain ⟨s, hs, hsr⟩ := Option.map_eq_some_iff.mp hfin
        have l1 : (a.take t).length = t := by rw [List.length_take]; omega
        have l2 : (b.take t).length = t := by rw [List.length_take]; omega
        have hSB : ∀ q, Calls Try.prog 32 #[.slice A2 t c2, .slice A3 t c3] (w3.drewN q) fun e w' => e = .returned (.bool s) ∧ ∃ m, w' = (w3.drewN q).drewN m := by
          intro q
          have hh := mailcoachlaw01_SameBytes.calls k A2 c2 (a.take t) A3 c3 (b.take t) s (w3.drewN q) (Kd.C_drewN (Kd.C_take R2.out (by omega)) _) (by omega) (Kd.C_drewN (Kd.C_take R3.out (by omega)) _) (by omega) hs
          rw [l1, l2] at hh
          exact hh.mono fun _ _ hd => ⟨hd.1, hd.2.out⟩
        have hx4 := cut_to (P := Try.prog) 22 5 .i64 Try.underlying22 hinf A2 a.length c2 (t : Int) (by omega) (by omega) hc2
        have hx5 := cut_to (P := Try.prog) 22 5 .i64 Try.underlying22 hinf A3 b.length c3 (t : Int) (by omega) (by omega) hc3
        simp only [Int.toNat_natCast] at hx4 hx5
        by_cases hlt : (b.length : Int) < a.length
        · obtain rfl : t = b.length := by omega
          clear ht l1 l2
          go_wp2_with (fail)
          go_quiet ((go_at_call 32; exact Calls.quiet_of (hSB _)))
          have B3 := Aside0.mk (pw_below_drewN B3.out nq)
          have hz0 := man_cell_drewN Z0.out nq
          have hz1 := man_cell_drewN Z1.out nq
          have Z0 := Aside0.mk hz0
          have Z1 := Aside0.mk hz1
          clear hz0 hz1
          cases hsv : (s == (n == m)) with
          | false =>
            have hsv2 : (s != (n == m)) = true := by rw [bne, hsv]; rfl
            have hbt : bad = true := by rw [← hsr]; exact hsv2
            subst hbt
            have h := HH.out
            rw [if_pos rfl] at h
            obtain rfl : false = r := Option.some.inj h
            go_wp2_with (fail)
            go_ret
            exact ⟨rfl, B3.out⟩
          | true =>
            have hsv2 : (s != (n == m)) = false := by rw [bne, hsv]; rfl
            have hbf : bad = false := by rw [← hsr]; exact hsv2
            subst hbf
            have h := HH.out
            rw [if_neg (by decide)] at h
            obtain ⟨⟨c, g⟩, hc, h⟩ := Option.bind_eq_some_iff.mp h
            obtain ⟨⟨d, i⟩, hd, h⟩ := Option.bind_eq_some_iff.mp h
            have HC := Aside0.mk hc
            have HD := Aside0.mk hd
            have HE := Aside0.mk h
            clear hc hd h HH
            have hz0 := Z0.out
            have hz1 := Z1.out
            go_wp2_with (fail)
            refine (varint_PutPrefix.calls first bits n c g (w3.drewN nq) HC.out).mono ?_
            clear hz0 hz1
            rintro e4 w4 ⟨v4, rfl, ho4, hb⟩
            obtain ⟨A4, c4, rfl⟩ := Kd.R_slice ho4
            obtain ⟨-, hc4, hr4⟩ := Kd.R_reads' ho4
            have R4 := Aside0.mk hr4
            have B4 := Aside0.mk (below_step B3.out hb)
            have hz0 := pw_cell_below hb Z0.out
            have hz1 := pw_cell_below hb Z1.out
            clear hb ho4 hr4
            go_wp2_with (fail)
            refine (varint_PutPrefix.calls first bits m d i w4 HD.out).mono ?_
            clear hz0 hz1
            rintro e5 w5 ⟨v5, rfl, ho5, hb⟩
            obtain ⟨A5, c5, rfl⟩ := Kd.R_slice ho5
            obtain ⟨-, hc5, hr5⟩ := Kd.R_reads' ho5
            have R5 := Aside0.mk hr5
            have R4 := Aside0.mk (Kd.C_below R4.out hb)
            have B5 := Aside0.mk (below_step B4.out hb)
            clear hb ho5 hr5
            by_cases hg : g = 0
            · subst hg
              by_cases hi : i = 0
              · subst hi
                have hfin := HE.out
                clear HE
                obtain ⟨t, ht⟩ : ∃ t : Nat, t = min c.length d.length := ⟨_, rfl⟩
                rw [if_pos ⟨rfl, rfl⟩, ← ht] at hfin
                obtain ⟨s, hs, hsr⟩ := Option.map_eq_some_iff.mp hfin
                have l1 : (c.take t).length = t := by rw [List.length_take]; omega
                have l2 : (d.take t).length = t := by rw [List.length_take]; omega
                have hSB : ∀ q, Calls Try.prog 32 #[.slice A4 t c4, .slice A5 t c5] (w5.drewN q) fun e w' => e = .returned (.bool s) ∧ ∃ m, w' = (w5.drewN q).drewN m := by
                  intro q
                  have hh := mailcoachlaw01_SameBytes.calls k A4 c4 (c.take t) A5 c5 (d.take t) s (w5.drewN q) (Kd.C_drewN (Kd.C_take R4.out (by omega)) _) (by omega) (Kd.C_drewN (Kd.C_take R5.out (by omega)) _) (by omega) hs
                  rw [l1, l2] at hh
                  exact hh.mono fun _ _ hd => ⟨hd.1, hd.2.out⟩
                have hx4 := cut_to (P := Try.prog) 22 5 .i64 Try.underlying22 hinf A4 c.length c4 (t : Int) (by omega) (by omega) hc4
                have hx5 := cut_to (P := Try.prog) 22 5 .i64 Try.underlying22 hinf A5 d.length c5 (t : Int) (by omega) (by omega) hc5
                simp only [Int.toNat_natCast] at hx4 hx5
                by_cases hlt : (d.length : Int) < c.length
                · obtain rfl : t = d.length := by omega
                  clear ht l1 l2
                  go_wp2_with (fail)
                  go_quiet ((go_at_call 32; exact Calls.quiet_of (hSB _)))
                  subst hsr
                  go_wp2_with (fail)
                  go_ret
                  exact ⟨rfl, pw_below_drewN B5.out _⟩
                · obtain rfl : t = c.length := by omega
                  clear ht l1 l2
                  go_wp2_with (fail)
                  go_quiet ((go_at_call 32; exact Calls.quiet_of (hSB _)))
                  subst hsr
                  go_wp2_with (fail)
                  go_ret
                  exact ⟨rfl, pw_below_drewN B5.out _⟩
              · have hi0 : (i == 0) = false := beq_eq_false_iff_ne.mpr hi
                have hi1 : (i != 0) = true := bne_iff_ne.mpr hi
                have hr : true = r := by have := HE.out; rw [if_neg (by simp [hi])] at this; exact Option.some.inj this
                subst hr
                go_wp2_with (fail)
                go_ret
                exact ⟨rfl, B5.out⟩
            · have hg0 : (g == 0) = false := beq_eq_false_iff_ne.mpr hg
              have hg1 : (g != 0) = true := bne_iff_ne.mpr hg
              have hr : true = r := by have := HE.out; rw [if_neg (by simp [hg])] at this; exact Option.some.inj this
              subst hr
              go_wp2_with (fail)
              go_ret
              exact ⟨rfl, B5.out⟩
        · obtain rfl : t = a.length := by omega
          clear ht l1 l2
          go_wp2_with (fail)
          go_quiet ((go_at_call 32; exact Calls.quiet_of (hSB _)))
          have B3 := Aside0.mk (pw_below_drewN B3.out nq)
          have hz0 := man_cell_drewN Z0.out nq
          have hz1 := man_cell_drewN Z1.out nq
          have Z0 := Aside0.mk hz0
          have Z1 := Aside0.mk hz1
          clear hz0 hz1
          cases hsv : (s == (n == m)) with
          | false =>
            have hsv2 : (s != (n == m)) = true := by rw [bne, hsv]; rfl
            have hbt : bad = true := by rw [← hsr]; exact hsv2
            subst hbt
            have h := HH.out
            rw [if_pos rfl] at h
            obtain rfl : false = r := Option.some.inj h
            go_wp2_with (fail)
            go_ret
            exact ⟨rfl, B3.out⟩
          | true =>
            have hsv2 : (s != (n == m)) = false := by rw [bne, hsv]; rfl
            have hbf : bad = false := by rw [← hsr]; exact hsv2
            subst hbf
            have h := HH.out
            rw [if_neg (by decide)] at h
            obtain ⟨⟨c, g⟩, hc, h⟩ := Option.bind_eq_some_iff.mp h
            obtain ⟨⟨d, i⟩, hd, h⟩ := Option.bind_eq_some_iff.mp h
            have HC := Aside0.mk hc
            have HD := Aside0.mk hd
            have HE := Aside0.mk h
            clear hc hd h HH
            have hz0 := Z0.out
            have hz1 := Z1.out
            go_wp2_with (fail)
            refine (varint_PutPrefix.calls first bits n c g (w3.drewN nq) HC.out).mono ?_
            clear hz0 hz1
            rintro e4 w4 ⟨v4, rfl, ho4, hb⟩
            obtain ⟨A4, c4, rfl⟩ := Kd.R_slice ho4
            obtain ⟨-, hc4, hr4⟩ := Kd.R_reads' ho4
            have R4 := Aside0.mk hr4
            have B4 := Aside0.mk (below_step B3.out hb)
            have hz0 := pw_cell_below hb Z0.out
            have hz1 := pw_cell_below hb Z1.out
            clear hb ho4 hr4
            go_wp2_with (fail)
            refine (varint_PutPrefix.calls first bits m d i w4 HD.out).mono ?_
            clear hz0 hz1
            rintro e5 w5 ⟨v5, rfl, ho5, hb⟩
            obtain ⟨A5, c5, rfl⟩ := Kd.R_slice ho5
            obtain ⟨-, hc5, hr5⟩ := Kd.R_reads' ho5
            have R5 := Aside0.mk hr5
            have R4 := Aside0.mk (Kd.C_below R4.out hb)
            have B5 := Aside0.mk (below_step B4.out hb)
            clear hb ho5 hr5
            by_cases hg : g = 0
            · subst hg
              by_cases hi : i = 0
              · subst hi
                have hfin := HE.out
                clear HE
                obtain ⟨t, ht⟩ : ∃ t : Nat, t = min c.length d.length := ⟨_, rfl⟩
                rw [if_pos ⟨rfl, rfl⟩, ← ht] at hfin
                obtain ⟨s, hs, hsr⟩ := Option.map_eq_some_iff.mp hfin
                have l1 : (c.take t).length = t := by rw [List.length_take]; omega
                have l2 : (d.take t).length = t := by rw [List.length_take]; omega
                have hSB : ∀ q, Calls Try.prog 32 #[.slice A4 t c4, .slice A5 t c5] (w5.drewN q) fun e w' => e = .returned (.bool s) ∧ ∃ m, w' = (w5.drewN q).drewN m := by
                  intro q
                  have hh := mailcoachlaw01_SameBytes.calls k A4 c4 (c.take t) A5 c5 (d.take t) s (w5.drewN q) (Kd.C_drewN (Kd.C_take R4.out (by omega)) _) (by omega) (Kd.C_drewN (Kd.C_take R5.out (by omega)) _) (by omega) hs
                  rw [l1, l2] at hh
                  exact hh.mono fun _ _ hd => ⟨hd.1, hd.2.out⟩
                have hx4 := cut_to (P := Try.prog) 22 5 .i64 Try.underlying22 hinf A4 c.length c4 (t : Int) (by omega) (by omega) hc4
                have hx5 := cut_to (P := Try.prog) 22 5 .i64 Try.underlying22 hinf A5 d.length c5 (t : Int) (by omega) (by omega) hc5
                simp only [Int.toNat_natCast] at hx4 hx5
                by_cases hlt : (d.length : Int) < c.length
                · obtain rfl : t = d.length := by omega
                  clear ht l1 l2
                  go_wp2_with (fail)
                  go_quiet ((go_at_call 32; exact Calls.quiet_of (hSB _)))
                  subst hsr
                  go_wp2_with (fail)
                  go_ret
                  exact ⟨rfl, pw_below_drewN B5.out _⟩
                · obtain rfl : t = c.length := by omega
                  clear ht l1 l2
                  go_wp2_with (fail)
                  go_quiet ((go_at_call 32; exact Calls.quiet_of (hSB _)))
                  subst hsr
                  go_wp2_with (fail)
                  go_ret
                  exact ⟨rfl, pw_below_drewN B5.out _⟩
              · have hi0 : (i == 0) = false := beq_eq_false_iff_ne.mpr hi
                have hi1 : (i != 0) = true := bne_iff_ne.mpr hi
                have hr : true = r := by have := HE.out; rw [if_neg (by simp [hi])] at this; exact Option.some.inj this
                subst hr
                go_wp2_with (fail)
                go_ret
                exact ⟨rfl, B5.out⟩
            · have hg0 : (g == 0) = false := beq_eq_false_iff_ne.mpr hg
              have hg1 : (g != 0) = true := bne_iff_ne.mpr hg
              have hr : true = r := by have := HE.out; rw [if_neg (by simp [hg])] at this; exact Option.some.inj this
              subst hr
              go_wp2_with (fail)
              go_ret
              exact ⟨rfl, B5.out⟩
      · have he0 : (e == 0) = true := beq_iff_eq.mpr he
        have hf0 : (f == 0) = false := beq_eq_false_iff_ne.mpr hf
        have hbf : bad = false := by have := HBAD.out; rw [if_neg (by simp [hf])] at this; exact (Option.some.inj this).symm
        subst hbf
        have h := HH.out
        rw [if_neg (by decide)] at h
        obtain ⟨⟨c, g⟩, hc, h⟩ := Option.bind_eq_some_iff.mp h
        obtain ⟨⟨d, i⟩, hd, h⟩ := Option.bind_eq_some_iff.mp h
        have HC := Aside0.mk hc
        have HD := Aside0.mk hd
        have HE := Aside0.mk h
        clear hc hd h HH
        have hz0 := Z0.out
        have hz1 := Z1.out
        go_wp2_with (fail)
        refine (varint_PutPrefix.calls first bits n c g w3 HC.out).mono ?_
        clear hz0 hz1
        rintro e4 w4 ⟨v4, rfl, ho4, hb⟩
        obtain ⟨A4, c4, rfl⟩ := Kd.R_slice ho4
        obtain ⟨-, hc4, hr4⟩ := Kd.R_reads' ho4
        have R4 := Aside0.mk hr4
        have B4 := Aside0.mk (below_step B3.out hb)
        have hz0 := pw_cell_below hb Z0.out
        have hz1 := pw_cell_below hb Z1.out
        clear hb ho4 hr4
        go_wp2_with (fail)
        refine (varint_PutPrefix.calls first bits m d i w4 HD.out).mono ?_
        clear hz0 hz1
        rintro e5 w5 ⟨v5, rfl, ho5, hb⟩
        obtain ⟨A5, c5, rfl⟩ := Kd.R_slice ho5
        obtain ⟨-, hc5, hr5⟩ := Kd.R_reads' ho5
        have R5 := Aside0.mk hr5
        have R4 := Aside0.mk (Kd.C_below R4.out hb)
        have B5 := Aside0.mk (below_step B4.out hb)
        clear hb ho5 hr5
        by_cases hg : g = 0
        · subst hg
          by_cases hi : i = 0
          · subst hi
            have hfin := HE.out
            clear HE
            obtain ⟨t, ht⟩ : ∃ t : Nat, t = min c.length d.length := ⟨_, rfl⟩
            rw [if_pos ⟨rfl, rfl⟩, ← ht] at hfin
            obtain ⟨s, hs, hsr⟩ := Option.map_eq_some_iff.mp hfin
            have l1 : (c.take t).length = t := by rw [List.length_take]; omega
            have l2 : (d.take t).length = t := by rw [List.length_take]; omega
            have hSB : ∀ q, Calls Try.prog 32 #[.slice A4 t c4, .slice A5 t c5] (w5.drewN q) fun e w' => e = .returned (.bool s) ∧ ∃ m, w' = (w5.drewN q).drewN m := by
              intro q
              have hh := mailcoachlaw01_SameBytes.calls k A4 c4 (c.take t) A5 c5 (d.take t) s (w5.drewN q) (Kd.C_drewN (Kd.C_take R4.out (by omega)) _) (by omega) (Kd.C_drewN (Kd.C_take R5.out (by omega)) _) (by omega) hs
              rw [l1, l2] at hh
              exact hh.mono fun _ _ hd => ⟨hd.1, hd.2.out⟩
            have hx4 := cut_to (P := Try.prog) 22 5 .i64 Try.underlying22 hinf A4 c.length c4 (t : Int) (by omega) (by omega) hc4
            have hx5 := cut_to (P := Try.prog) 22 5 .i64 Try.underlying22 hinf A5 d.length c5 (t : Int) (by omega) (by omega) hc5
            simp only [Int.toNat_natCast] at hx4 hx5
            by_cases hlt : (d.length : Int) < c.length
            · obtain rfl : t = d.length := by omega
              clear ht l1 l2
              go_wp2_with (fail)
              go_quiet ((go_at_call 32; exact Calls.quiet_of (hSB _)))
              subst hsr
              go_wp2_with (fail)
              go_ret
              exact ⟨rfl, pw_below_drewN B5.out _⟩
            · obtain rfl : t = c.length := by omega
              clear ht l1 l2
              go_wp2_with (fail)
              go_quiet ((go_at_call 32; exact Calls.quiet_of (hSB _)))
              subst hsr
              go_wp2_with (fail)
              go_ret
              exact ⟨rfl, pw_below_drewN B5.out _⟩
          · have hi0 : (i == 0) = false := beq_eq_false_iff_ne.mpr hi
            have hi1 : (i != 0) = true := bne_iff_ne.mpr hi
            have hr : true = r := by have := HE.out; rw [if_neg (by simp [hi])] at this; exact Option.some.inj this
            subst hr
            go_wp2_with (fail)
            go_ret
            exact ⟨rfl, B5.out⟩
        · have hg0 : (g == 0) = false := beq_eq_false_iff_ne.mpr hg
          have hg1 : (g != 0) = true := bne_iff_ne.mpr hg
          have hr : true = r := by have := HE.out; rw [if_neg (by simp [hg])] at this; exact Option.some.inj this
          subst hr
          go_wp2_with (fail)
          go_ret
          exact ⟨rfl, B5.out⟩
    · have he0 : (e == 0) = false := beq_eq_false_iff_ne.mpr he
      have hbf : bad = false := by have := HBAD.out; rw [if_neg (by simp [he])] at this; exact (Option.some.inj this).symm
      subst hbf
      have h := HH.out
      rw [if_neg (by decide)] at h
      obtain ⟨⟨c, g⟩, hc, h⟩ := Option.bind_eq_some_iff.mp h
      obtain ⟨⟨d, i⟩, hd, h⟩ := Option.bind_eq_some_iff.mp h
      have HC := Aside0.mk hc
      have HD := Aside0.mk hd
      have HE := Aside0.mk h
      clear hc hd h HH
      have hz0 := Z0.out
      have hz1 := Z1.out
      go_wp2_with (fail)
      refine (varint_PutPrefix.calls first bits n c g w3 HC.out).mono ?_
      clear hz0 hz1
      rintro e4 w4 ⟨v4, rfl, ho4, hb⟩
      obtain ⟨A4, c4, rfl⟩ := Kd.R_slice ho4
      obtain ⟨-, hc4, hr4⟩ := Kd.R_reads' ho4
      have R4 := Aside0.mk hr4
      have B4 := Aside0.mk (below_step B3.out hb)
      have hz0 := pw_cell_below hb Z0.out
      have hz1 := pw_cell_below hb Z1.out
      clear hb ho4 hr4
      go_wp2_with (fail)
      refine (varint_PutPrefix.calls first bits m d i w4 HD.out).mono ?_
      clear hz0 hz1
      rintro e5 w5 ⟨v5, rfl, ho5, hb⟩
      obtain ⟨A5, c5, rfl⟩ := Kd.R_slice ho5
      obtain ⟨-, hc5, hr5⟩ := Kd.R_reads' ho5
      have R5 := Aside0.mk hr5
      have R4 := Aside0.mk (Kd.C_below R4.out hb)
      have B5 := Aside0.mk (below_step B4.out hb)
      clear hb ho5 hr5
      by_cases hg : g = 0
      · subst hg
        by_cases hi : i = 0
        · subst hi
          have hfin := HE.out
          clear HE
          obtain ⟨t, ht⟩ : ∃ t : Nat, t = min c.length d.length := ⟨_, rfl⟩
          rw [if_pos ⟨rfl, rfl⟩, ← ht] at hfin
          obtain ⟨s, hs, hsr⟩ := Option.map_eq_some_iff.mp hfin
          have l1 : (c.take t).length = t := by rw [List.length_take]; omega
          have l2 : (d.take t).length = t := by rw [List.length_take]; omega
          have hSB : ∀ q, Calls Try.prog 32 #[.slice A4 t c4, .slice A5 t c5] (w5.drewN q) fun e w' => e = .returned (.bool s) ∧ ∃ m, w' = (w5.drewN q).drewN m := by
            intro q
            have hh := mailcoachlaw01_SameBytes.calls k A4 c4 (c.take t) A5 c5 (d.take t) s (w5.drewN q) (Kd.C_drewN (Kd.C_take R4.out (by omega)) _) (by omega) (Kd.C_drewN (Kd.C_take R5.out (by omega)) _) (by omega) hs
            rw [l1, l2] at hh
            exact hh.mono fun _ _ hd => ⟨hd.1, hd.2.out⟩
          have hx4 := cut_to (P := Try.prog) 22 5 .i64 Try.underlying22 hinf A4 c.length c4 (t : Int) (by omega) (by omega) hc4
          have hx5 := cut_to (P := Try.prog) 22 5 .i64 Try.underlying22 hinf A5 d.length c5 (t : Int) (by omega) (by omega) hc5
          simp only [Int.toNat_natCast] at hx4 hx5
          by_cases hlt : (d.length : Int) < c.length
          · obtain rfl : t = d.length := by omega
            clear ht l1 l2
            go_wp2_with (fail)
            go_quiet ((go_at_call 32; exact Calls.quiet_of (hSB _)))
            subst hsr
            go_wp2_with (fail)
            go_ret
            exact ⟨rfl, pw_below_drewN B5.out _⟩
          · obtain rfl : t = c.length := by omega
            clear ht l1 l2
            go_wp2_with (fail)
            go_quiet ((go_at_call 32; exact Calls.quiet_of (hSB _)))
            subst hsr
            go_wp2_with (fail)
            go_ret
            exact ⟨rfl, pw_below_drewN B5.out _⟩
        · have hi0 : (i == 0) = false := beq_eq_false_iff_ne.mpr hi
          have hi1 : (i != 0) = true := bne_iff_ne.mpr hi
          have hr : true = r := by have := HE.out; rw [if_neg (by simp [hi])] at this; exact Option.some.inj this
          subst hr
          go_wp2_with (fail)
          go_ret
          exact ⟨rfl, B5.out⟩
      · have hg0 : (g == 0) = false := beq_eq_false_iff_ne.mpr hg
        have hg1 : (g != 0) = true := bne_iff_ne.mpr hg
        have hr : true = r := by have := HE.out; rw [if_neg (by simp [hg])] at this; exact Option.some.inj this
        subst hr
        go_wp2_with (fail)
        go_ret
        exact ⟨rfl, B5.out⟩
end Go.Proofs.Ytmkmefdajbdceaa.PVO
