-- Written by wip/mprint.py (the kit's printer, and texts of this claim's own for what it does not take). Not trusted: Lean checks it.
import Derived.Test.YtmkmefdajbdceaaGreatDoorPTQx0
import Derived.Test.YtmkmefdajbdceaaGreatDoorPTQx1
import Derived.Test.YtmkmefdajbdceaaGreatDoorPTQx2
import Derived.Test.YtmkmefdajbdceaaGreatDoorPTQx8
import Derived.Test.YtmkmefdajbdceaaGreatDoorPTQx9
import Derived.Test.YtmkmefdajbdceaaGreatDoorPTQx10
import Derived.Test.YtmkmefdajbdceaaGreatDoorPTQx12
import Derived.Test.YtmkmefdajbdceaaGreatDoorPTQx13
namespace Go.Proofs.YtmkmefdajbdceaaGreatDoor.PTQ
open Go.RowKit Go.Proofs.YtmkmefdajbdceaaGreatDoorW.PrintWords Go.Proofs.YtmkmefdajbdceaaGreatDoorW.PrintLast Go.Proofs.YtmkmefdajbdceaaGreatDoorW.PrintMore
attribute [local go_sem] max2_int min2_int max_two min_two max_three min_three max_four min_four   -- for this text's walks alone
set_option linter.unusedVariables false
set_option linter.unusedSimpArgs false

/-! ### mailcoachlaw11_TextPuts: function 3, by hand -/
theorem mailcoachlaw01_Beyond.one (n : Nat) (hn : n ≤ 9223372036854775807) : mailcoachlaw01_Beyond.f 2 [(n : Int)] = some (decide (1048576 < n)) := by
  have e : wrap64 (0 + rd [(n : Int)] 0) = n := by simp only [rd, wrap64]; simp; omega
  unfold mailcoachlaw01_Beyond.f
  simp only [mailcoachlaw01_Beyond.l0]
  rw [if_pos (by simp), if_pos (by simp), e]
  by_cases h : 1048576 < n
  · rw [if_pos (by omega)]; simp [h]
  · rw [if_neg (by omega)]
    have e1 : wrap64 (0 + 1) = 1 := by unfold wrap64; omega
    rw [e1, if_neg (by simp)]
    simp [h]
theorem man_lit_C (W : World) (k : IntKind) (t : TypeId) (x : Int) : Kd.C (Kd.int k) (W.alloc (.cells #[.int k x] t)) (some ⟨W.heap.size, 0, none⟩) [x].length [x] := by
  have h := own_lit W W.heap.size t k [x] (Nat.le_refl _) (by simp)
  have hr := own_reads' h
  exact Kd.C_of_reads (enc := Value.int k) (d := (0 : Int)) (h1 := fun _ => rfl) hr
theorem mailcoachlaw01_Beyond.calls1 (W : World) (n : Nat) (hn : n ≤ 9223372036854775807) :
    Calls Tryz.prog 4 #[.slice (some ⟨W.heap.size, 0, none⟩) 1 1] (W.alloc (.cells #[.int .i64 n] 3)) fun e w' => e = .returned (.bool (decide (1048576 < n))) ∧ Drawn0 (W.alloc (.cells #[.int .i64 n] 3)) w' :=
  mailcoachlaw01_Beyond.calls 2 (some ⟨W.heap.size, 0, none⟩) 1 [(n : Int)] _ _ (man_lit_C W .i64 3 n) (Nat.le_refl _) (mailcoachlaw01_Beyond.one n hn)

theorem book_own_form {w : World} {base n size : Nat} {e : TypeId} {v : Value} {xs : List Value} (h : w.ownsRow base e size v n xs) (hn : 0 < n) : ∃ g cap, v = .slice (some ⟨g, 0, none⟩) n cap := by
  rcases h.2 with ⟨_, h0⟩ | ⟨g, cap, cur, hv, _⟩
  · omega
  · exact ⟨g, cap, hv⟩
theorem book_own_apart {w : World} {base n size : Nat} {e : TypeId} {v u : Value} {xs : List Value} (h : w.ownsRow base e size v n xs) (hu : ∀ k, u.ownBlock = some k → k < base) : v.ownBlock = none ∨ v.ownBlock ≠ u.ownBlock := by
  rcases own_base' h with hn | ⟨b, hb, hle⟩
  · exact .inl hn
  · refine .inr (fun e => ?_)
    rw [hb] at e
    have := hu b e.symm
    omega
/-- Two lists of a kind that lie apart: what Book.Apart asks. -/
theorem book_two {base g : Nat} {n : Int} {w : World} {A1 A2 : Option Addr} {c1 c2 : Nat} {l : List Int} {vb : Value} (h : BookSt base g n 2 (([] ++ [.slice A1 l.length c1, .slice none 0 0, .int .i64 (0 + 1)]) ++ [.slice A2 l.length c2, .slice none 0 0, .int .i64 (0 + 1 + 1)]) vb w)
    (o1 : w.ownsRow base 5 1 (.slice A1 l.length c1) l.length (nums .u8 l)) (o2 : w.ownsRow base 5 1 (.slice A2 l.length c2) l.length (nums .u8 l)) (hap : (Value.slice A2 l.length c2).ownBlock = none ∨ (Value.slice A2 l.length c2).ownBlock ≠ (Value.slice A1 l.length c1).ownBlock) (hl : l.length ≤ 100000000) :
    Calls Tryz.prog 9 #[.pointer (some ⟨g, 0, none⟩)] w fun e w' => e = .returned (.bool true) ∧ Below base w w' := by
  obtain ⟨gb, cap, rfl⟩ := book_own_form h.own (by omega)
  refine book_Apart base g gb cap 2 n (fun j => if j = 0 then A1 else A2) (fun j => if j = 0 then c1 else c2) (fun _ => l) w (by omega) (fun _ _ => hl) ?_ ?_ ?_
  · have e : (([] ++ [Value.slice A1 l.length c1, .slice none 0 0, .int .i64 (0 + 1)]) ++ [.slice A2 l.length c2, .slice none 0 0, .int .i64 (0 + 1 + 1)] : List Value) = book_row (fun j => .slice (if j = 0 then A1 else A2) l.length (if j = 0 then c1 else c2)) (fun _ => .slice none 0 0) 2 := by
      simp [book_row, List.range_succ]
    rw [e] at h
    exact h
  · intro j hj
    by_cases h0 : j = 0
    · subst h0; simpa using o1
    · simpa [h0] using o2
  · intro j k hj hk hne
    rcases (show j = 0 ∧ k = 1 ∨ j = 1 ∧ k = 0 by omega) with ⟨rfl, rfl⟩ | ⟨rfl, rfl⟩
    · rcases hap with h | h
      · cases h1 : (Value.slice A1 l.length c1).ownBlock with
        | none => exact .inl (by simpa using h1)
        | some r => exact .inr (by simp only [if_true, Nat.one_ne_zero, if_false]; rw [h1, h]; simp)
      · exact .inr (by simpa using fun e => h e.symm)
    · simpa using hap

theorem mailcoachlaw11_TextPuts.beyond (b0 b1 : Int) (a0 : ByteArray) (w : World) (hs : 1048576 < a0.size) (hm : a0.size ≤ 9223372036854775807) :
    Calls Tryz.prog 3 #[.int .u8 b0, .int .i64 b1, .string a0] w fun e w' => e = .returned (.bool true) ∧ Below w.heap.size w w' := by
  have hd : decide (1048576 < a0.size) = true := by simp [hs]
  go_enter Tryz.func3, Tryz.ntmps3
  go_wp2_with (go_at_call 4; refine (mailcoachlaw01_Beyond.calls1 _ _ (by omega)).mono ?_; rintro e w' ⟨rfl, HD1⟩; rw [hd])
  go_ret
  exact ⟨rfl, below_step (below_alloc (Below.refl _ _) _) HD1.below⟩
set_option maxHeartbeats 3200000 in
set_option maxRecDepth 100000 in
theorem mailcoachlaw11_TextPuts.walk (k2 : Nat) (b0 b1 : Int) (a0 : ByteArray) (l : List Int) (e0 : Int) (wi : World) (hs : a0.size ≤ 1048576) (h1 : text_Put.f b0 b1 a0 = some (l, e0)) (h2 : ∀ W : World, Calls Tryz.prog 6 #[.int .u8 b0, .int .i64 b1, .string a0] W fun e w' => ∃ v, e = .returned (.tuple #[v, .int .i64 e0]) ∧ Kd.R (Kd.int .u8) 5 w' W.heap.size (fun _ => True) v l ∧ Below W.heap.size W w') (h3 : mailcoachlaw01_SameBytes.f k2 l l = some true) (hl : l.length ≤ 100000000) :
    Calls Tryz.prog 3 #[.int .u8 b0, .int .i64 b1, .string a0] wi fun e w' => e = .returned (.bool true) ∧ Below wi.heap.size wi w' := by
  have hd : decide (1048576 < a0.size) = false := by simp; omega
  have H1 := Aside0.mk h1
  have H2 := Aside0.mk h2
  have H3 := Aside0.mk h3
  have HL := Aside0.mk hl
  have hee : (e0 != e0) = false := by simp
  clear h1 h2 h3 hl
  go_enter Tryz.func3, Tryz.ntmps3
  go_upto_region 3 with (go_at_call 4; refine (mailcoachlaw01_Beyond.calls1 _ _ (by omega)).mono ?_; rintro e w ⟨rfl, HD1⟩; rw [hd]; have HBI := Aside0.mk (below_step (below_alloc (Below.refl wi.heap.size wi) _) HD1.below); clear HD1)
  go_upto_region 4 with (go_at_call 5; refine (text_Put.calls b0 b1 a0 l e0 _ H1.out).mono ?_; rintro e w1 ⟨v1, rfl, hr, hd⟩; have HB1 := Aside0.mk hd; obtain ⟨A1, c1, rfl⟩ := Kd.R_slice hr; have HO1 := Aside0.mk (show w1.ownsRow w.heap.size 5 1 (.slice A1 l.length c1) l.length (nums .u8 l) from Kd.own_of_R hr); clear hr hd)
  go_upto_region 5 with (go_at_call 5; refine (text_Put.calls b0 b1 a0 l e0 _ H1.out).mono ?_; rintro e w2 ⟨v2, rfl, hr, hd⟩; have HB2 := Aside0.mk (below_step HB1.out hd); obtain ⟨A2, c2, rfl⟩ := Kd.R_slice hr; have HO2 := Aside0.mk (show w2.ownsRow w1.heap.size 5 1 (.slice A2 l.length c2) l.length (nums .u8 l) from Kd.own_of_R hr); have HAP := Aside0.mk (book_own_apart HO2.out (own_lt HO1.out)); have HO1 := Aside0.mk (pw_own_below HO1.out hd); have HO2 := Aside0.mk (own_weaken HO2.out HB1.out.size); clear hr hd)
  go_upto_region 6 with (go_at_call 6; refine (H2.out _).mono ?_; rintro e w3 ⟨v3, rfl, hr, hd⟩; have HB3 := Aside0.mk (below_step HB2.out hd); obtain ⟨A3, c3, rfl⟩ := Kd.R_slice hr; have HO3 := Aside0.mk (show w3.ownsRow w2.heap.size 5 1 (.slice A3 l.length c3) l.length (nums .u8 l) from Kd.own_of_R hr); have HO1 := Aside0.mk (pw_own_below HO1.out hd); have HO2 := Aside0.mk (pw_own_below HO2.out hd); clear hr hd)
  have HC1 := Aside0.mk (Kd.C_of_reads (enc := Value.int .u8) (d := (0 : Int)) (h1 := fun _ => rfl) (own_reads' HO1.out))
  have HC2 := Aside0.mk (Kd.C_of_reads (enc := Value.int .u8) (d := (0 : Int)) (h1 := fun _ => rfl) (own_reads' HO2.out))
  have HC3 := Aside0.mk (Kd.C_of_reads (enc := Value.int .u8) (d := (0 : Int)) (h1 := fun _ => rfl) (own_reads' HO3.out))
  go_upto_region 8 with (first | (go_at_call_of 7 A1; refine (mailcoachlaw01_SameBytes.calls k2 A1 c1 l A3 c3 l true _ (by exact HC1.out) (own_cap HO1.out) (by exact HC3.out) (own_cap HO3.out) H3.out).mono ?_; rintro e w4 ⟨rfl, hd⟩; obtain ⟨m4, rfl⟩ := hd.out) | (go_at_call_of 7 A2; refine (mailcoachlaw01_SameBytes.calls k2 A2 c2 l A3 c3 l true _ (by exact HC2.out) (own_cap HO2.out) (by exact HC3.out) (own_cap HO3.out) H3.out).mono ?_; rintro e w5 ⟨rfl, hd⟩; obtain ⟨m5, rfl⟩ := hd.out))
  obtain ⟨wz, hwz⟩ : ∃ x, x = w3.drewN (m4 + m5) := ⟨_, rfl⟩
  have HZ := Aside0.mk (show Below w3.heap.size w3 wz from by rw [hwz]; exact book_below_n (Below.refl _ _) _)
  rw [← hwz]
  clear hwz
  have HZB := Aside0.mk (below_step HB3.out HZ.out)
  have BA := Aside0.mk (show Below w3.heap.size w3 (wz.alloc (.cells (book_cells 0 (.slice none 0 0)) 41)) from HZ.out.alloc HZ.out.size _)
  have BS := Aside0.mk (show BookSt w.heap.size wz.heap.size 0 0 [] (.slice none 0 0) (wz.alloc (.cells (book_cells 0 (.slice none 0 0)) 41)) from ⟨HZB.out.size, heap_alloc_new _ _, World.ownsRow_nil _ _ _ _⟩)
  go_upto_region 10 with (go_at_call 8; refine (book_Bytes w.heap.size wz.heap.size 0 0 [] (.slice none 0 0) _ A1 l.length c1 (by exact BS.out) (by omega) (by omega)).mono ?_; rintro e w6 ⟨rfl, vb1, hs, hb, hk⟩; have HS6 := Aside0.mk hs; have HB6 := Aside0.mk ((below_then HB3.out HB3.out.size BA.out).trans hb); have HO1 := Aside0.mk (hk.own (pw_own_below HO1.out BA.out)); have HO2 := Aside0.mk (hk.own (pw_own_below HO2.out BA.out)); clear hs hb hk)
  go_upto_region 11 with (go_at_call 8; refine (book_Bytes w.heap.size wz.heap.size (0 + 1) (0 + 1) _ vb1 _ A2 l.length c2 (by exact HS6.out) (by omega) (by omega)).mono ?_; rintro e w7 ⟨rfl, vb2, hs, hb, hk⟩; have HS7 := Aside0.mk hs; have HB7 := Aside0.mk (HB6.out.trans hb); have HO1 := Aside0.mk (hk.own HO1.out); have HO2 := Aside0.mk (hk.own HO2.out); clear hs hb hk)
  go_wp2_with (go_at_call 9; refine (book_two HS7.out HO1.out HO2.out HAP.out HL.out).mono ?_; rintro e w8 ⟨rfl, hb⟩; have HB8 := Aside0.mk (HB7.out.trans hb); clear hb)
  go_ret
  exact ⟨rfl, below_step HBI.out HB8.out⟩


end Go.Proofs.YtmkmefdajbdceaaGreatDoor.PTQ
