-- Written by wip/mprint.py (the kit's printer, and texts of this claim's own for what it does not take). Not trusted: Lean checks it.
import Derived.Test.YtmkmefdajbdceaaPTXx0
import Derived.Test.YtmkmefdajbdceaaPTXx1
import Derived.Test.YtmkmefdajbdceaaPTXx6
import Derived.Test.YtmkmefdajbdceaaPTXx17
import Derived.Test.YtmkmefdajbdceaaPTXx19
import Derived.Test.YtmkmefdajbdceaaPTXx21
namespace Go.Proofs.Ytmkmefdajbdceaa.PTX
open Go.RowKit Go.Proofs.YtmkmefdajbdceaaW.PrintWords Go.Proofs.YtmkmefdajbdceaaW.PrintLast Go.Proofs.YtmkmefdajbdceaaW.PrintMore
attribute [local go_sem] max2_int min2_int max_two min_two max_three min_three max_four min_four   -- for this text's walks alone
set_option linter.unusedVariables false
set_option linter.unusedSimpArgs false

/-! ### mailcoachlaw11_TextBoth: function 18, by hand -/
def mailcoachlaw11_TextBoth.Pure : Prop := (∀ k, 40 ≤ k → mailcoachlaw11_alive.f k = some true) ∧ ∀ (a0 : ByteArray) (a1 : Int), 2 ≤ a1 → a1 ≤ 8 → a0.size ≤ 17000 →
  ∃ pa pk pc r1 r3 q1 q3, varint_PutPrefix.f 0 (a1 - 1) a0.size = some (pa, 0) ∧ huff_Put.f a0 = some (pk, 0) ∧ varint_PutPrefix.f (2 ^ (a1.toNat - 1) % 256) (a1 - 1) pk.length = some (pc, 0) ∧ pa.length ≤ 100 ∧ pk.length ≤ 100000 ∧ pc.length ≤ 100 ∧
    text_Get.f a1 (pa ++ bytesOf a0) = some (r1, a0, r3, 0) ∧ text_Get.f a1 (pc ++ pk) = some (q1, a0, q3, 0)
set_option maxHeartbeats 1600000 in
set_option maxRecDepth 100000 in
theorem mailcoachlaw11_TextBoth.out (al : mailcoachlaw11_alive.f 40 = some true) (a0 : ByteArray) (a1 : Int) (w : World) (h : a1 < 2 ∨ 8 < a1 ∨ 17000 < a0.size) :
    Calls Try.prog 18 #[.string a0, .int .i64 a1] w fun e w' => e = .returned (.bool true) ∧ Below w.heap.size w w' := by
  have HAL := Aside0.mk al
  clear al
  by_cases h1 : a1 < 2
  · go_enter Try.func18, Try.ntmps18
    go_upto_region 2 with (go_at_call 40; refine (mailcoachlaw11_alive.calls 40 true _ HAL.out).mono ?_; rintro e w1 ⟨rfl, hd⟩; have HB1 := Aside0.mk hd; clear hd)
    go_wp2_with (go_at_call 40; refine (mailcoachlaw11_alive.calls 40 true _ HAL.out).mono ?_; rintro e w2 ⟨rfl, hd⟩; have HB2 := Aside0.mk (below_step HB1.out hd); clear hd)
    go_ret
    exact ⟨rfl, HB2.out⟩
  · by_cases h2 : 8 < a1
    · go_enter Try.func18, Try.ntmps18
      go_upto_region 2 with (go_at_call 40; refine (mailcoachlaw11_alive.calls 40 true _ HAL.out).mono ?_; rintro e w1 ⟨rfl, hd⟩; have HB1 := Aside0.mk hd; clear hd)
      go_wp2_with (go_at_call 40; refine (mailcoachlaw11_alive.calls 40 true _ HAL.out).mono ?_; rintro e w2 ⟨rfl, hd⟩; have HB2 := Aside0.mk (below_step HB1.out hd); clear hd)
      go_ret
      exact ⟨rfl, HB2.out⟩
    · have h3 : decide (17000 < (a0.size : Int)) = true := decide_eq_true (by omega)
      have h4 : decide (a1 < 2) = false := decide_eq_false h1
      have h5 : decide (8 < a1) = false := decide_eq_false h2
      go_enter Try.func18, Try.ntmps18
      go_upto_region 2 with (go_at_call 40; refine (mailcoachlaw11_alive.calls 40 true _ HAL.out).mono ?_; rintro e w1 ⟨rfl, hd⟩; have HB1 := Aside0.mk hd; clear hd)
      go_wp2_with (go_at_call 40; refine (mailcoachlaw11_alive.calls 40 true _ HAL.out).mono ?_; rintro e w2 ⟨rfl, hd⟩; have HB2 := Aside0.mk (below_step HB1.out hd); clear hd)
      go_ret
      exact ⟨rfl, HB2.out⟩
theorem man_own_apart {w : World} {base n size : Nat} {e : TypeId} {v u : Value} {xs : List Value} (h : w.ownsRow base e size v n xs) (hu : ∀ k, u.ownBlock = some k → k < base) : v.ownBlock = none ∨ v.ownBlock ≠ u.ownBlock := by
  rcases own_base' h with hn | ⟨b, hb, hle⟩
  · exact .inl hn
  · refine .inr (fun e => ?_)
    rw [hb] at e
    have := hu b e.symm
    omega
theorem man_own_conv {W : World} {base n size : Nat} {e t : TypeId} {v : Value} {xs : List Value} (h : W.ownsRow base e size v n xs) (s : ByteArray) : (Lib.bytesWorld W t s).ownsRow base e size v n xs := pw_own_below h (bytes_below (Below.refl _ _) (Nat.le_refl _) _ _)
theorem man_text_Get_own (a : Int) (v : Value) (xs : List Int) (base : Nat) (r1 : Int) (r2 : ByteArray) (r3 r4 : Int) (w : World) (ho : w.ownsRow base 5 1 v xs.length (nums .u8 xs)) (h : text_Get.f a xs = some (r1, r2, r3, r4)) :
    Calls Try.prog 38 #[.int .i64 a, v] w fun e w' => e = .returned (.tuple #[.int .u8 r1, .string r2, .int .i64 r3, .int .i64 r4]) ∧ Below w.heap.size w w' := by
  obtain ⟨A, c, rfl⟩ := own_slice ho
  exact text_Get.calls a A c xs r1 r2 r3 r4 w (Kd.C_of_reads (enc := Value.int .u8) (d := (0 : Int)) (h1 := fun _ => rfl) (own_reads' ho)) (own_cap ho) h
set_option maxHeartbeats 1600000 in
set_option maxRecDepth 100000 in
theorem mailcoachlaw11_TextBoth.walk (P : mailcoachlaw11_TextBoth.Pure) (a0 : ByteArray) (a1 : Int) (w : World) (w0 : a0.size ≤ 140737488351232) (w1 : (Lit.int .i64 a1).wf = true) :
    Calls Try.prog 18 #[.string a0, .int .i64 a1] w fun e w' => e = .returned (.bool true) ∧ Below w.heap.size w w' := by
  by_cases hbad : a1 < 2 ∨ 8 < a1 ∨ 17000 < a0.size
  · exact mailcoachlaw11_TextBoth.out (P.1 40 (Nat.le_refl _)) a0 a1 w hbad
  · have h4 : decide (a1 < 2) = false := decide_eq_false (by omega)
    have h5 : decide (8 < a1) = false := decide_eq_false (by omega)
    have h6 : decide (17000 < (a0.size : Int)) = false := decide_eq_false (by omega)
    have hsz : a0.size ≤ 17000 := by omega
    have h2 : 2 ≤ a1 := by omega
    have h8 : a1 ≤ 8 := by omega
    have HAL := Aside0.mk (P.1 40 (Nat.le_refl _))
    obtain ⟨pa, pk, pc, r1, r3, q1, q3, g1, g2, g3, l1, l2, l3, g4, g5⟩ := P.2 a0 a1 h2 h8 hsz
    have HA := Aside0.mk g1
    have HK := Aside0.mk g2
    have HC := Aside0.mk g3
    have HG := Aside0.mk g4
    have HH := Aside0.mk g5
    have LA := Aside0.mk l1
    have LC := Aside0.mk l3
    have kb := fun W => print_bytes (P := Try.prog) 9 22 5 Try.underlying9 Try.underlying22 Try.underlying5 a0 W
    clear hbad g1 g2 g3 g4 g5 l1 l3 P
    go_enter Try.func18, Try.ntmps18
    go_upto_region 3 with (go_at_call 40; refine (mailcoachlaw11_alive.calls 40 true _ HAL.out).mono ?_; rintro e w1 ⟨rfl, hd⟩; have HB1 := Aside0.mk hd; clear hd)
    go_upto_region 5 with (first | (go_at_call 31; refine (varint_PutPrefix.calls 0 (a1 - 1) a0.size pa 0 _ HA.out).mono ?_; rintro e w2 ⟨v2, rfl, hr2, hd⟩; have HB2 := Aside0.mk (below_step HB1.out hd); have HR2 := Aside0.mk (show w2.ownsRow w.heap.size 5 1 v2 pa.length (nums .u8 pa) from own_weaken (Kd.own_of_R hr2) HB1.out.size); clear hd hr2) | (go_at_call 34; refine (huff_Put.calls a0 pk 0 _ HK.out).mono ?_; rintro e w3 ⟨v3, rfl, hr3, hd⟩; have HB3 := Aside0.mk (below_step HB2.out hd); have HR3 := Aside0.mk (pw_own_below HR2.out hd); obtain ⟨A3, c3, rfl⟩ := Kd.R_slice hr3; have HK3 := Aside0.mk (show w3.ownsRow w2.heap.size 5 1 (.slice A3 pk.length c3) pk.length (nums .u8 pk) from Kd.own_of_R hr3); clear hd hr3))
    go_upto_region 8 with (go_at_call 31; refine (varint_PutPrefix.calls (2 ^ (a1.toNat - 1) % 256) (a1 - 1) pk.length pc 0 _ HC.out).mono ?_; rintro e w4 ⟨v4, rfl, hr4, hd⟩; have HB4 := Aside0.mk (below_step HB3.out hd); have HR4 := Aside0.mk (pw_own_below HR3.out hd); have HK4 := Aside0.mk (pw_own_below HK3.out hd); have HC4 := Aside0.mk (show w4.ownsRow w.heap.size 5 1 v4 pc.length (nums .u8 pc) from own_weaken (Kd.own_of_R hr4) HB3.out.size); have HD4 := Aside0.mk (show w4.ownsRow w3.heap.size 5 1 v4 pc.length (nums .u8 pc) from Kd.own_of_R hr4); clear hd hr4)
    have NE1 := Aside0.mk (man_own_apart HK4.out (own_lt HR2.out))
    have NE2 := Aside0.mk (man_own_apart HD4.out (own_lt HR3.out))
    go_upto_region 9 with (first | (at_builtin; refine print_append_row (w0 := w) w.heap.size rfl (.tmp 73) (.tmp 75) 22 5 .u8 1 rfl Try.underlying22 man_info_u8 (by decide) v2 pa (bytesOf a0) (some ⟨w4.heap.size, 0, none⟩) a0.size _ rfl rfl (man_own_conv HR4.out a0) (bytes_reads w4 _ a0 (by omega)) (bytes_below HB4.out HB4.out.size _ _) (bytes_below HB4.out HB4.out.size _ _).size (by have := LA.out; omega) ?_; intro v6 w6 ho6 hb6 hg6 hat6; have HO6 := Aside0.mk ho6; have HB6 := Aside0.mk hb6; have HK6 := Aside0.mk (own_other (man_own_conv HK4.out a0) hg6 NE1.out); have HC6 := Aside0.mk (own_other (man_own_conv HC4.out a0) hg6 NE2.out); clear ho6 hb6 hg6 hat6) | (go_at_call 38; refine (man_text_Get_own a1 v6 (pa ++ bytesOf a0) _ r1 a0 r3 0 _ HO6.out HG.out).mono ?_; rintro e w7 ⟨rfl, hd⟩; have HB7 := Aside0.mk (below_step HB6.out hd); have HK7 := Aside0.mk (pw_own_below HK6.out hd); have HC7 := Aside0.mk (pw_own_below HC6.out hd); clear hd))
    go_wp2_with (first | (at_builtin; refine print_append_row (w0 := w) w.heap.size rfl (.tmp 84) (.tmp 85) 22 5 .u8 1 rfl Try.underlying22 man_info_u8 (by decide) v4 pc pk A3 pk.length c3 rfl rfl HC7.out (own_reads' HK7.out) HB7.out HB7.out.size (by have := LC.out; omega) ?_; intro v8 w8 ho8 hb8 hg8 hat8; have HO8 := Aside0.mk ho8; have HB8 := Aside0.mk hb8; clear ho8 hb8 hg8 hat8) | (go_at_call 38; refine (man_text_Get_own a1 v8 (pc ++ pk) _ q1 a0 q3 0 _ HO8.out HH.out).mono ?_; rintro e w9 ⟨rfl, hd⟩; have HB9 := Aside0.mk (below_step HB8.out hd); clear hd))
    go_ret
    exact ⟨rfl, HB9.out⟩


end Go.Proofs.Ytmkmefdajbdceaa.PTX
