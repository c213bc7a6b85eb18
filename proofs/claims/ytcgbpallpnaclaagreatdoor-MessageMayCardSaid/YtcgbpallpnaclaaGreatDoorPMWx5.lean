import Derived.Test.YtcgbpallpnaclaaGreatDoorPMWx0
import Derived.Test.YtcgbpallpnaclaaGreatDoorPMWx4
namespace Go.Proofs.YtcgbpallpnaclaaGreatDoor.PMW
open Go.RowKit Go.Proofs.YtcgbpallpnaclaaGreatDoorW.PrintWords Go.Proofs.YtcgbpallpnaclaaGreatDoorW.PrintLast Go.Proofs.YtcgbpallpnaclaaGreatDoorW.PrintMore
attribute [local go_sem] max2_int min2_int max_two min_two max_three min_three max_four min_four   -- for this text's walks alone
set_option linter.unusedVariables false
set_option linter.unusedSimpArgs false
/-! ### utf8_ValidRune: function 176, by hand -/
/-! ### bytealg_Cutover: function 177, by hand -/
/-! ### strings_IndexRune: function 163, by hand -/
/-! ### strings_shouldUseASCIISet: function 164, by hand -/
/-! ### strings_asciiSet_contains: function 165, by hand -/
/-! ### strings_IndexAny: function 147, by hand -/
/-! ### strings_ContainsAny: function 136, by hand -/
/-! ### strings_trimLeftByte: function 148, by hand -/
/-! ### strings_trimRightByte: function 149, by hand -/
/-! ### utf8_DecodeRuneInString: function 166, by hand -/
/-! ### strings_ContainsRune: function 167, by hand -/
/-! ### strings_trimLeftUnicode: function 153, by hand -/
/-! ### utf8_RuneStart: function 180, by hand -/
/-! ### utf8_DecodeLastRuneInString: function 168, by hand -/
/-! ### strings_trimRightUnicode: function 154, by hand -/
/-! ### strings_Trim: function 137, by hand -/
/-! ### message_value: function 92 -/
def message_value.f (a0 : ByteArray) (a1 : ByteArray) : Option (Bool) := if a0.toList = ([116, 101] : List UInt8) then (if a1.toList = ([116, 114, 97, 105, 108, 101, 114, 115] : List UInt8) then ((strings_ContainsAny.f a1 (⟨#[0, 10, 13]⟩ : ByteArray)).bind fun t109 => (if t109 = true then (some false) else ((strings_Trim.f a1 (⟨#[9, 32]⟩ : ByteArray)).bind fun t110 => (some (t110.toList == a1.toList))))) else (some false)) else ((strings_ContainsAny.f a1 (⟨#[0, 10, 13]⟩ : ByteArray)).bind fun t111 => (if t111 = true then (some false) else ((strings_Trim.f a1 (⟨#[9, 32]⟩ : ByteArray)).bind fun t112 => (some (t112.toList == a1.toList)))))
set_option maxHeartbeats 8000000 in
set_option maxRecDepth 100000 in
theorem message_value.calls (a0 : ByteArray) (a1 : ByteArray) (r : Bool) (w : World) (h : message_value.f a0 a1 = some r) :
    Calls Tryz.prog 92 #[.string a0, .string a1] w fun e w' => e = .returned (.bool r) ∧ Below w.heap.size w w' := by
  have HB := Aside0.mk (Below.refl w.heap.size w)
  have H : (if a0.toList = ([116, 101] : List UInt8) then (if a1.toList = ([116, 114, 97, 105, 108, 101, 114, 115] : List UInt8) then ((strings_ContainsAny.f a1 (⟨#[0, 10, 13]⟩ : ByteArray)).bind fun t109 => (if t109 = true then (some false) else ((strings_Trim.f a1 (⟨#[9, 32]⟩ : ByteArray)).bind fun t110 => (some (t110.toList == a1.toList))))) else (some false)) else ((strings_ContainsAny.f a1 (⟨#[0, 10, 13]⟩ : ByteArray)).bind fun t111 => (if t111 = true then (some false) else ((strings_Trim.f a1 (⟨#[9, 32]⟩ : ByteArray)).bind fun t112 => (some (t112.toList == a1.toList)))))) = some r := h
  clear h
  by_cases c3 : a0.toList = ([116, 101] : List UInt8)
  · rw [if_pos c3] at H
    have c3b0 : (a0.toList == ([116, 101] : List UInt8)) = true := beq_iff_eq.mpr c3
    have c3b1 : (a0.toList != ([116, 101] : List UInt8)) = false := bne_eq_false_iff_eq.mpr c3
    clear c3
    by_cases c4 : a1.toList = ([116, 114, 97, 105, 108, 101, 114, 115] : List UInt8)
    · rw [if_pos c4] at H
      have c4b0 : (a1.toList == ([116, 114, 97, 105, 108, 101, 114, 115] : List UInt8)) = true := beq_iff_eq.mpr c4
      have c4b1 : (a1.toList != ([116, 114, 97, 105, 108, 101, 114, 115] : List UInt8)) = false := bne_eq_false_iff_eq.mpr c4
      clear c4
      replace H := Option.bind_eq_some_iff.mp H
      obtain ⟨t109, A50, H⟩ := H
      replace H : (if t109 = true then (some false) else ((strings_Trim.f a1 (⟨#[9, 32]⟩ : ByteArray)).bind fun t110 => (some (t110.toList == a1.toList)))) = some r := H
      have A5 := Aside0.mk A50
      clear A50
      by_cases c6 : t109 = true
      · subst c6
        have H1 : (some false) = some r := by rw [if_pos rfl] at H; exact H
        clear H
        have H := H1
        clear H1
        obtain rfl := Option.some.inj H
        go_enter Tryz.func92, Tryz.ntmps92
        go_wp2_with (first | (go_at_call 136; (with_reducible refine (strings_ContainsAny.calls a1 (⟨#[0, 10, 13]⟩ : ByteArray) true _ A5.out).mono ?_); rintro e w7 ⟨rfl, hb⟩; have n0_ := Aside0.mk (below_step (by repeat (first | (with_reducible first | exact HB.out | apply below_alloc | apply pw_below_drewN | apply below_drew1) | exact HB.out)) hb); clear HB; have HB := n0_; clear n0_; (try clear hb); (try clear hb2); (try clear hk); (try clear hi)))
        go_ret
        exact ⟨by first | rfl | (simp [errW_none, errW_some] <;> rfl) | (simp [*, errW_none, errW_some] <;> rfl), by repeat (first | (with_reducible first | exact HB.out | apply below_alloc | apply pw_below_drewN | apply below_drew1) | exact HB.out)⟩
      · replace c6 := Bool.eq_false_iff.mpr c6
        subst c6
        have H1 : ((strings_Trim.f a1 (⟨#[9, 32]⟩ : ByteArray)).bind fun t110 => (some (t110.toList == a1.toList))) = some r := by rw [if_neg (show ¬ (false = true) by decide)] at H; exact H
        clear H
        have H := H1
        clear H1
        replace H := Option.bind_eq_some_iff.mp H
        obtain ⟨t110, A80, H⟩ := H
        replace H : (some (t110.toList == a1.toList)) = some r := H
        have A8 := Aside0.mk A80
        clear A80
        obtain rfl := Option.some.inj H
        go_enter Tryz.func92, Tryz.ntmps92
        go_wp2_with (first | (go_at_call 136; (with_reducible refine (strings_ContainsAny.calls a1 (⟨#[0, 10, 13]⟩ : ByteArray) false _ A5.out).mono ?_); rintro e w9 ⟨rfl, hb⟩; have n0_ := Aside0.mk (below_step (by repeat (first | (with_reducible first | exact HB.out | apply below_alloc | apply pw_below_drewN | apply below_drew1) | exact HB.out)) hb); clear HB; have HB := n0_; clear n0_; (try clear hb); (try clear hb2); (try clear hk); (try clear hi)) | ((with_reducible refine gate_callee (f := 137) rfl ?_); refine goesL_ (some 16) rfl rfl Tryz.func137 (by kernel_rfl) rfl #[.string a1, .string (⟨#[9, 32]⟩ : ByteArray)] rfl (by (try simp only [List.map_toArray, List.map_cons, List.map_nil]); first | done | rfl | (simp only [List.length_drop, List.length_take]; rfl)) ?_; (with_reducible refine (strings_Trim.calls a1 (⟨#[9, 32]⟩ : ByteArray) t110 _ A8.out).mono ?_); rintro e w10 ⟨rfl, hb⟩; refine ⟨_, rfl, ?_⟩; have n0_ := Aside0.mk (below_step (by repeat (first | (with_reducible first | exact HB.out | apply below_alloc | apply pw_below_drewN | apply below_drew1) | exact HB.out)) hb); clear HB; have HB := n0_; clear n0_; (try clear hb); (try clear hb2); (try clear hk); (try clear hi)))
        go_ret
        exact ⟨by first | rfl | (simp [errW_none, errW_some] <;> rfl) | (simp [*, errW_none, errW_some] <;> rfl), by repeat (first | (with_reducible first | exact HB.out | apply below_alloc | apply pw_below_drewN | apply below_drew1) | exact HB.out)⟩
    · rw [if_neg c4] at H
      have c4b0 : (a1.toList == ([116, 114, 97, 105, 108, 101, 114, 115] : List UInt8)) = false := beq_eq_false_iff_ne.mpr c4
      have c4b1 : (a1.toList != ([116, 114, 97, 105, 108, 101, 114, 115] : List UInt8)) = true := bne_iff_ne.mpr c4
      obtain rfl := Option.some.inj H
      go_enter Tryz.func92, Tryz.ntmps92
      go_wp2
      go_ret
      exact ⟨by first | rfl | (simp [errW_none, errW_some] <;> rfl) | (simp [*, errW_none, errW_some] <;> rfl), by repeat (first | (with_reducible first | exact HB.out | apply below_alloc | apply pw_below_drewN | apply below_drew1) | exact HB.out)⟩
  · rw [if_neg c3] at H
    have c3b0 : (a0.toList == ([116, 101] : List UInt8)) = false := beq_eq_false_iff_ne.mpr c3
    have c3b1 : (a0.toList != ([116, 101] : List UInt8)) = true := bne_iff_ne.mpr c3
    replace H := Option.bind_eq_some_iff.mp H
    obtain ⟨t111, A110, H⟩ := H
    replace H : (if t111 = true then (some false) else ((strings_Trim.f a1 (⟨#[9, 32]⟩ : ByteArray)).bind fun t112 => (some (t112.toList == a1.toList)))) = some r := H
    have A11 := Aside0.mk A110
    clear A110
    by_cases c12 : t111 = true
    · subst c12
      have H1 : (some false) = some r := by rw [if_pos rfl] at H; exact H
      clear H
      have H := H1
      clear H1
      obtain rfl := Option.some.inj H
      go_enter Tryz.func92, Tryz.ntmps92
      go_wp2_with (first | (go_at_call 136; (with_reducible refine (strings_ContainsAny.calls a1 (⟨#[0, 10, 13]⟩ : ByteArray) true _ A11.out).mono ?_); rintro e w13 ⟨rfl, hb⟩; have n0_ := Aside0.mk (below_step (by repeat (first | (with_reducible first | exact HB.out | apply below_alloc | apply pw_below_drewN | apply below_drew1) | exact HB.out)) hb); clear HB; have HB := n0_; clear n0_; (try clear hb); (try clear hb2); (try clear hk); (try clear hi)))
      go_ret
      exact ⟨by first | rfl | (simp [errW_none, errW_some] <;> rfl) | (simp [*, errW_none, errW_some] <;> rfl), by repeat (first | (with_reducible first | exact HB.out | apply below_alloc | apply pw_below_drewN | apply below_drew1) | exact HB.out)⟩
    · replace c12 := Bool.eq_false_iff.mpr c12
      subst c12
      have H1 : ((strings_Trim.f a1 (⟨#[9, 32]⟩ : ByteArray)).bind fun t112 => (some (t112.toList == a1.toList))) = some r := by rw [if_neg (show ¬ (false = true) by decide)] at H; exact H
      clear H
      have H := H1
      clear H1
      replace H := Option.bind_eq_some_iff.mp H
      obtain ⟨t112, A140, H⟩ := H
      replace H : (some (t112.toList == a1.toList)) = some r := H
      have A14 := Aside0.mk A140
      clear A140
      obtain rfl := Option.some.inj H
      go_enter Tryz.func92, Tryz.ntmps92
      go_wp2_with (first | (go_at_call 136; (with_reducible refine (strings_ContainsAny.calls a1 (⟨#[0, 10, 13]⟩ : ByteArray) false _ A11.out).mono ?_); rintro e w15 ⟨rfl, hb⟩; have n0_ := Aside0.mk (below_step (by repeat (first | (with_reducible first | exact HB.out | apply below_alloc | apply pw_below_drewN | apply below_drew1) | exact HB.out)) hb); clear HB; have HB := n0_; clear n0_; (try clear hb); (try clear hb2); (try clear hk); (try clear hi)) | ((with_reducible refine gate_callee (f := 137) rfl ?_); refine goesL_ (some 16) rfl rfl Tryz.func137 (by kernel_rfl) rfl #[.string a1, .string (⟨#[9, 32]⟩ : ByteArray)] rfl (by (try simp only [List.map_toArray, List.map_cons, List.map_nil]); first | done | rfl | (simp only [List.length_drop, List.length_take]; rfl)) ?_; (with_reducible refine (strings_Trim.calls a1 (⟨#[9, 32]⟩ : ByteArray) t112 _ A14.out).mono ?_); rintro e w16 ⟨rfl, hb⟩; refine ⟨_, rfl, ?_⟩; have n0_ := Aside0.mk (below_step (by repeat (first | (with_reducible first | exact HB.out | apply below_alloc | apply pw_below_drewN | apply below_drew1) | exact HB.out)) hb); clear HB; have HB := n0_; clear n0_; (try clear hb); (try clear hb2); (try clear hk); (try clear hi)))
      go_ret
      exact ⟨by first | rfl | (simp [errW_none, errW_some] <;> rfl) | (simp [*, errW_none, errW_some] <;> rfl), by repeat (first | (with_reducible first | exact HB.out | apply below_alloc | apply pw_below_drewN | apply below_drew1) | exact HB.out)⟩
/-! ### strconv_lower: function 169, by hand -/
/-! ### strconv_underscoreOK: function 170, by hand -/
/-! ### strconv_small: function 158, by hand -/
/-! ### strconv_log10Pow2: function 171, by hand -/
/-! ### bits_Len64: function 172, by hand -/
/-! ### strconv_bool2_int: function 173, by hand -/
/-! ### strconv_numDigits: function 159, by hand -/
/-! ### strconv_formatBase10: function 160, by hand -/
/-! ### strconv_isPowerOfTwo: function 174, by hand -/
/-! ### bits_TrailingZeros32: function 181, by hand -/
/-! ### bits_TrailingZeros64: function 182, by hand -/
/-! ### bits_TrailingZeros: function 175, by hand -/
/-! ### strconv_formatBits: function 161, by hand -/
/-! ### strconv_FormatInt: function 143, by hand -/
/-! ### strconv_Itoa_99: function 99, by hand -/
/-! ### strconv_Itoa_30: function 30, by hand -/
/-! ### strconv_Atoi_29: function 29, by hand -/
end Go.Proofs.YtcgbpallpnaclaaGreatDoor.PMW
