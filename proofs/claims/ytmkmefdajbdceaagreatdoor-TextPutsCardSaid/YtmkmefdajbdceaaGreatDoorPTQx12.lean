-- Written by wip/mprint.py (the kit's printer, and texts of this claim's own for what it does not take). Not trusted: Lean checks it.
import Derived.Test.YtmkmefdajbdceaaGreatDoorPTQx0
import Derived.Test.YtmkmefdajbdceaaGreatDoorPTQx9
import Derived.Test.YtmkmefdajbdceaaGreatDoorPTQx10
import Derived.Test.YtmkmefdajbdceaaGreatDoorPTQx11
namespace Go.Proofs.YtmkmefdajbdceaaGreatDoor.PTQ
open Go.RowKit Go.Proofs.YtmkmefdajbdceaaGreatDoorW.PrintWords Go.Proofs.YtmkmefdajbdceaaGreatDoorW.PrintLast Go.Proofs.YtmkmefdajbdceaaGreatDoorW.PrintMore
attribute [local go_sem] max2_int min2_int max_two min_two max_three min_three max_four min_four   -- for this text's walks alone
set_option linter.unusedVariables false
set_option linter.unusedSimpArgs false

/-! ### mailcoachlaw01_Book_growNumber: function 33, by hand -/

/-! ### mailcoachlaw01_Book_growInt: function 34, by hand -/

/-! ### mailcoachlaw01_Book_growText: function 35, by hand -/

/-! ### mailcoachlaw01_Book_growBlob: function 36, by hand -/

/-! ### mailcoachlaw01_Book_growRange: function 37, by hand -/

/-! ### mailcoachlaw01_Book_growFrame: function 38, by hand -/

/-! ### mailcoachlaw01_Book_growField: function 39, by hand -/

/-! ### mailcoachlaw01_Book_growMessage: function 40, by hand -/

/-! ### mailcoachlaw01_Book_growRule: function 41, by hand -/

/-! ### mailcoachlaw01_Book_growEvent: function 42, by hand -/

/-! ### mailcoachlaw01_Book_growReply: function 43, by hand -/

/-! ### mailcoachlaw01_isByte: function 75 -/
def mailcoachlaw01_isByte.f (a0 : Int) (a1 : Int) : Option (Bool) := some (a0 == ((wrap64 (1 + (Int.tmod a1 250))) % 256))
set_option maxHeartbeats 8000000 in
set_option maxRecDepth 100000 in
theorem mailcoachlaw01_isByte.calls (a0 : Int) (a1 : Int) (r : Bool) (w : World) (h : mailcoachlaw01_isByte.f a0 a1 = some r) :
    Calls Tryz.prog 75 #[.int .u8 a0, .int .i64 a1] w fun e w' => e = .returned (.bool r) ∧ Drawn0 w w' := by
  have H : (some (a0 == ((wrap64 (1 + (Int.tmod a1 250))) % 256))) = some r := h
  clear h
  obtain rfl := Option.some.inj H
  go_enter Tryz.func75, Tryz.ntmps75
  go_wp2
  go_ret
  exact ⟨by first | rfl | (simp; done) | (simp [*]; done), by repeat (first | exact Drawn0.refl _ | apply Drawn0.step)⟩

/-! ### mailcoachlaw01_Book_lookByte: function 44, by hand -/
theorem BookGrow.step {base g gb cap m : Nat} {n : Int} {A : Nat → Option Addr} {C N : Nat → Nat} {w0 : World} {A2 : Nat → Option Addr} {C2 : Nat → Nat} {k : Nat} {w w' : World} (h : BookGrow base g gb cap m n A C N w0 A2 C2 k w) (hb : Below w.heap.size w w') : BookGrow base g gb cap m n A C N w0 A2 C2 k w' :=
  ⟨h.st.below hb, fun j h1 h2 => pw_own_below (h.lo j h1 h2) hb, fun j hj => (h.rd j hj).below hb, fun j hj => pw_own_below (h.lg j hj) hb, h.ap, below_then h.below (by have := book_lt h.st.blk; have := h.st.base_le; omega) hb⟩
theorem BookGrow.from {base g gb cap m : Nat} {n : Int} {A : Nat → Option Addr} {C N : Nat → Nat} {w0 : World} {A2 : Nat → Option Addr} {C2 : Nat → Nat} {k : Nat} {w : World} (h : BookGrow base g gb cap m n A C N w0 A2 C2 k w) : BookGrow base g gb cap m n A C N w A2 C2 k w := ⟨h.st, h.lo, h.rd, h.lg, h.ap, Below.refl _ _⟩
theorem book_is_f (j : Nat) (hj : j ≤ 10) : mailcoachlaw01_isByte.f (book_mark j) ((j : Int) + 1) = some true := by
  have h := book_mark_f j hj
  unfold mailcoachlaw01_markByte.f at h
  unfold mailcoachlaw01_isByte.f
  rw [Option.some.inj h]
  simp
theorem book_below_n {b : Nat} {w w' : World} (h : Below b w w') (i : Nat) : Below b w (w'.drewN i) := ⟨h.os, h.tape, h.output, h.size, h.block⟩
set_option maxHeartbeats 3200000 in
set_option maxRecDepth 100000 in
theorem book_lookByte (base g gb cap m : Nat) (n : Int) (A : Nat → Option Addr) (C N : Nat → Nat) (w : World) (hm : m ≤ 10) (hN : ∀ j, j < m → N j ≤ 100000000) (A2 : Nat → Option Addr) (C2 : Nat → Nat)
    (h : BookGrow base g gb cap m n A C N w A2 C2 m w) :
    Calls Tryz.prog 44 #[.pointer (some ⟨g, 0, none⟩)] w fun e w' => e = .returned (.bool true) ∧ BookGrow base g gb cap m n A C N w A2 C2 m w' := by
  have H := Aside0.mk h
  have HN0 := Aside0.mk hN
  clear h hN
  go_enter Tryz.func44, Tryz.ntmps44
  go_wp2
  go_loopw [3] (fun v3 wr => ∃ k : Nat, k ≤ m ∧ v3 = .int .i64 k ∧ Aside0 (BookGrow base g gb cap m n A C N w A2 C2 m wr)) (fun v3 _ => m - (intOf v3).toNat)
  case atStart => exact ⟨0, by omega, rfl, H⟩
  case round =>
    obtain ⟨k, hk, rfl, HS⟩ := hrel
    obtain ⟨wo, hwo⟩ : ∃ x, x = wr := ⟨_, rfl⟩
    subst hwo
    have h1 := HS.out.st.cell 1 (.slice (some ⟨gb, 0, none⟩) m cap) rfl
    by_cases hk2 : k < m
    · obtain ⟨x0, x1, x2⟩ := HS.out.st.row_at k hk2
      simp only [hk2, if_true] at x1
      have HL := Aside0.mk (BookRd.of_own (HS.out.lg k hk2))
      have HR := Aside0.mk (HS.out.rd k hk2)
      have HIB := Aside0.mk (book_is_f k (by omega))
      have hNk2 := HN0.out k hk2
      obtain ⟨Ak, hAk⟩ : ∃ a, A k = a := ⟨_, rfl⟩
      obtain ⟨Ck, hCk⟩ : ∃ a, C k = a := ⟨_, rfl⟩
      obtain ⟨Nk, hNk⟩ : ∃ a, N k = a := ⟨_, rfl⟩
      obtain ⟨Al, hAl⟩ : ∃ a, A2 k = a := ⟨_, rfl⟩
      obtain ⟨Cl, hCl⟩ : ∃ a, C2 k = a := ⟨_, rfl⟩
      rw [hNk, hAl] at HL
      rw [hAk, hNk] at HR
      rw [hAk, hCk, hNk] at x0
      rw [hAl, hCl, hNk] at x1
      rw [hNk] at hNk2
      clear hAk hCk hNk hAl hCl
      obtain ⟨gl, rfl, _⟩ := HL.out.at 0 (by omega)
      have hSB : ∀ W : World, Calls Tryz.prog 75 #[.int .u8 (book_mark k), .int .i64 ((k : Int) + 1)] W fun e w' => e = .returned (.bool true) ∧ ∃ m, w' = W.drewN m := fun W => (mailcoachlaw01_isByte.calls (book_mark k) ((k : Int) + 1) true W HIB.out).mono fun e w' ⟨h1, h2⟩ => ⟨h1, h2.out⟩
      have hne : (((Nk + 40 : Nat) : Int) != (Nk : Int) + 40) = false := by simp
      go_wp2
      go_loopw [5] (fun v5 wi => ∃ q : Nat, q ≤ Nk + 40 ∧ v5 = .int .i64 q ∧ Aside0 (Below wo.heap.size wo wi) ∧ wi.heap[wo.heap.size]? = some (.cells #[.slice Ak Nk Ck, .slice (some ⟨gl, 0, none⟩) (Nk + 40) Cl, .int .i64 ((k : Int) + 1)] 67 (0, 0))) (fun v5 _ => Nk + 40 - (intOf v5).toNat)
      case atStart =>
        exact ⟨0, by omega, rfl, ⟨(Below.refl _ _).alloc (Nat.le_refl _) _⟩, heap_alloc_new wo _⟩
      case round =>
        obtain ⟨q, hq, rfl, HB, b0⟩ := hrel
        clear x0 x1 x2
        have y0 : wr.cell? ⟨wo.heap.size, 0, none⟩ = some (.slice Ak Nk Ck) := by simp only [World.cell?, b0]; rfl
        have y1 : wr.cell? ⟨wo.heap.size, 1, none⟩ = some (.slice (some ⟨gl, 0, none⟩) (Nk + 40) Cl) := by simp only [World.cell?, b0]; rfl
        have y2 : wr.cell? ⟨wo.heap.size, 2, none⟩ = some (.int .i64 ((k : Int) + 1)) := by simp only [World.cell?, b0]; rfl
        have HB0 := Aside0.mk b0
        clear b0
        by_cases hq2 : q < Nk + 40
        · obtain ⟨gl2, e2, c1⟩ := (HL.out.below HB.out).at q hq2
          cases e2
          by_cases hq3 : q < Nk
          · obtain ⟨gk, rfl, c2⟩ := (HR.out.below HB.out).at q hq3
            have hg : decide ((q : Int) < (Nk : Int)) = true := decide_eq_true (by omega)
            have hg2 : decide ((q : Int) < (Nk : Int) + 40) = true := decide_eq_true (by omega)
            go_wp2
            go_quiet ((go_at_call 75; exact Calls.quiet_of (hSB _)))
            go_wp2
            go_roundw
            case rel => exact ⟨q + 1, by omega, by go_num, ⟨book_below_n HB.out _⟩, HB0.out⟩
            case measure => simp [intOf]; omega
          · have hg : decide ((q : Int) < (Nk : Int)) = false := decide_eq_false (by omega)
            have hg2 : decide ((q : Int) < (Nk : Int) + 40) = true := decide_eq_true (by omega)
            go_wp2
            go_quiet ((go_at_call 75; exact Calls.quiet_of (hSB _)))
            go_wp2
            go_roundw
            case rel => exact ⟨q + 1, by omega, by go_num, ⟨book_below_n HB.out _⟩, HB0.out⟩
            case measure => simp [intOf]; omega
        · obtain rfl : q = Nk + 40 := by omega
          have hg2 : decide (((Nk + 40 : Nat) : Int) < (Nk : Int) + 40) = false := decide_eq_false (by omega)
          have HS2 := Aside0.mk (HS.out.step HB.out)
          go_wp2
          go_roundw
          case rel => exact ⟨k + 1, by omega, by go_num, HS2⟩
          case measure => simp [intOf]; omega
    · obtain rfl : m = k := by omega
      go_wp2
      go_ret
      exact ⟨rfl, HS.out⟩


/-! ### mailcoachlaw01_isNumber: function 76, by hand -/

/-! ### mailcoachlaw01_Book_lookNumber: function 45, by hand -/

/-! ### mailcoachlaw01_isInt: function 77, by hand -/

/-! ### mailcoachlaw01_Book_lookInt: function 46, by hand -/

/-! ### mailcoachlaw01_isText: function 78, by hand -/

/-! ### mailcoachlaw01_Book_lookText: function 47, by hand -/

/-! ### mailcoachlaw01_isBlob: function 79, by hand -/

/-! ### mailcoachlaw01_Book_lookBlob: function 48, by hand -/

/-! ### mailcoachlaw01_isRange: function 80, by hand -/

/-! ### mailcoachlaw01_Book_lookRange: function 49, by hand -/

/-! ### mailcoachlaw01_isFrame: function 81, by hand -/

/-! ### mailcoachlaw01_Book_lookFrame: function 50, by hand -/

/-! ### mailcoachlaw01_isField: function 82, by hand -/

/-! ### mailcoachlaw01_Book_lookField: function 51, by hand -/

/-! ### mailcoachlaw01_isMessage: function 83, by hand -/

/-! ### mailcoachlaw01_Book_lookMessage: function 52, by hand -/

/-! ### mailcoachlaw01_isRule: function 84, by hand -/

/-! ### mailcoachlaw01_Book_lookRule: function 53, by hand -/

/-! ### mailcoachlaw01_isEvent: function 85, by hand -/

/-! ### mailcoachlaw01_Book_lookEvent: function 54, by hand -/

/-! ### mailcoachlaw01_isReply: function 86, by hand -/

/-! ### mailcoachlaw01_Book_lookReply: function 55, by hand -/

end Go.Proofs.YtmkmefdajbdceaaGreatDoor.PTQ
