-- Written by wip/mprint.py (the kit's printer, and texts of this claim's own for what it does not take). Not trusted: Lean checks it.
import Derived.Test.YtjjignoocaejiaaDoorPPRx0
import Derived.Test.YtjjignoocaejiaaDoorPPRx11
import Derived.Test.YtjjignoocaejiaaDoorPPRx13
import Derived.Test.YtjjignoocaejiaaDoorPPRx16
namespace Go.Proofs.YtjjignoocaejiaaDoor.PPR
open Go.RowKit Go.Proofs.YtjjignoocaejiaaDoorW.PrintWords Go.Proofs.YtjjignoocaejiaaDoorW.PrintLast Go.Proofs.YtjjignoocaejiaaDoorW.PrintMore
attribute [local go_sem] max2_int min2_int max_two min_two max_three min_three max_four min_four   -- for this text's walks alone
set_option linter.unusedVariables false
set_option linter.unusedSimpArgs false

/-! ### mailcoachref23_Pick: function 15, by hand -/
/-! ### mailcoachref23.Pick -/
def ref_less (last : Int) (x y : S40) : Bool := prio_less3 (prio_word x.f1.f0) (prio_turn x.f0 x.f1.f1 last) x.f0 (prio_word y.f1.f0) (prio_turn y.f0 y.f1.f1 last) y.f0
def ref_go (last : Int) : List S40 → Int → Int → S40 → Int
  | [], _, b, _ => b
  | x :: r, i, b, y => if prio_ok x.f1.f0 = true then (if b < 0 then ref_go last r (i + 1) i x else (if ref_less last x y = true then ref_go last r (i + 1) i x else ref_go last r (i + 1) b y)) else ref_go last r (i + 1) b y
def mailcoachref23_Pick.f (l0 : List S40) (a1 : Int) : Option Int := some (ref_go a1 l0 0 (-1) z40)
theorem ref_rd_drop (l : List S40) (k : Nat) (h : k < l.length) : l.drop k = rd_T40 l (k : Int) :: l.drop (k + 1) := by
  rw [List.drop_eq_getElem_cons h]
  simp [rd_T40, List.getD_eq_getElem?_getD, List.getElem?_eq_getElem h]
set_option maxHeartbeats 3200000 in
set_option maxRecDepth 100000 in
theorem mailcoachref23_Pick.calls (A0 : Option Addr) (c0 : Nat) (l0 : List S40) (a1 : Int) (r : Int) (w : World) (hr0 : k40.C w A0 l0.length l0) (hc0 : l0.length ≤ c0) (h : mailcoachref23_Pick.f l0 a1 = some r) :
    Calls Tryd.prog 15 #[.slice A0 l0.length c0, .int .u64 a1] w fun e w' => e = .returned (.int .i64 r) ∧ Below w.heap.size w w' := by
  have hm : l0.length ≤ 9223372036854775807 := hr0.2.1
  have HR := Aside0.mk hr0
  have H := Aside0.mk (Option.some.inj h)
  clear h hr0
  go_enter Tryd.func15, Tryd.ntmps15
  go_wp2
  go_loopw [5, 6] (fun v5 v6 wr => ∃ (k : Nat) (b : Int) (y : S40), k ≤ l0.length ∧ v6 = .int .i64 k ∧ v5 = .int .i64 b ∧ -1 ≤ b ∧ b < k ∧ Aside0 (0 ≤ b → rd_T40 l0 b = y) ∧ Aside0 (Below w.heap.size w wr) ∧ Aside0 (r = ref_go a1 (l0.drop k) k b y)) (fun _ v6 _ => l0.length - (intOf v6).toNat)
  case atStart => exact ⟨0, -1, z40, by omega, rfl, rfl, by omega, by omega, ⟨fun h => by omega⟩, ⟨Below.refl _ _⟩, ⟨H.out.symm⟩⟩
  case round =>
    obtain ⟨k, b, y, hk, rfl, rfl, hb1, hb2, HY, HB, HI⟩ := hrel
    by_cases hlt : k < l0.length
    · have HC := Aside0.mk (Kd.C_below HR.out HB.out)
      obtain ⟨ad, hA, x0, x1, x2⟩ := at_T40 HC.out (k : Int) (by omega) (by omega)
      rw [Int.toNat_natCast] at x0 x1 x2
      have hi := HI.out
      rw [ref_rd_drop l0 k hlt, ref_go] at hi
      obtain ⟨x, hx⟩ : ∃ x, rd_T40 l0 (k : Int) = x := ⟨_, rfl⟩
      rw [hx] at hi x0 x1 x2
      have hlt2 : (k : Int) < (l0.length : Int) := by omega
      have HX := Aside0.mk hx
      have HI := Aside0.mk hi
      clear hi hx
      by_cases hok : prio_ok x.f1.f0 = true
      · have hok' : 0 ≤ x.f1.f0 ∧ x.f1.f0 ≤ 7 := by simpa [prio_ok] using hok
        obtain ⟨hu0, hu7⟩ := hok'
        have hd0 : decide (x.f1.f0 < 0) = false := decide_eq_false (by omega)
        have hd7 : decide (7 < x.f1.f0) = false := decide_eq_false (by omega)
        rw [if_pos hok] at HI
        clear hok
        by_cases hneg : b < 0
        · rw [if_pos hneg] at HI
          have hdb : decide (b < 0) = true := decide_eq_true hneg
          subst hA
          go_upto_region 6 with (fail)
          go_quiet (fail)
          go_wp2
          go_roundw
          case rel => exact ⟨k + 1, k, x, by omega, by go_num, rfl, by omega, by omega, ⟨fun _ => HX.out⟩, ⟨pw_below_drewN HB.out _⟩, HI⟩
          case measure => simp [intOf]; omega
        · rw [if_neg hneg] at HI
          have hdb : decide (b < 0) = false := decide_eq_false hneg
          obtain ⟨j, rfl⟩ := Int.eq_ofNat_of_zero_le (show 0 ≤ b by omega)
          obtain ⟨ad', hA', y0, y1, y2⟩ := at_T40 HC.out (j : Int) (by omega) (by omega)
          rw [hA] at hA'
          obtain rfl := Option.some.inj hA'
          rw [Int.toNat_natCast, HY.out (by omega)] at y0 y1 y2
          have hjl : (j : Int) < (l0.length : Int) := by omega
          subst hA
          clear hA' hneg
          obtain ⟨q, hq⟩ : ∃ q, ref_less a1 x y = q := ⟨_, rfl⟩
          rw [hq] at HI
          rw [ref_less] at hq
          have HQ := Aside0.mk hq
          clear hq
          go_upto_region 6 with (fail)
          go_region_held3 (fun w' => w'.cell? (ad.add (k * 3)) = some (.int .u64 x.f0) ∧ w'.cell? ⟨(ad.add (k * 3)).block, (ad.add (k * 3)).off + 1, none⟩ = some (.int .i64 x.f1.f0) ∧ w'.cell? ⟨(ad.add (k * 3)).block, (ad.add (k * 3)).off + 2, none⟩ = some (.bool x.f1.f1) ∧ w'.cell? (ad.add (j * 3)) = some (.int .u64 y.f0) ∧ w'.cell? ⟨(ad.add (j * 3)).block, (ad.add (j * 3)).off + 1, none⟩ = some (.int .i64 y.f1.f0) ∧ w'.cell? ⟨(ad.add (j * 3)).block, (ad.add (j * 3)).off + 2, none⟩ = some (.bool y.f1.f1))
            (first | go_keep | (go_split_ands; refine ⟨?_, ?_, ?_, ?_, ?_, ?_⟩ <;> (refine Eq.trans (hz.cell ?_) ?_; rotate_left; assumption; exact World.block_lt_of_cell? _ _ (by assumption))))
            (first | (go_at_call 27; refine (ref_rank.calls _ _ _ _ _).mono ?_; rintro e w1 ⟨rfl, hz⟩; have HB := Aside0.mk (show Below w.heap.size w w1 from by first | exact below_step HB.out hz | exact below_step (below_drew1 HB.out) hz)) | (go_at_call 26; refine (ref_less.calls _ _ _ _ _ _ _).mono ?_; rintro e w1 ⟨rfl, hz⟩; have HB := Aside0.mk (show Below w.heap.size w w1 from by first | exact below_step HB.out hz | exact below_step (below_drew1 HB.out) hz); rw [HQ.out]))
          cases q with
          | true =>
            rw [if_pos rfl] at HI
            go_wp2
            go_roundw
            case rel => exact ⟨k + 1, k, x, by omega, by go_num, rfl, by omega, by omega, ⟨fun _ => HX.out⟩, HB, HI⟩
            case measure => simp [intOf]; omega
          | false =>
            rw [if_neg Bool.false_ne_true] at HI
            go_wp2
            go_roundw
            case rel => exact ⟨k + 1, j, y, by omega, by go_num, rfl, by omega, by omega, HY, HB, HI⟩
            case measure => simp [intOf]; omega
      · rw [if_neg hok] at HI
        have hok' : ¬ (0 ≤ x.f1.f0 ∧ x.f1.f0 ≤ 7) := by simpa [prio_ok] using hok
        subst hA
        clear hok
        by_cases h0 : x.f1.f0 < 0
        · have hd0 : decide (x.f1.f0 < 0) = true := decide_eq_true h0
          go_wp2
          go_roundw
          case rel => exact ⟨k + 1, b, y, by omega, by go_num, rfl, by omega, by omega, HY, HB, HI⟩
          case measure => simp [intOf]; omega
        · have hd0 : decide (x.f1.f0 < 0) = false := decide_eq_false h0
          have hd7 : decide (7 < x.f1.f0) = true := decide_eq_true (by omega)
          go_wp2
          go_roundw
          case rel => exact ⟨k + 1, b, y, by omega, by go_num, rfl, by omega, by omega, HY, HB, HI⟩
          case measure => simp [intOf]; omega
    · obtain rfl : k = l0.length := by omega
      have hi := HI.out
      rw [List.drop_length, ref_go] at hi
      have HI := Aside0.mk hi
      clear hi
      go_wp2
      go_ret
      exact ⟨by rw [HI.out]; rfl, HB.out⟩


-- NOT PRINTED: function 4 (mailcoachlaw23_PrioPicks)

end Go.Proofs.YtjjignoocaejiaaDoor.PPR
