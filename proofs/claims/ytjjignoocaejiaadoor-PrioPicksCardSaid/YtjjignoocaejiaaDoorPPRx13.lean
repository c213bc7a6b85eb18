-- Written by wip/mprint.py (the kit's printer, and texts of this claim's own for what it does not take). Not trusted: Lean checks it.
import Derived.Test.YtjjignoocaejiaaDoorPPRx0
import Derived.Test.YtjjignoocaejiaaDoorPPRx4
import Derived.Test.YtjjignoocaejiaaDoorPPRx11
import Derived.Test.YtjjignoocaejiaaDoorPPRx12
namespace Go.Proofs.YtjjignoocaejiaaDoor.PPR
open Go.RowKit Go.Proofs.YtjjignoocaejiaaDoorW.PrintWords Go.Proofs.YtjjignoocaejiaaDoorW.PrintLast Go.Proofs.YtjjignoocaejiaaDoorW.PrintMore
attribute [local go_sem] max2_int min2_int max_two min_two max_three min_three max_four min_four   -- for this text's walks alone
set_option linter.unusedVariables false
set_option linter.unusedSimpArgs false

/-! ### prio_Pick: function 14, by hand -/
/-! ### the function that prio.Pick hands to slices.IndexFunc -/
theorem prio_eq3 (w : World) (a0 a1 a2 b0 b1 b2 : Int) : (Op.equalIn 10000 57 (.agg #[.int .u64 a0, .int .u64 a1, .int .u64 a2]) (.agg #[.int .u64 b0, .int .u64 b1, .int .u64 b2])).run Tryd.prog w = .ok (a0 == b0 && a1 == b1 && a2 == b2) w := by
  have he := Tryd.underlying35
  have hsz := Tryd.sizeOf35
  have hag := Tryd.isAgg35
  have p : ∀ (x0 x1 x2 : Int) (i : Nat) (v : Value), #[Value.int .u64 x0, .int .u64 x1, .int .u64 x2][i]? = some v → (part 35 #[Value.int .u64 x0, .int .u64 x1, .int .u64 x2] (i * 1)).run Tryd.prog w = .ok v w := by
    intro x0 x1 x2 i v hv
    rw [Nat.mul_one]
    simp [part, Sem.run_bind, hag, hv]
  have pe : ∀ (a b : Int), (Op.equalIn (9998 + 1) 35 (.int .u64 a) (.int .u64 b)).run Tryd.prog w = .ok (a == b) w := fun a b => run_equalIn_int w 9998 35 .u64 .u64 a b he
  rw [show (10000 : Nat) = 9999 + 1 from rfl, Op.equalIn]
  simp only [Sem.run_bind, run_underlying Tryd.underlying57, Result.andThen_ok, hsz, Std.Legacy.Range.forIn_eq_forIn_range', Std.Legacy.Range.size, Nat.sub_zero, Nat.add_sub_cancel, Nat.div_one]
  rw [show List.range' 0 3 1 = [0, 1, 2] from rfl]
  simp only [List.forIn_cons, List.forIn_nil, Sem.run_bind, p a0 a1 a2 0 (.int .u64 a0) rfl, p a0 a1 a2 1 (.int .u64 a1) rfl, p a0 a1 a2 2 (.int .u64 a2) rfl, p b0 b1 b2 0 (.int .u64 b0) rfl, p b0 b1 b2 1 (.int .u64 b1) rfl, p b0 b1 b2 2 (.int .u64 b2) rfl, Result.andThen_ok]
  have e1 := pe a0 b0
  have e2 := pe a1 b1
  have e3 := pe a2 b2
  rw [show (9998 + 1 : Nat) = 9999 from rfl] at e1 e2 e3
  simp only [e1, e2, e3, Result.andThen_ok, Sem.run_bind]
  have q0 := p a0 a1 a2 0 (.int .u64 a0) rfl
  have q1 := p a0 a1 a2 1 (.int .u64 a1) rfl
  have q2 := p a0 a1 a2 2 (.int .u64 a2) rfl
  have r0 := p b0 b1 b2 0 (.int .u64 b0) rfl
  have r1 := p b0 b1 b2 1 (.int .u64 b1) rfl
  have r2 := p b0 b1 b2 2 (.int .u64 b2) rfl
  cases (a0 == b0)
  · simp
  · simp only [Bool.not_true, Bool.false_eq_true, if_false, Sem.run_pure, Sem.run_bind, Result.andThen_ok, q1, r1, e2]
    cases (a1 == b1)
    · simp
    · simp only [Bool.not_true, Bool.false_eq_true, if_false, Sem.run_pure, Sem.run_bind, Result.andThen_ok, q2, r2, e3]
      cases (a2 == b2) <;> simp
def prio_ok (u : Int) : Bool := decide (0 ≤ u ∧ u ≤ 7)
theorem prio_pick1.no (id u : Int) (sh : Bool) (B3 B5 : Nat) (w : World) (h : prio_ok u = false) :
    Calls Tryd.prog 25 #[.agg #[.int .u64 id, .int .i64 u, .bool sh], .pointer (some ⟨B3, 0, none⟩), .pointer (some ⟨B5, 0, none⟩)] w fun e w' => e = .returned (.bool false) ∧ Below w.heap.size w w' := by
  have h' : ¬ (0 ≤ u ∧ u ≤ 7) := by simpa [prio_ok] using h
  clear h
  by_cases h0 : 0 ≤ u
  · have hd0 : decide (0 ≤ u) = true := decide_eq_true h0
    have hd : decide (u ≤ 7) = false := decide_eq_false (by omega)
    have hu : 7 < u := by omega
    go_enter Tryd.func25, Tryd.ntmps25
    go_wp2_with (fail)
    go_quiet (fail)
    go_wp2_with (fail)
    go_ret
    exact ⟨rfl, pw_below_drewN ((Below.refl _ _).alloc (Nat.le_refl _) _) _⟩
  · have hd0 : decide (0 ≤ u) = false := decide_eq_false h0
    have hu : u < 0 := by omega
    go_enter Tryd.func25, Tryd.ntmps25
    go_wp2_with (fail)
    go_quiet (fail)
    go_wp2_with (fail)
    go_ret
    exact ⟨rfl, pw_below_drewN ((Below.refl _ _).alloc (Nat.le_refl _) _) _⟩
set_option maxHeartbeats 1600000 in
set_option maxRecDepth 100000 in
theorem prio_pick1.yes (id u : Int) (sh : Bool) (B3 B5 : Nat) (last b0 b1 b2 : Int) (w : World) (h : prio_ok u = true)
    (h3 : w.heap[B3]? = some (.cells #[.int .u64 last] 35 (0, 0))) (h5 : w.heap[B5]? = some (.cells #[.int .u64 b0, .int .u64 b1, .int .u64 b2] 57 (0, 0))) :
    Calls Tryd.prog 25 #[.agg #[.int .u64 id, .int .i64 u, .bool sh], .pointer (some ⟨B3, 0, none⟩), .pointer (some ⟨B5, 0, none⟩)] w fun e w' => e = .returned (.bool (prio_word u == b0 && prio_turn id sh last == b1 && id == b2)) ∧ Below w.heap.size w w' := by
  have h' : 0 ≤ u ∧ u ≤ 7 := by simpa [prio_ok] using h
  obtain ⟨hu0, hu7⟩ := h'
  have hd0 : decide (0 ≤ u) = true := decide_eq_true hu0
  have hd7 : decide (u ≤ 7) = true := decide_eq_true hu7
  have l3 := (Array.getElem?_eq_some_iff.1 h3).1
  have l5 := (Array.getElem?_eq_some_iff.1 h5).1
  have hc3 : w.cell? ⟨B3, 0, none⟩ = some (.int .u64 last) := (blk_cell h3 0).trans rfl
  have hc50 : w.cell? ⟨B5, 0, none⟩ = some (.int .u64 b0) := (blk_cell h5 0).trans rfl
  have hc51 : w.cell? ⟨B5, 1, none⟩ = some (.int .u64 b1) := (blk_cell h5 1).trans rfl
  have hc52 : w.cell? ⟨B5, 2, none⟩ = some (.int .u64 b2) := (blk_cell h5 2).trans rfl
  clear h h3 h5
  have heq := fun W => prio_eq3 W (prio_word u) (prio_turn id sh last) id b0 b1 b2
  go_enter Tryd.func25, Tryd.ntmps25
  go_wp2_with (fail)
  obtain ⟨W, hW⟩ : ∃ W, w.alloc (.cells #[.int .u64 id, .int .i64 u, .bool sh] 38) = W := ⟨_, rfl⟩
  have hB := Aside0.mk (show Below w.heap.size w W from by rw [← hW]; exact (Below.refl _ _).alloc (Nat.le_refl _) _)
  have hs := Aside0.mk (show W.heap.size = w.heap.size + 1 by rw [← hW]; simp)
  have d0 : W.cell? ⟨w.heap.size, 0, none⟩ = some (.int .u64 id) := by rw [← hW]; simp [go_sem]
  have d1 : W.cell? ⟨w.heap.size, 1, none⟩ = some (.int .i64 u) := by rw [← hW]; simp [go_sem]
  have d2 : W.cell? ⟨w.heap.size, 2, none⟩ = some (.bool sh) := by rw [← hW]; simp [go_sem]
  have e3 : W.cell? ⟨B3, 0, none⟩ = some (.int .u64 last) := (hB.out.cell (p := ⟨B3, 0, none⟩) l3).trans hc3
  have e50 : W.cell? ⟨B5, 0, none⟩ = some (.int .u64 b0) := (hB.out.cell (p := ⟨B5, 0, none⟩) l5).trans hc50
  have e51 : W.cell? ⟨B5, 1, none⟩ = some (.int .u64 b1) := (hB.out.cell (p := ⟨B5, 1, none⟩) l5).trans hc51
  have e52 : W.cell? ⟨B5, 2, none⟩ = some (.int .u64 b2) := (hB.out.cell (p := ⟨B5, 2, none⟩) l5).trans hc52
  have k3 : B3 < W.heap.size := by rw [hs.out]; omega
  have k5 : B5 < W.heap.size := by rw [hs.out]; omega
  have k0 : w.heap.size < W.heap.size := by rw [hs.out]; omega
  rw [hW]
  clear hW hc3 hc50 hc51 hc52
  go_region_held3 (fun w' => w'.cell? ⟨w.heap.size, 0, none⟩ = some (.int .u64 id) ∧ w'.cell? ⟨w.heap.size, 1, none⟩ = some (.int .i64 u) ∧ w'.cell? ⟨w.heap.size, 2, none⟩ = some (.bool sh) ∧ w'.cell? ⟨B3, 0, none⟩ = some (.int .u64 last) ∧ w'.cell? ⟨B5, 0, none⟩ = some (.int .u64 b0) ∧ w'.cell? ⟨B5, 1, none⟩ = some (.int .u64 b1) ∧ w'.cell? ⟨B5, 2, none⟩ = some (.int .u64 b2))
    (first | go_keep | (refine ⟨(hb1.cell (p := ⟨w.heap.size, 0, none⟩) k0).trans d0, (hb1.cell (p := ⟨w.heap.size, 1, none⟩) k0).trans d1, (hb1.cell (p := ⟨w.heap.size, 2, none⟩) k0).trans d2, (hb1.cell (p := ⟨B3, 0, none⟩) k3).trans e3, (hb1.cell (p := ⟨B5, 0, none⟩) k5).trans e50, (hb1.cell (p := ⟨B5, 1, none⟩) k5).trans e51, (hb1.cell (p := ⟨B5, 2, none⟩) k5).trans e52⟩))
    (first | (go_at_call 22; refine (prio_rank.calls id u sh last _).mono ?_; rintro e w1 ⟨rfl, hb1⟩))
  all_goals (go_wp2_with (fail); go_ret; exact ⟨rfl, below_step (below_drew1 hB.out) hb1⟩)
def prio_hit (last b0 b1 b2 : Int) (x : S38) : Bool := prio_ok x.f1.f0 && (prio_word x.f1.f0 == b0 && prio_turn x.f0 x.f1.f1 last == b1 && x.f0 == b2)
theorem prio_pick1.calls (x : S38) (B3 B5 : Nat) (last b0 b1 b2 : Int) (w : World)
    (h3 : w.heap[B3]? = some (.cells #[.int .u64 last] 35 (0, 0))) (h5 : w.heap[B5]? = some (.cells #[.int .u64 b0, .int .u64 b1, .int .u64 b2] 57 (0, 0))) :
    Calls Tryd.prog 25 #[.agg #[.int .u64 x.f0, .int .i64 x.f1.f0, .bool x.f1.f1], .pointer (some ⟨B3, 0, none⟩), .pointer (some ⟨B5, 0, none⟩)] w fun e w' => e = .returned (.bool (prio_hit last b0 b1 b2 x)) ∧ Below w.heap.size w w' := by
  unfold prio_hit
  cases h : prio_ok x.f1.f0 with
  | false => rw [Bool.false_and]; exact prio_pick1.no _ _ _ B3 B5 w h
  | true => rw [Bool.true_and]; exact prio_pick1.yes _ _ _ B3 B5 last b0 b1 b2 w h h3 h5
/-- The first place of which a predicate holds, from a place on; below 0: none. -/
def idx_go {α : Type} (p : α → Bool) : List α → Int → Int
  | [], _ => -1
  | x :: r, i => if p x = true then i else idx_go p r (i + 1)
theorem prio_rd_drop (l : List S38) (k : Nat) (h : k < l.length) : l.drop k = rd_T38 l (k : Int) :: l.drop (k + 1) := by
  rw [List.drop_eq_getElem_cons h]
  simp [rd_T38, List.getD_eq_getElem?_getD, List.getElem?_eq_getElem h]
set_option maxHeartbeats 1600000 in
set_option maxRecDepth 100000 in
theorem prio_IndexFunc (A : Option Addr) (c : Nat) (l : List S38) (B3 B5 : Nat) (last b0 b1 b2 : Int) (w : World) (hr : k38.C w A l.length l) (hm : l.length ≤ 9223372036854775807)
    (h3 : w.heap[B3]? = some (.cells #[.int .u64 last] 35 (0, 0))) (h5 : w.heap[B5]? = some (.cells #[.int .u64 b0, .int .u64 b1, .int .u64 b2] 57 (0, 0))) :
    Calls Tryd.prog 24 #[.slice A l.length c, .func (.func 25) #[] #[.pointer (some ⟨B3, 0, none⟩), .pointer (some ⟨B5, 0, none⟩)]] w fun e w' => e = .returned (.int .i64 (idx_go (prio_hit last b0 b1 b2) l 0)) ∧ Below w.heap.size w w' := by
  have HR := Aside0.mk hr
  have H3 := Aside0.mk h3
  have H5 := Aside0.mk h5
  have L3 := Aside0.mk (Array.getElem?_eq_some_iff.1 h3).1
  have L5 := Aside0.mk (Array.getElem?_eq_some_iff.1 h5).1
  clear hr h3 h5
  go_enter Tryd.func24, Tryd.ntmps24
  go_wp2
  go_loopw [8] (fun v8 wr => ∃ k : Nat, k ≤ l.length ∧ v8 = .int .i64 k ∧ Aside0 (Below w.heap.size w wr) ∧ Aside0 (idx_go (prio_hit last b0 b1 b2) l 0 = idx_go (prio_hit last b0 b1 b2) (l.drop k) k)) (fun v8 _ => l.length - (intOf v8).toNat)
  case atStart => exact ⟨0, by omega, rfl, ⟨Below.refl _ _⟩, ⟨rfl⟩⟩
  case round =>
    obtain ⟨k, hk, rfl, HB, HI⟩ := hrel
    by_cases hlt : k < l.length
    · have HC := Aside0.mk (Kd.C_below HR.out HB.out)
      obtain ⟨ad, rfl, c0, c1, c2⟩ := at_T38 HC.out (k : Int) (by omega) (by omega)
      rw [Int.toNat_natCast] at c0 c1 c2
      have hi := HI.out
      rw [prio_rd_drop l k hlt, idx_go] at hi
      obtain ⟨x, hx⟩ : ∃ x, rd_T38 l (k : Int) = x := ⟨_, rfl⟩
      rw [hx] at hi c0 c1 c2
      have HK := Aside0.mk (prio_pick1.calls x B3 B5 last b0 b1 b2 wr ((HB.out.block _ L3.out).trans H3.out) ((HB.out.block _ L5.out).trans H5.out))
      have hlt2 : (k : Int) < (l.length : Int) := by omega
      cases hh : prio_hit last b0 b1 b2 x with
      | true =>
        rw [hh] at hi HK
        have HI := Aside0.mk hi
        clear hi hx hh
        go_wp2_with (go_at_call 25; refine HK.out.mono ?_; rintro e w1 ⟨rfl, hd⟩; have HB1 := Aside0.mk (below_step HB.out hd); clear hd)
        go_ret
        exact ⟨by rw [HI.out]; rfl, HB1.out⟩
      | false =>
        rw [hh] at hi HK
        have HI := Aside0.mk hi
        clear hi hx hh
        go_wp2_with (go_at_call 25; refine HK.out.mono ?_; rintro e w1 ⟨rfl, hd⟩; have HB1 := Aside0.mk (below_step HB.out hd); clear hd)
        go_roundw
        case rel => exact ⟨k + 1, by omega, by go_num, HB1, ⟨by rw [HI.out]; simp⟩⟩
        case measure => simp [intOf]; omega
    · obtain rfl : k = l.length := by omega
      have hi := HI.out
      rw [List.drop_length, idx_go] at hi
      have HI := Aside0.mk hi
      clear hi
      go_wp2
      go_ret
      exact ⟨by rw [HI.out]; rfl, HB.out⟩

/-! ### prio.Pick -/
def prio_cmp3 (a0 a1 a2 b0 b1 b2 : Int) : Int := if a0 < b0 then -1 else if b0 < a0 then 1 else if a1 < b1 then -1 else if b1 < a1 then 1 else if a2 < b2 then -1 else if b2 < a2 then 1 else 0
theorem prio_cmp1 (a b : Int) : cmp_Compare_uint64.f a b = some (if a < b then -1 else if b < a then 1 else 0) := by
  have h : ∀ x : Int, (x != x) = false := fun x => by simp
  unfold cmp_Compare_uint64.f cmp_isNaN_uint64.f
  simp only [Option.bind_some, h]
  by_cases h1 : a < b
  · simp [h1]
  · by_cases h2 : b < a
    · simp [h1, h2]
    · simp [h1, h2]
theorem prio_cmp (a0 a1 a2 b0 b1 b2 : Int) : slices_Compare_uint64_uint64.f 4 [a0, a1, a2] [b0, b1, b2] = some (prio_cmp3 a0 a1 a2 b0 b1 b2) := by
  have w1 : wrap64 (0 + 1) = 1 := by unfold wrap64; omega
  have w2 : wrap64 (1 + 1) = 2 := by unfold wrap64; omega
  have w3 : wrap64 (2 + 1) = 3 := by unfold wrap64; omega
  unfold slices_Compare_uint64_uint64.f prio_cmp3
  simp only [slices_Compare_uint64_uint64.l0, prio_cmp1, List.length_cons, List.length_nil, rd, Option.bind_some, w1, w2, w3]
  simp
  by_cases h0 : a0 < b0
  · simp [h0]
  · by_cases h0' : b0 < a0
    · simp [h0, h0']
    · by_cases h1 : a1 < b1
      · simp [h0, h0', h1]
      · by_cases h1' : b1 < a1
        · simp [h0, h0', h1, h1']
        · by_cases h2 : a2 < b2
          · simp [h0, h0', h1, h1', h2]
          · by_cases h2' : b2 < a2
            · simp [h0, h0', h1, h1', h2, h2']
            · simp [h0, h0', h1, h1', h2, h2']
def prio_step3 (last : Int) (b : Int × Int × Int) (x : S38) : Int × Int × Int :=
  if prio_ok x.f1.f0 = true then (if prio_cmp3 (prio_word x.f1.f0) (prio_turn x.f0 x.f1.f1 last) x.f0 b.1 b.2.1 b.2.2 < 0 then (prio_word x.f1.f0, prio_turn x.f0 x.f1.f1 last, x.f0) else b) else b
def prio_best (last : Int) (l : List S38) : Int × Int × Int := l.foldl (prio_step3 last) (8, 0, 0)
def prio_Pick.f (l0 : List S38) (a1 : Int) : Option Int := some (idx_go (prio_hit a1 (prio_best a1 l0).1 (prio_best a1 l0).2.1 (prio_best a1 l0).2.2) l0 0)
theorem prio_C3 {w : World} {g : Nat} {t : TypeId} (a b c : Int) (h : w.heap[g]? = some (.cells #[.int .u64 a, .int .u64 b, .int .u64 c] t (0, 0))) : Kd.C (Kd.int .u64) w (some ⟨g, 0, none⟩) [a, b, c].length [a, b, c] := by
  refine Kd.C_of_reads (enc := Value.int .u64) (d := (0 : Int)) (h1 := fun _ => rfl) ⟨rfl, by simp, fun _ => ⟨_, rfl, fun j hj => ?_⟩⟩
  have hj3 : j < 3 := hj
  rw [add_plain, blk_cell h]
  rcases (show j = 0 ∨ j = 1 ∨ j = 2 by omega) with rfl | rfl | rfl <;> rfl
theorem prio_store3 {W : World} {g : Nat} {t : TypeId} {a b c : Value} (x y z : Value) (h : W.heap[g]? = some (.cells #[a, b, c] t (0, 0))) :
    (((W.setCell ⟨g, 0, none⟩ x).setCell ⟨g, 1, none⟩ y).setCell ⟨g, 2, none⟩ z).heap[g]? = some (.cells #[x, y, z] t (0, 0)) ∧ ∀ k, k ≠ g → (((W.setCell ⟨g, 0, none⟩ x).setCell ⟨g, 1, none⟩ y).setCell ⟨g, 2, none⟩ z).heap[k]? = W.heap[k]? := by
  have e1 := setCell_eq_setRow W g 0 _ _ _ x h
  have g1 := setRow_heap W g _ (#[a, b, c].setIfInBounds 0 x) _ _ h
  rw [← e1] at g1
  have e2 := setCell_eq_setRow (W.setCell ⟨g, 0, none⟩ x) g 1 _ _ _ y g1
  have g2 := setRow_heap (W.setCell ⟨g, 0, none⟩ x) g _ ((#[a, b, c].setIfInBounds 0 x).setIfInBounds 1 y) _ _ g1
  rw [← e2] at g2
  have e3 := setCell_eq_setRow ((W.setCell ⟨g, 0, none⟩ x).setCell ⟨g, 1, none⟩ y) g 2 _ _ _ z g2
  have g3 := setRow_heap ((W.setCell ⟨g, 0, none⟩ x).setCell ⟨g, 1, none⟩ y) g _ (((#[a, b, c].setIfInBounds 0 x).setIfInBounds 1 y).setIfInBounds 2 z) _ _ g2
  rw [← e3] at g3
  refine ⟨g3, fun k hk => ?_⟩
  rw [e3, setRow_other _ _ _ _ hk, e2, setRow_other _ _ _ _ hk, e1, setRow_other _ _ _ _ hk]
set_option maxHeartbeats 3200000 in
set_option maxRecDepth 100000 in
theorem prio_Pick.calls (A0 : Option Addr) (c0 : Nat) (l0 : List S38) (a1 : Int) (r : Int) (w : World) (hr0 : k38.C w A0 l0.length l0) (hc0 : l0.length ≤ c0) (h : prio_Pick.f l0 a1 = some r) :
    Calls Tryd.prog 14 #[.slice A0 l0.length c0, .int .u64 a1] w fun e w' => e = .returned (.int .i64 r) ∧ Below w.heap.size w w' := by
  have hm : l0.length ≤ 9223372036854775807 := hr0.2.1
  have HR := Aside0.mk hr0
  have H := Aside0.mk (Option.some.inj h)
  clear h hr0
  go_enter Tryd.func14, Tryd.ntmps14
  go_wp2
  obtain ⟨W0, hW0⟩ : ∃ W0, (w.alloc (.cells #[.int .u64 a1] 35)).alloc (.cells #[.int .u64 8, .int .u64 0, .int .u64 0] 57) = W0 := ⟨_, rfl⟩
  have hb3 : W0.heap[w.heap.size]? = some (.cells #[.int .u64 a1] 35 (0, 0)) := by
    rw [← hW0]
    exact (Below.heap_alloc _ _ _ (by simp)).trans (man_alloc_block w #[.int .u64 a1] 35)
  have hb5 : W0.heap[w.heap.size + 1]? = some (.cells #[.int .u64 8, .int .u64 0, .int .u64 0] 57 (0, 0)) := by
    rw [← hW0]
    have h0 := man_alloc_block (w.alloc (.cells #[.int .u64 a1] 35)) #[.int .u64 8, .int .u64 0, .int .u64 0] 57
    rw [World.size_alloc] at h0
    exact h0
  have hbel : Below w.heap.size w W0 := by
    rw [← hW0]
    exact ((Below.refl _ w).alloc (Nat.le_refl _) _).alloc (by simp) _
  rw [hW0]
  have HB3 := Aside0.mk hb3
  have HB5 := Aside0.mk hb5
  have HBL := Aside0.mk hbel
  clear hW0 hb3 hb5 hbel
  go_loopw [12] (fun v12 wr => ∃ (k : Nat) (b0 b1 b2 : Int), k ≤ l0.length ∧ v12 = .int .i64 k ∧ Aside0 (Below w.heap.size w wr) ∧ Aside0 (wr.heap[w.heap.size]? = some (.cells #[.int .u64 a1] 35 (0, 0))) ∧ Aside0 (wr.heap[w.heap.size + 1]? = some (.cells #[.int .u64 b0, .int .u64 b1, .int .u64 b2] 57 (0, 0))) ∧ Aside0 (prio_best a1 l0 = (l0.drop k).foldl (prio_step3 a1) (b0, b1, b2))) (fun v12 _ => l0.length - (intOf v12).toNat)
  case atStart => exact ⟨0, 8, 0, 0, by omega, rfl, HBL, HB3, HB5, ⟨rfl⟩⟩
  case round =>
    clear HBL HB3 HB5
    obtain ⟨k, b0, b1, b2, hk, rfl, HB, HB3, HB5, HI⟩ := hrel
    by_cases hlt : k < l0.length
    · have HC := Aside0.mk (Kd.C_below HR.out HB.out)
      obtain ⟨ad, rfl, x0, x1, x2⟩ := at_T38 HC.out (k : Int) (by omega) (by omega)
      rw [Int.toNat_natCast] at x0 x1 x2
      have hi := HI.out
      rw [prio_rd_drop l0 k hlt, List.foldl_cons] at hi
      obtain ⟨x, hx⟩ : ∃ x, rd_T38 l0 (k : Int) = x := ⟨_, rfl⟩
      rw [hx] at hi x0 x1 x2
      have hlt2 : (k : Int) < (l0.length : Int) := by omega
      have hc3 : wr.cell? ⟨w.heap.size, 0, none⟩ = some (.int .u64 a1) := (blk_cell HB3.out 0).trans rfl
      have HI := Aside0.mk hi
      have HL := Aside0.mk (show w.heap.size + 1 < wr.heap.size from (Array.getElem?_eq_some_iff.1 HB5.out).1)
      have hl : w.heap.size < wr.heap.size := by have := HL.out; omega
      clear hi hx
      go_upto_region 6 with (go_at_call 22; refine (prio_rank.calls x.f0 x.f1.f0 x.f1.f1 a1 _).mono ?_; rintro e w1 ⟨rfl, hd⟩; have HD := Aside0.mk hd; clear hd)
      obtain ⟨id, ⟨u, sh⟩⟩ := x
      simp only at x0 x1 x2 HI HD ⊢
      obtain ⟨R0, hR0⟩ : ∃ R, prio_word u = R := ⟨_, rfl⟩
      obtain ⟨R1, hR1⟩ : ∃ R, prio_turn id sh a1 = R := ⟨_, rfl⟩
      rw [prio_step3] at HI
      simp only [hR0, hR1] at HI
      rw [hR0, hR1]
      obtain ⟨W2, hW2⟩ : ∃ W2, w1.alloc (.cells #[.int .u64 R0, .int .u64 R1, .int .u64 id] 57) = W2 := ⟨_, rfl⟩
      have f8 : W2.heap[w1.heap.size]? = some (.cells #[.int .u64 R0, .int .u64 R1, .int .u64 id] 57 (0, 0)) := by rw [← hW2]; exact man_alloc_block w1 _ _
      have hsz1 : wr.heap.size + 1 ≤ w1.heap.size := by have := HD.out.size; rw [World.size_alloc] at this; exact this
      have hold : ∀ g, g < wr.heap.size → W2.heap[g]? = wr.heap[g]? := fun g hg => by
        rw [← hW2, Below.heap_alloc _ _ _ (by omega), HD.out.block g (by rw [World.size_alloc]; omega), Below.heap_alloc _ _ _ hg]
      have f7 : W2.heap[wr.heap.size]? = some (.cells #[.int .u64 id, .int .i64 u, .bool sh] 38 (0, 0)) := by
        rw [← hW2, Below.heap_alloc _ _ _ (by omega), HD.out.block _ (by rw [World.size_alloc]; omega)]
        exact man_alloc_block wr _ _
      have f5 : W2.heap[w.heap.size + 1]? = some (.cells #[.int .u64 b0, .int .u64 b1, .int .u64 b2] 57 (0, 0)) := (hold _ HL.out).trans HB5.out
      have f3 : W2.heap[w.heap.size]? = some (.cells #[.int .u64 a1] 35 (0, 0)) := (hold _ hl).trans HB3.out
      have fb : Below w.heap.size w W2 := by
        rw [← hW2]
        exact (below_step (HB.out.alloc HB.out.size _) HD.out).alloc (by have := HB.out.size; omega) _
      have F8 := Aside0.mk f8
      have F5 := Aside0.mk f5
      have F3 := Aside0.mk f3
      have FB := Aside0.mk fb
      have HN := Aside0.mk (show w1.heap.size ≠ w.heap.size + 1 ∧ w1.heap.size ≠ w.heap.size ∧ w.heap.size + 1 < w1.heap.size by have := HL.out; omega)
      have hcu : W2.cell? ⟨wr.heap.size, 1, none⟩ = some (.int .i64 u) := (blk_cell f7 1).trans rfl
      rw [hW2]
      clear hW2 f8 f7 f5 f3 fb hold hsz1 x0 x1 x2 hc3 HC HB HB3 HB5 HD hR0 hR1 hl
      by_cases hok : prio_ok u = true
      · have hok' : 0 ≤ u ∧ u ≤ 7 := by simpa [prio_ok] using hok
        obtain ⟨hu0, hu7⟩ := hok'
        have hd0 : decide (0 ≤ u) = true := decide_eq_true hu0
        have hd7 : decide (u ≤ 7) = true := decide_eq_true hu7
        have hcmp := prio_cmp R0 R1 id b0 b1 b2
        rw [if_pos hok] at HI
        obtain ⟨C, hC⟩ : ∃ C, prio_cmp3 R0 R1 id b0 b1 b2 = C := ⟨_, rfl⟩
        rw [hC] at hcmp HI
        have HCM := Aside0.mk hcmp
        have HC1 := Aside0.mk (prio_C3 R0 R1 id F8.out)
        have HC2 := Aside0.mk (prio_C3 b0 b1 b2 F5.out)
        clear hcmp hC hok
        by_cases hneg : C < 0
        · rw [if_pos hneg] at HI
          have hdC : decide (C < 0) = true := decide_eq_true hneg
          go_quiet ((go_at_call 23; exact Calls.quiet_of ((slices_Compare_uint64_uint64.calls 4 (some ⟨w1.heap.size, 0, none⟩) 3 [R0, R1, id] (some ⟨w.heap.size + 1, 0, none⟩) 3 [b0, b1, b2] C _ (by exact prio_C3 R0 R1 id (blk_drewN F8.out _)) (Nat.le_refl 3) (by exact prio_C3 b0 b1 b2 (blk_drewN F5.out _)) (Nat.le_refl 3) HCM.out).mono fun _ _ h => ⟨h.1, h.2.out⟩)))
          go_upto_region 7 with (fail)
          obtain ⟨W4, hW4⟩ : ∃ W4, W2.drewN nq = W4 := ⟨_, rfl⟩
          have f8 : W4.heap[w1.heap.size]? = some (.cells #[.int .u64 R0, .int .u64 R1, .int .u64 id] 57 (0, 0)) := by rw [← hW4]; exact F8.out
          have f5 : W4.heap[w.heap.size + 1]? = some (.cells #[.int .u64 b0, .int .u64 b1, .int .u64 b2] 57 (0, 0)) := by rw [← hW4]; exact F5.out
          have f3 : W4.heap[w.heap.size]? = some (.cells #[.int .u64 a1] 35 (0, 0)) := by rw [← hW4]; exact F3.out
          have fb : Below w.heap.size w W4 := by rw [← hW4]; exact pw_below_drewN FB.out _
          rw [hW4]
          obtain ⟨s1, s2⟩ := prio_store3 (.int .u64 R0) (.int .u64 R1) (.int .u64 id) f5
          have S1 := Aside0.mk s1
          have S2 := Aside0.mk ((s2 _ (by omega)).trans f3)
          have SB := Aside0.mk (show Below w.heap.size w (((W4.setCell ⟨w.heap.size + 1, 0, none⟩ (.int .u64 R0)).setCell ⟨w.heap.size + 1, 1, none⟩ (.int .u64 R1)).setCell ⟨w.heap.size + 1, 2, none⟩ (.int .u64 id)) from ((fb.setCell (p := ⟨w.heap.size + 1, 0, none⟩) (Nat.le_succ _) _).setCell (p := ⟨w.heap.size + 1, 1, none⟩) (Nat.le_succ _) _).setCell (p := ⟨w.heap.size + 1, 2, none⟩) (Nat.le_succ _) _)
          have c80 : W4.cell? ⟨w1.heap.size, 0, none⟩ = some (.int .u64 R0) := (blk_cell f8 0).trans rfl
          have c81 : W4.cell? ⟨w1.heap.size, 1, none⟩ = some (.int .u64 R1) := (blk_cell f8 1).trans rfl
          have c82 : W4.cell? ⟨w1.heap.size, 2, none⟩ = some (.int .u64 id) := (blk_cell f8 2).trans rfl
          have c50 : W4.cell? ⟨w.heap.size + 1, 0, none⟩ = some (.int .u64 b0) ∧ W4.frozen? ⟨w.heap.size + 1, 0, none⟩ = false := ⟨(blk_cell f5 0).trans rfl, blk_frozen f5 0⟩
          have c51 : W4.cell? ⟨w.heap.size + 1, 1, none⟩ = some (.int .u64 b1) ∧ W4.frozen? ⟨w.heap.size + 1, 1, none⟩ = false := ⟨(blk_cell f5 1).trans rfl, blk_frozen f5 1⟩
          have c52 : W4.cell? ⟨w.heap.size + 1, 2, none⟩ = some (.int .u64 b2) ∧ W4.frozen? ⟨w.heap.size + 1, 2, none⟩ = false := ⟨(blk_cell f5 2).trans rfl, blk_frozen f5 2⟩
          have hne1 := HN.out.1
          clear hW4 s1 s2 f8 f5 f3 fb hcu
          go_wp2
          go_roundw
          case rel => exact ⟨k + 1, R0, R1, id, by omega, by go_num, SB, S2, S1, HI⟩
          case measure => simp [intOf]; omega
        · rw [if_neg hneg] at HI
          have hdC : decide (C < 0) = false := decide_eq_false hneg
          go_quiet ((go_at_call 23; exact Calls.quiet_of ((slices_Compare_uint64_uint64.calls 4 (some ⟨w1.heap.size, 0, none⟩) 3 [R0, R1, id] (some ⟨w.heap.size + 1, 0, none⟩) 3 [b0, b1, b2] C _ (by exact prio_C3 R0 R1 id (blk_drewN F8.out _)) (Nat.le_refl 3) (by exact prio_C3 b0 b1 b2 (blk_drewN F5.out _)) (Nat.le_refl 3) HCM.out).mono fun _ _ h => ⟨h.1, h.2.out⟩)))
          go_wp2
          go_roundw
          case rel => exact ⟨k + 1, b0, b1, b2, by omega, by go_num, ⟨pw_below_drewN FB.out _⟩, F3, F5, HI⟩
          case measure => simp [intOf]; omega
      · rw [if_neg hok] at HI
        have hok' : ¬ (0 ≤ u ∧ u ≤ 7) := by simpa [prio_ok] using hok
        clear hok
        by_cases h0 : 0 ≤ u
        · have hd0 : decide (0 ≤ u) = true := decide_eq_true h0
          have hd : decide (u ≤ 7) = false := decide_eq_false (by omega)
          have hu : 7 < u := by omega
          go_quiet (fail)
          go_wp2
          go_roundw
          case rel => exact ⟨k + 1, b0, b1, b2, by omega, by go_num, ⟨pw_below_drewN FB.out _⟩, F3, F5, HI⟩
          case measure => simp [intOf]; omega
        · have hd0 : decide (0 ≤ u) = false := decide_eq_false h0
          have hu : u < 0 := by omega
          go_quiet (fail)
          go_wp2
          go_roundw
          case rel => exact ⟨k + 1, b0, b1, b2, by omega, by go_num, ⟨pw_below_drewN FB.out _⟩, F3, F5, HI⟩
          case measure => simp [intOf]; omega
    · obtain rfl : k = l0.length := by omega
      have hi := HI.out
      rw [List.drop_length, List.foldl_nil] at hi
      have hh := H.out
      rw [hi] at hh
      have HH := Aside0.mk hh
      have HC := Aside0.mk (Kd.C_below HR.out HB.out)
      clear hi hh
      go_wp2_with (go_at_call 24; refine (prio_IndexFunc A0 c0 l0 w.heap.size (w.heap.size + 1) a1 b0 b1 b2 _ HC.out (by omega) HB3.out HB5.out).mono ?_; rintro e w1 ⟨rfl, hd⟩; have HB1 := Aside0.mk (below_step HB.out hd); clear hd)
      go_ret
      exact ⟨by rw [← HH.out]; rfl, HB1.out⟩


end Go.Proofs.YtjjignoocaejiaaDoor.PPR
