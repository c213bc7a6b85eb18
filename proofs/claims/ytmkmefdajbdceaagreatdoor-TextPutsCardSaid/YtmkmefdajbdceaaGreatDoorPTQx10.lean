-- Written by wip/mprint.py (the kit's printer, and texts of this claim's own for what it does not take). Not trusted: Lean checks it.
import Derived.Test.YtmkmefdajbdceaaGreatDoorPTQx0
import Derived.Test.YtmkmefdajbdceaaGreatDoorPTQx9
namespace Go.Proofs.YtmkmefdajbdceaaGreatDoor.PTQ
open Go.RowKit Go.Proofs.YtmkmefdajbdceaaGreatDoorW.PrintWords Go.Proofs.YtmkmefdajbdceaaGreatDoorW.PrintLast Go.Proofs.YtmkmefdajbdceaaGreatDoorW.PrintMore
attribute [local go_sem] max2_int min2_int max_two min_two max_three min_three max_four min_four   -- for this text's walks alone
set_option linter.unusedVariables false
set_option linter.unusedSimpArgs false

/-! ### mailcoachlaw01_Book_fillByte: function 20, by hand -/
/-- The row of a Book's lists of bytes. -/
def book_row (V Z : Nat → Value) (m : Nat) : List Value := (List.range m).flatMap fun j => [V j, Z j, .int .i64 ((j : Int) + 1)]
theorem book_row_succ (V Z : Nat → Value) (m : Nat) : book_row V Z (m + 1) = book_row V Z m ++ [V m, Z m, .int .i64 ((m : Int) + 1)] := by
  unfold book_row
  rw [List.range_succ, List.flatMap_append]
  simp
theorem book_row_length (V Z : Nat → Value) : ∀ m, (book_row V Z m).length = m * 3
  | 0 => rfl
  | m + 1 => by rw [book_row_succ, List.length_append, book_row_length V Z m]; simp; omega
theorem book_row_at (V Z : Nat → Value) (m j : Nat) (hj : j < m) : (book_row V Z m)[j * 3]? = some (V j) ∧ (book_row V Z m)[j * 3 + 1]? = some (Z j) ∧ (book_row V Z m)[j * 3 + 2]? = some (.int .i64 ((j : Int) + 1)) := by
  induction m with
  | zero => omega
  | succ m ih =>
    rw [book_row_succ]
    have hl := book_row_length V Z m
    by_cases h : j < m
    · obtain ⟨h1, h2, h3⟩ := ih h
      rw [List.getElem?_append_left (by omega), List.getElem?_append_left (by omega), List.getElem?_append_left (by omega)]
      exact ⟨h1, h2, h3⟩
    · obtain rfl : j = m := by omega
      rw [List.getElem?_append_right (by omega), List.getElem?_append_right (by omega), List.getElem?_append_right (by omega), hl]
      simp
theorem book_add (gb i : Nat) : (⟨gb, 0, none⟩ : Addr).add i = ⟨gb, i, none⟩ := by simp only [Addr.add]; split <;> simp_all
theorem BookSt.row_at {base g gb cap m : Nat} {n : Int} {V Z : Nat → Value} {w : World} (h : BookSt base g n m (book_row V Z m) (.slice (some ⟨gb, 0, none⟩) m cap) w) (j : Nat) (hj : j < m) :
    w.cell? ⟨gb, j * 3, none⟩ = some (V j) ∧ w.cell? ⟨gb, j * 3 + 1, none⟩ = some (Z j) ∧ w.cell? ⟨gb, j * 3 + 2, none⟩ = some (.int .i64 ((j : Int) + 1)) := by
  have hc := h.own.cells (g := gb) rfl
  obtain ⟨h1, h2, h3⟩ := book_row_at V Z m j hj
  have c1 := hc _ _ h1
  have c2 := hc _ _ h2
  have c3 := hc _ _ h3
  have e : ∀ i, (⟨gb, 0, none⟩ : Addr).add i = ⟨gb, i, none⟩ := fun i => by simp only [Addr.add]; split <;> simp_all
  rw [e] at c1 c2 c3
  exact ⟨c1, c2, c3⟩
/-- All lists of a Book, each in memory of its own. -/
def BookOwn (base m : Nat) (A : Nat → Option Addr) (C N : Nat → Nat) (F : Nat → List Int) (w : World) : Prop := ∀ j, j < m → w.ownsRow base 5 1 (.slice (A j) (N j) (C j)) (N j) (nums .u8 (F j))
def book_mark (j : Nat) : Int := (j : Int) + 2
theorem book_mark_f (j : Nat) (hj : j ≤ 10) : mailcoachlaw01_markByte.f ((j : Int) + 1) = some (book_mark j) := by
  unfold mailcoachlaw01_markByte.f book_mark
  rw [Int.tmod_eq_emod_of_nonneg (by omega)]
  congr 1
  unfold wrap64
  omega
/-- What the lists hold in the midst of round k, behind q stores. -/
def book_F (L : Nat → List Int) (k q j : Nat) : List Int := if j < k then List.replicate (L j).length (book_mark j) else if j = k then List.replicate q (book_mark j) ++ (L j).drop q else L j
theorem book_F_zero (L : Nat → List Int) : book_F L 0 0 = L := by funext j; simp [book_F]
theorem book_F_end (L : Nat → List Int) (k : Nat) : book_F L k (L k).length = book_F L (k + 1) 0 := by
  funext j
  unfold book_F
  by_cases h1 : j < k
  · rw [if_pos h1, if_pos (by omega)]
  · rw [if_neg h1]
    by_cases h2 : j = k
    · subst h2; simp
    · rw [if_neg h2, if_neg (by omega)]
      by_cases h3 : j = k + 1
      · subst h3; simp
      · rw [if_neg h3]
theorem book_F_len (L : Nat → List Int) (k q j : Nat) (hq : q ≤ (L k).length) : (book_F L k q j).length = (L j).length := by
  unfold book_F
  split
  · simp
  · split
    · rename_i h; subst h; simp; omega
    · rfl
theorem book_F_set (L : Nat → List Int) (k q : Nat) (hq : q < (L k).length) : (book_F L k q k).set q (book_mark k) = book_F L k (q + 1) k := by
  unfold book_F
  rw [if_neg (by omega), if_pos rfl, if_neg (by omega), if_pos rfl, List.set_append_right _ _ (by simp), List.length_replicate, Nat.sub_self, List.drop_eq_getElem_cons hq, List.set_cons_zero, List.replicate_succ', List.append_assoc]
  rfl
theorem book_F_other (L : Nat → List Int) (k q q2 j : Nat) (h : j ≠ k) : book_F L k q j = book_F L k q2 j := by
  unfold book_F
  split
  · rfl
  · simp [h]
theorem book_own_addr {w : World} {base n c : Nat} {e : TypeId} {A : Option Addr} {xs : List Value} (h : w.ownsRow base e 1 (.slice A n c) n xs) (hn : 0 < n) : ∃ g, A = some ⟨g, 0, none⟩ ∧ ∃ cur, w.heap[g]? = some (.cells cur e (0, 0)) := by
  rcases h.2 with ⟨_, h0⟩ | ⟨g, cap, cur, hv, _, hg, _⟩
  · omega
  · simp only [Value.slice.injEq, true_and] at hv
    exact ⟨g, hv.1, cur, hg⟩
/-- In the midst of round k, behind q stores. -/
structure BookFill (base g gb cap m : Nat) (n : Int) (A : Nat → Option Addr) (C : Nat → Nat) (L : Nat → List Int) (w0 : World) (B k q : Nat) (w : World) : Prop where
  st : BookSt base g n m (book_row (fun j => .slice (A j) (L j).length (C j)) (fun _ => .slice none 0 0) m) (.slice (some ⟨gb, 0, none⟩) m cap) w
  own : BookOwn base m A C (fun j => (L j).length) (book_F L k q) w
  below : Below base w0 w
  box : w.heap[B]? = some (.cells #[.slice (A k) (L k).length (C k), .slice none 0 0, .int .i64 ((k : Int) + 1)] 67 (0, 0))
section
variable {base g gb cap m : Nat} {n : Int} {A : Nat → Option Addr} {C : Nat → Nat} {L : Nat → List Int} {w0 : World} {B k q : Nat} {w w' : World}
theorem BookFill.step (h : BookFill base g gb cap m n A C L w0 B k q w) (hb : Below w.heap.size w w') : BookFill base g gb cap m n A C L w0 B k q w' :=
  ⟨h.st.below hb, fun j hj => pw_own_below (h.own j hj) hb, below_then h.below (by have := book_lt h.st.blk; have := h.st.base_le; omega) hb, (hb.block B (book_lt h.box)).trans h.box⟩
theorem BookFill.drew (h : BookFill base g gb cap m n A C L w0 B k q w) : BookFill base g gb cap m n A C L w0 B k q w.drew := h.step (book_below_drew (Below.refl _ _))
theorem BookFill.drewN (h : BookFill base g gb cap m n A C L w0 B k q w) (i : Nat) : BookFill base g gb cap m n A C L w0 B k q (w.drewN i) := h.step ⟨rfl, rfl, rfl, Nat.le_refl _, fun _ _ => rfl⟩
theorem BookFill.store (h : BookFill base g gb cap m n A C L w0 B k q w) (hk : k < m) (hq : q < (L k).length) {gk : Nat} (hA : A k = some ⟨gk, 0, none⟩)
    (hap : ∀ j k, j < m → k < m → j ≠ k → (Value.slice (A j) (L j).length (C j)).ownBlock = none ∨ (Value.slice (A j) (L j).length (C j)).ownBlock ≠ (Value.slice (A k) (L k).length (C k)).ownBlock) :
    BookFill base g gb cap m n A C L w0 B k (q + 1) (w.setCell ⟨gk, q, none⟩ (.int .u8 (book_mark k))) := by
  have hk1 := h.own k hk
  have hk2 := hk1
  simp only [hA] at hk1
  obtain ⟨hk3, hk4⟩ := hk1.stored q (.int .u8 (book_mark k))
  obtain ⟨gk', e, cur, hcur⟩ := book_own_addr hk2 (show 0 < (L k).length by omega)
  rw [hA] at e
  cases e
  have hbg : base ≤ gk := own_base hk2 gk (by simp [hA, Value.ownBlock])
  refine ⟨⟨h.st.base_le, ?_, ?_⟩, fun j hj => ?_, ?_, ?_⟩
  · rw [heap_setCell_other w ⟨gk, q, none⟩ g _ (fun e => ?_), h.st.blk]
    have e : g = gk := e
    subst e
    rw [h.st.blk] at hcur
    simp at hcur
  · exact book_set_own hcur h.st.own (by decide)
  · by_cases e : j = k
    · subst e
      rw [hA, ← book_F_set L j q hq]
      have e2 : nums .u8 ((book_F L j q j).set q (book_mark j)) = (nums .u8 (book_F L j q j)).set q (.int .u8 (book_mark j)) := by simp [nums, List.map_set]
      rw [e2]
      exact hk3
    · rw [book_F_other L k (q + 1) q j e]
      exact (h.own j hj).kept hk4 (by have := hap j k hj hk e; rw [hA] at this; simpa [Value.ownBlock] using this)
  · exact h.below.trans (book_set_below hbg)
  · rw [heap_setCell_other w ⟨gk, q, none⟩ B _ (fun e => ?_), h.box]
    have e : B = gk := e
    subst e
    rw [h.box] at hcur
    simp at hcur
end
set_option maxHeartbeats 3200000 in
set_option maxRecDepth 100000 in
theorem book_fillByte (base g gb cap m : Nat) (n : Int) (A : Nat → Option Addr) (C : Nat → Nat) (L : Nat → List Int) (w : World) (hm : m ≤ 10) (hL : ∀ j, j < m → (L j).length ≤ 9223372036854775806)
    (h : BookSt base g n m (book_row (fun j => .slice (A j) (L j).length (C j)) (fun _ => .slice none 0 0) m) (.slice (some ⟨gb, 0, none⟩) m cap) w) (ho : BookOwn base m A C (fun j => (L j).length) L w)
    (hap : ∀ j k, j < m → k < m → j ≠ k → (Value.slice (A j) (L j).length (C j)).ownBlock = none ∨ (Value.slice (A j) (L j).length (C j)).ownBlock ≠ (Value.slice (A k) (L k).length (C k)).ownBlock) :
    Calls Tryz.prog 20 #[.pointer (some ⟨g, 0, none⟩)] w fun e w' => e = .returned (.tuple #[]) ∧ BookSt base g n m (book_row (fun j => .slice (A j) (L j).length (C j)) (fun _ => .slice none 0 0) m) (.slice (some ⟨gb, 0, none⟩) m cap) w' ∧ BookOwn base m A C (fun j => (L j).length) (fun j => List.replicate (L j).length (book_mark j)) w' ∧ Below base w w' := by
  have H := Aside0.mk h
  have HO := Aside0.mk ho
  have HAP := Aside0.mk hap
  have HL := Aside0.mk hL
  clear h ho hap hL
  go_enter Tryz.func20, Tryz.ntmps20
  go_wp2
  go_loopw [2] (fun v2 wr => ∃ k : Nat, k ≤ m ∧ v2 = .int .i64 k ∧ Aside0 (BookSt base g n m (book_row (fun j => .slice (A j) (L j).length (C j)) (fun _ => .slice none 0 0) m) (.slice (some ⟨gb, 0, none⟩) m cap) wr) ∧ Aside0 (BookOwn base m A C (fun j => (L j).length) (book_F L k 0) wr) ∧ Aside0 (Below base w wr)) (fun v2 _ => m - (intOf v2).toNat)
  case atStart => exact ⟨0, by omega, rfl, H, by rw [book_F_zero]; exact HO, ⟨Below.refl _ _⟩⟩
  case round =>
    obtain ⟨k, hk, rfl, HS, HF, HB⟩ := hrel
    obtain ⟨wo, hwo⟩ : ∃ x, x = wr := ⟨_, rfl⟩
    subst hwo
    have h1 := HS.out.cell 1 (.slice (some ⟨gb, 0, none⟩) m cap) rfl
    by_cases hk2 : k < m
    · obtain ⟨x0, x1, x2⟩ := HS.out.row_at k hk2
      obtain ⟨Ak, hAk⟩ : ∃ a, A k = a := ⟨_, rfl⟩
      obtain ⟨Ck, hCk⟩ : ∃ a, C k = a := ⟨_, rfl⟩
      obtain ⟨Nk, hNk⟩ : ∃ a, (L k).length = a := ⟨_, rfl⟩
      simp only [hAk, hCk, hNk] at x0
      have HA := Aside0.mk hAk
      have HC := Aside0.mk hCk
      have HN := Aside0.mk hNk
      have hNk2 : Nk ≤ 9223372036854775806 := by rw [← hNk]; exact HL.out k hk2
      clear hAk hCk hNk
      go_wp2
      go_loopw [4] (fun v4 wi => ∃ q : Nat, q ≤ Nk ∧ v4 = .int .i64 q ∧ Aside0 (BookFill base g gb cap m n A C L w wo.heap.size k q wi)) (fun v4 _ => Nk - (intOf v4).toNat)
      case atStart =>
        refine ⟨0, by omega, rfl, ⟨?_⟩⟩
        have hst : Below wo.heap.size wo (wo.alloc (.cells #[.slice Ak Nk Ck, .slice none 0 0, .int .i64 ((k : Int) + 1)] 67)) := (Below.refl _ _).alloc (Nat.le_refl _) _
        refine ⟨HS.out.below hst, fun j hj => pw_own_below (HF.out j hj) hst, below_then HB.out (by have := book_lt HS.out.blk; have := HS.out.base_le; omega) hst, ?_⟩
        rw [HA.out, HC.out, HN.out]
        exact heap_alloc_new wo _
      case round =>
        obtain ⟨q, hq, rfl, HI⟩ := hrel
        have b0 := HI.out.box
        rw [HA.out, HC.out, HN.out] at b0
        clear x0 x1 x2
        by_cases hq2 : q < Nk
        · have hk5 := HI.out.own k hk2
          simp only [HA.out, HC.out, HN.out] at hk5
          obtain ⟨gk, rfl, cur, hcur⟩ := book_own_addr hk5 (by omega)
          have hl5 : (book_F L k q k).length = Nk := by rw [book_F_len L k q k (by rw [HN.out]; omega), HN.out]
          have y0 : wr.cell? ⟨wo.heap.size, 0, none⟩ = some (.slice (some ⟨gk, 0, none⟩) Nk Ck) := by simp only [World.cell?, b0]; rfl
          have y2 : wr.cell? ⟨wo.heap.size, 2, none⟩ = some (.int .i64 ((k : Int) + 1)) := by simp only [World.cell?, b0]; rfl
          have y3 : wr.cell? ⟨gk, q, none⟩ = some (.int .u8 (rd (book_F L k q k) q)) := by
            have e := hk5.cells (g := gk) rfl q (.int .u8 (rd (book_F L k q k) q)) (by simp [nums, rd, List.getD_eq_getElem?_getD, List.getElem?_eq_getElem (show q < (book_F L k q k).length by omega)])
            rwa [book_add] at e
          have y4 : wr.frozen? ⟨gk, q, none⟩ = false := frozen_of_row wr gk q _ _ hcur
          have HMK := Aside0.mk (book_mark_f k (by omega))
          clear hk5 hcur hl5 b0
          go_wp2
          go_region_with (go_at_call 63; refine (mailcoachlaw01_markByte.calls ((k : Int) + 1) (book_mark k) _ HMK.out).mono ?_; rintro e w2 ⟨rfl, hd⟩; obtain ⟨m2, rfl⟩ := hd.out)
          all_goals (go_wp2; go_roundw)
          all_goals first | exact ⟨q + 1, by omega, by go_num, ⟨(HI.out.drewN _).store hk2 (Nat.lt_of_lt_of_eq hq2 HN.out.symm) HA.out HAP.out⟩⟩ | (simp [intOf]; omega)
        · obtain rfl : Nk = q := by omega
          have hE := HI.out.own
          rw [← HN.out, book_F_end] at hE
          have HS2 := Aside0.mk HI.out.st
          have HB2 := Aside0.mk HI.out.below
          have HF2 := Aside0.mk hE
          have y0 : wr.cell? ⟨wo.heap.size, 0, none⟩ = some (.slice Ak Nk Ck) := by simp only [World.cell?, b0]; rfl
          clear hE b0
          go_wp2
          go_roundw
          case rel => exact ⟨k + 1, by omega, by go_num, HS2, HF2, HB2⟩
          case measure => simp [intOf]; omega
    · go_wp2
      exact bodyPost_end (v := .tuple #[]) (by simp [results, Tryz.results20, go_sem]) rfl ⟨rfl, HS.out, fun j hj => by have h := HF.out j hj; rwa [show book_F L k 0 j = List.replicate (L j).length (book_mark j) by unfold book_F; rw [if_pos (by omega)]] at h, HB.out⟩


/-! ### mailcoachlaw01_markNumber: function 64, by hand -/
/- not reached by a run: nothing is said of it -/


/-! ### mailcoachlaw01_Book_fillNumber: function 21, by hand -/

/-! ### mailcoachlaw01_markInt: function 65, by hand -/

/-! ### mailcoachlaw01_Book_fillInt: function 22, by hand -/

/-! ### strconv_small: function 94, by hand -/

/-! ### strconv_log10Pow2: function 98, by hand -/

/-! ### bits_Len64: function 99, by hand -/

/-! ### strconv_bool2_int: function 100, by hand -/

/-! ### strconv_numDigits: function 95, by hand -/

/-! ### strconv_formatBase10: function 96, by hand -/

/-! ### strconv_isPowerOfTwo: function 101, by hand -/

/-! ### bits_TrailingZeros32: function 103, by hand -/

/-! ### bits_TrailingZeros64: function 104, by hand -/

/-! ### bits_TrailingZeros: function 102, by hand -/

/-! ### strconv_formatBits: function 97, by hand -/

/-! ### strconv_FormatInt: function 93, by hand -/

/-! ### strconv_Itoa_92: function 92, by hand -/

/-! ### strconv_Itoa_91: function 91, by hand -/

/-! ### mailcoachlaw01_word: function 90, by hand -/

/-! ### mailcoachlaw01_markText: function 66, by hand -/

/-! ### mailcoachlaw01_Book_fillText: function 23, by hand -/

/-! ### mailcoachlaw01_markBlob: function 67, by hand -/

/-! ### mailcoachlaw01_Book_fillBlob: function 24, by hand -/

/-! ### mailcoachlaw01_markRange: function 68, by hand -/

/-! ### mailcoachlaw01_Book_fillRange: function 25, by hand -/

/-! ### mailcoachlaw01_markFrame: function 69, by hand -/

/-! ### mailcoachlaw01_Book_fillFrame: function 26, by hand -/

/-! ### mailcoachlaw01_markField: function 70, by hand -/

/-! ### mailcoachlaw01_Book_fillField: function 27, by hand -/

/-! ### mailcoachlaw01_markMessage: function 71, by hand -/

/-! ### mailcoachlaw01_Book_fillMessage: function 28, by hand -/

/-! ### mailcoachlaw01_markRule: function 72, by hand -/

/-! ### mailcoachlaw01_Book_fillRule: function 29, by hand -/

/-! ### mailcoachlaw01_markEvent: function 73, by hand -/

/-! ### mailcoachlaw01_Book_fillEvent: function 30, by hand -/

/-! ### mailcoachlaw01_markReply: function 74, by hand -/

/-! ### mailcoachlaw01_Book_fillReply: function 31, by hand -/

end Go.Proofs.YtmkmefdajbdceaaGreatDoor.PTQ
