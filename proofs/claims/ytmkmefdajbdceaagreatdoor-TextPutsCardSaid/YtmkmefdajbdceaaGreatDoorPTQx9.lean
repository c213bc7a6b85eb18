-- Written by wip/mprint.py (the kit's printer, and texts of this claim's own for what it does not take). Not trusted: Lean checks it.
import Derived.Test.YtmkmefdajbdceaaGreatDoorPTQx0
namespace Go.Proofs.YtmkmefdajbdceaaGreatDoor.PTQ
open Go.RowKit Go.Proofs.YtmkmefdajbdceaaGreatDoorW.PrintWords Go.Proofs.YtmkmefdajbdceaaGreatDoorW.PrintLast Go.Proofs.YtmkmefdajbdceaaGreatDoorW.PrintMore
attribute [local go_sem] max2_int min2_int max_two min_two max_three min_three max_four min_four   -- for this text's walks alone
set_option linter.unusedVariables false
set_option linter.unusedSimpArgs false

/-! ### mailcoachlaw01_Book_keepByte: function 19, by hand -/
/-- The cells of a Book that holds lists of bytes alone. -/
def book_cells (n : Int) (vb : Value) : Array Value := #[.int .i64 n, vb, .slice none 0 0, .slice none 0 0, .slice none 0 0, .slice none 0 0, .slice none 0 0, .slice none 0 0, .slice none 0 0, .slice none 0 0, .slice none 0 0, .slice none 0 0, .slice none 0 0]
/-- A Book of the call's own: its block, and the row in which its lists of bytes stand. -/
structure BookSt (base g : Nat) (n : Int) (m : Nat) (xs : List Value) (vb : Value) (w : World) : Prop where
  base_le : base ≤ g
  blk : w.heap[g]? = some (.cells (book_cells n vb) 41 (0, 0))
  own : w.ownsRow base 67 3 vb m xs
/-- Every block of bytes is as it was. -/
def BookB (w w' : World) : Prop := ∀ (k : Nat) (cur : Array Value), w.heap[k]? = some (.cells cur 5 (0, 0)) → w'.heap[k]? = some (.cells cur 5 (0, 0))
theorem BookB.refl (w : World) : BookB w w := fun _ _ h => h
theorem BookB.trans {a b c : World} (h : BookB a b) (k : BookB b c) : BookB a c := fun q cur hq => k q cur (h q cur hq)
theorem BookB.own {w w' : World} (h : BookB w w') {base n : Nat} {v : Value} {xs : List Value} (ho : w.ownsRow base 5 1 v n xs) : w'.ownsRow base 5 1 v n xs := by
  obtain ⟨h1, h2⟩ := ho
  refine ⟨h1, ?_⟩
  rcases h2 with h2 | ⟨g, cap, cur, hv, hb, hg, r⟩
  · exact .inl h2
  · exact .inr ⟨g, cap, cur, hv, hb, h _ _ hg, r⟩
theorem BookB.of_below {w w' : World} (h : Below w.heap.size w w') : BookB w w' := fun k cur hk => (h.block k (Array.getElem?_eq_some_iff.1 hk).1).trans hk
theorem BookB.of_grown {w w' : World} {row : Option Nat} (h : w.grownBy w' row) (hr : ∀ r, row = some r → ∃ cs t, w.heap[r]? = some (.cells cs t (0, 0)) ∧ t ≠ 5) : BookB w w' := fun k cur hk => by
  refine (h.block k (Array.getElem?_eq_some_iff.1 hk).1 (fun e => ?_)).trans hk
  obtain ⟨cs, t, h1, h2⟩ := hr k e.symm
  rw [hk] at h1
  cases h1
  exact h2 rfl
theorem BookB.set {w : World} {g i : Nat} {cs : Array Value} {t : TypeId} (u : Value) (hg : w.heap[g]? = some (.cells cs t (0, 0))) (ht : t ≠ 5) : BookB w (w.setCell ⟨g, i, none⟩ u) := fun k cur hk => by
  rw [heap_setCell_other w ⟨g, i, none⟩ k u (fun e => ?_), hk]
  have e : k = g := e
  subst e
  rw [hg] at hk
  cases hk
  exact ht rfl
theorem book_own_block {w : World} {base n size : Nat} {e : TypeId} {v : Value} {xs : List Value} (h : w.ownsRow base e size v n xs) : ∀ r, v.ownBlock = some r → ∃ cs, w.heap[r]? = some (.cells cs e (0, 0)) := fun r hr => by
  rcases h.2 with ⟨rfl, _⟩ | ⟨g, cap, cur, rfl, _, hg, _⟩
  · simp [Value.ownBlock] at hr
  · simp only [Value.ownBlock, Option.some.injEq] at hr
    subst hr
    exact ⟨cur, hg⟩
theorem BookSt.cell {base g m : Nat} {n : Int} {xs : List Value} {vb : Value} {w : World} (h : BookSt base g n m xs vb w) (i : Nat) (u : Value) (hi : (book_cells n vb)[i]? = some u) : w.cell? ⟨g, i, none⟩ = some u := by
  have := h.blk
  simp only [World.cell?, this]
  simpa using hi
theorem BookSt.frozen {base g m : Nat} {n : Int} {xs : List Value} {vb : Value} {w : World} (h : BookSt base g n m xs vb w) (i : Nat) : w.frozen? ⟨g, i, none⟩ = false := frozen_of_row w g i _ _ h.blk
theorem BookSt.apart {base g m : Nat} {n : Int} {xs : List Value} {vb : Value} {w : World} (h : BookSt base g n m xs vb w) : vb.ownBlock = none ∨ vb.ownBlock ≠ some g := by
  refine .inr (fun e => ?_)
  obtain ⟨cs, hc⟩ := book_own_block h.own g e
  rw [h.blk] at hc
  simp at hc
theorem BookSt.below {base g m : Nat} {n : Int} {xs : List Value} {vb : Value} {w w' : World} (h : BookSt base g n m xs vb w) (hb : Below w.heap.size w w') : BookSt base g n m xs vb w' :=
  ⟨h.base_le, (hb.block g (Array.getElem?_eq_some_iff.1 h.blk).1).trans h.blk, pw_own_below h.own hb⟩
theorem book_info69 : (Tryz.prog.info? 67).map (fun i => (i.zero, i.size, i.bytes)) = some (some (.agg #[.slice none 0 0, .slice none 0 0, .int .i64 0]), 3, 56) := by kernel_rfl
theorem book_set_own {w : World} {g i : Nat} {cs : Array Value} {t e : TypeId} {u v : Value} {base size n : Nat} {xs : List Value} (hw : w.heap[g]? = some (.cells cs t (0, 0))) (ho : w.ownsRow base e size v n xs) (he : t ≠ e) : (w.setCell ⟨g, i, none⟩ u).ownsRow base e size v n xs := by
  obtain ⟨h1, h2⟩ := ho
  refine ⟨h1, ?_⟩
  rcases h2 with h2 | ⟨g2, cap, cur, hv, hb, hg, r⟩
  · exact .inl h2
  · refine .inr ⟨g2, cap, cur, hv, hb, (heap_setCell_other w ⟨g, i, none⟩ g2 u (fun e2 => ?_)).trans hg, r⟩
    have e2 : g2 = g := e2
    subst e2
    rw [hw] at hg
    cases hg
    exact he rfl
theorem book_set_below {w : World} {base g i : Nat} {u : Value} (h : base ≤ g) : Below base w (w.setCell ⟨g, i, none⟩ u) :=
  ⟨rfl, rfl, rfl, by simp, fun k hk => heap_setCell_other w ⟨g, i, none⟩ k u (fun e => by have e : k = g := e; omega)⟩
theorem book_lt {w : World} {g : Nat} {o : Obj} (h : w.heap[g]? = some o) : g < w.heap.size := (Array.getElem?_eq_some_iff.1 h).1
theorem book_below_drew {b : Nat} {w w' : World} (h : Below b w w') : Below b w w'.drew := ⟨h.os, h.tape, h.output, h.size, h.block⟩

set_option maxHeartbeats 3200000 in
set_option maxRecDepth 100000 in
theorem book_keepByte (base g : Nat) (n : Int) (m : Nat) (xs : List Value) (vb : Value) (w : World) (A : Option Addr) (q c : Nat) (h : BookSt base g n m xs vb w) (hm : m ≤ 10) (hn : 0 ≤ n ∧ n < 100) :
    Calls Tryz.prog 19 #[.pointer (some ⟨g, 0, none⟩), .slice A q c] w fun e w' => e = .returned (.tuple #[]) ∧ ∃ vb', BookSt base g (n + 1) (m + 1) (xs ++ [.slice A q c, .slice none 0 0, .int .i64 (n + 1)]) vb' w' ∧ Below base w w' ∧ BookB w w' := by
  have H := Aside0.mk h
  have h0 := h.cell 0 (.int .i64 n) rfl
  have h1 := h.cell 1 vb rfl
  have hf0 := h.frozen 0
  have hf1 := h.frozen 1
  have HW := Aside0.mk (show (w.setCell ⟨g, 0, none⟩ (.int .i64 (n + 1))).drew.heap[g]? = some (.cells (book_cells (n + 1) vb) 41 (0, 0)) from heap_setCell_same w g 0 _ _ (.int .i64 (n + 1)) h.blk)
  have HO1 := Aside0.mk (show (w.setCell ⟨g, 0, none⟩ (.int .i64 (n + 1))).drew.ownsRow base 67 3 vb m xs from book_set_own h.blk h.own (by decide))
  have HB1 := Aside0.mk (show Below base w (w.setCell ⟨g, 0, none⟩ (.int .i64 (n + 1))).drew from book_below_drew (book_set_below h.base_le))
  have HK1 := Aside0.mk (show BookB w (w.setCell ⟨g, 0, none⟩ (.int .i64 (n + 1))).drew from BookB.set _ h.blk (by decide))
  have h1b : ((w.setCell ⟨g, 0, none⟩ (.int .i64 (n + 1))).alloc (.cells #[.slice A q c, .slice none 0 0, .int .i64 (n + 1)] 67)).cell? ⟨g, 1, none⟩ = some vb := by
    have e := ((Below.refl (w.setCell ⟨g, 0, none⟩ (.int .i64 (n + 1))).heap.size (w.setCell ⟨g, 0, none⟩ (.int .i64 (n + 1)))).alloc (Nat.le_refl _) (.cells #[.slice A q c, .slice none 0 0, .int .i64 (n + 1)] 67)).block g (book_lt HW.out)
    simp only [World.cell?, e, show (w.setCell ⟨g, 0, none⟩ (.int .i64 (n + 1))).heap[g]? = _ from HW.out]
    rfl
  clear h
  go_enter Tryz.func19, Tryz.ntmps19
  go_wp2
  go_region_law (refine step_append_cells (w0 := w) (W := (w.setCell ⟨g, 0, none⟩ (.int .i64 (n + 1))).drew) base rfl (.tmp 15) (.tmp 22) 28 67 _ 3 56 rfl Tryz.underlying28 book_info69 rfl (by decide) (by decide) vb m xs [.slice A q c, .slice none 0 0, .int .i64 (n + 1)] rfl (by simp [Act.eval]) rfl (by simp [Value.oneCell']) HO1.out HB1.out (by have := H.out.base_le; have := book_lt HW.out; omega) (by omega) ?_; intro v1 w1 ho1 hb1 hg1 hat1; have hne := H.out.apart; have HG := Aside0.mk ((hg1.block g (book_lt HW.out) (fun e => hne.elim (fun h => by rw [h] at e; cases e) (fun h => h e.symm))).trans HW.out); have HK2 := Aside0.mk (HK1.out.trans (BookB.of_grown hg1 (fun r hr => (book_own_block HO1.out r hr).elim fun cs hc => ⟨cs, _, hc, by decide⟩))); have HB2 := Aside0.mk hb1; have hc2 : w1.cell? ⟨g, 1, none⟩ = some vb := (by simp only [World.cell?, HG.out]; rfl); have hf2 : w1.frozen? ⟨g, 1, none⟩ = false := frozen_of_row w1 g 1 _ _ HG.out; obtain ⟨A1, c1, rfl⟩ := own_slice ho1; have HO2 := Aside0.mk ho1; clear ho1 hb1 hg1 hat1 hne)
  all_goals exact bodyPost_end (v := .tuple #[]) (by simp [results, Tryz.results19, go_sem]) rfl ⟨rfl, _, ⟨H.out.base_le, heap_setCell_same w1 g 1 _ _ _ HG.out, book_set_own HG.out HO2.out (by decide)⟩, HB2.out.trans (book_set_below H.out.base_le), HK2.out.trans (BookB.set _ HG.out (by decide))⟩
set_option maxHeartbeats 1600000 in
theorem book_Bytes (base g : Nat) (n : Int) (m : Nat) (xs : List Value) (vb : Value) (w : World) (A : Option Addr) (q c : Nat) (h : BookSt base g n m xs vb w) (hm : m ≤ 10) (hn : 0 ≤ n ∧ n < 100) :
    Calls Tryz.prog 8 #[.pointer (some ⟨g, 0, none⟩), .slice A q c] w fun e w' => e = .returned (.tuple #[]) ∧ ∃ vb', BookSt base g (n + 1) (m + 1) (xs ++ [.slice A q c, .slice none 0 0, .int .i64 (n + 1)]) vb' w' ∧ Below base w w' ∧ BookB w w' := by
  have H := Aside0.mk h
  clear h
  go_enter Tryz.func8, Tryz.ntmps8
  go_wp2_with (go_at_call 19; refine (book_keepByte base g n m xs vb _ A q c H.out hm hn).mono ?_; rintro e w1 ⟨rfl, hd⟩; have HD := Aside0.mk hd; clear hd)
  exact bodyPost_end (v := .tuple #[]) (by simp [results, Tryz.results8, go_sem]) rfl ⟨rfl, HD.out⟩


-- NOT PRINTED: function 8 (mailcoachlaw01_Book_Bytes)

/-! ### mailcoachlaw01_markByte: function 63 -/
def mailcoachlaw01_markByte.f (a0 : Int) : Option (Int) := some ((wrap64 (1 + (Int.tmod a0 250))) % 256)
set_option maxHeartbeats 8000000 in
set_option maxRecDepth 100000 in
theorem mailcoachlaw01_markByte.calls (a0 : Int) (r : Int) (w : World) (h : mailcoachlaw01_markByte.f a0 = some r) :
    Calls Tryz.prog 63 #[.int .i64 a0] w fun e w' => e = .returned (.int .u8 r) ∧ Drawn0 w w' := by
  have H : (some ((wrap64 (1 + (Int.tmod a0 250))) % 256)) = some r := h
  clear h
  obtain rfl := Option.some.inj H
  go_enter Tryz.func63, Tryz.ntmps63
  go_wp2
  go_ret
  exact ⟨by first | rfl | (simp; done) | (simp [*]; done), by repeat (first | exact Drawn0.refl _ | apply Drawn0.step)⟩

end Go.Proofs.YtmkmefdajbdceaaGreatDoor.PTQ
