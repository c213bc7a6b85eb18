/- A part of the walk of the laws of layer 26 (script): contracts of functions of the program, each walked once; and the plain law. -/
import Derived.Test.YtegmbihjjhhpmaaDoorSJ
import Derived.Test.YtegmbihjjhhpmaaDoorSh
import Derived.RangeFuncNested
import Derived.RangeFuncBound
import Derived.RangeFuncCalls
import Derived.RangeFuncLeaves
import Derived.RangeFuncBox
import Derived.OwnWalkIn
import Derived.TacticsInMore
import Derived.LoopNIn
import Derived.LoopIn
import Derived.Deep.DeepMust
import Derived.LoopN
import Derived.Laws.BitsAllLaws
import Derived.Maps.OwnIn
import Derived.Shelf.Abstract
import Derived.Sort.CutIn
import Derived.Shelf.RegionOpen
import Derived.StillTailTactics
import Derived.Great.BuildSlice
import Derived.Laws.Tables
import Derived.Lib.OthersKept
import Derived.Outline
import Derived.Deep.RegionHeld3
import Derived.Laws.StructEq
import Derived.Deep.RegionLaw
import Derived.Deep.RegionWith
import Derived.ArgAppend
import Derived.Lib.Split
import Derived.Lib.CutLaws
namespace Go.Proofs.YtegmbihjjhhpmaaDoor.T
open Go.RowKit Go.Proofs.YtegmbihjjhhpmaaDoorW.PrintWords Go.Proofs.YtegmbihjjhhpmaaDoorW.PrintLast Go.Proofs.YtegmbihjjhhpmaaDoorW.PrintMore
open Go.Proofs.YtegmbihjjhhpmaaDoor.PSC
set_option linter.unusedVariables false
set_option linter.unusedSimpArgs false
/-! ### script.event -/
/-- An event's cells, and its rows in blocks lo .. hi, one behind the other. -/
def EvAt (w : World) (lo hi : Nat) (x : S47) (cs : List Value) : Prop := ∃ m1 m2 m3 A2 A3 A4 A5, lo ≤ m1 ∧ m1 ≤ m2 ∧ m2 ≤ m3 ∧ m3 ≤ hi ∧ cs = [.int .u8 x.f0, .int .i64 x.f1, .slice A2 x.f2.f0.length x.f2.f0.length, .slice A3 x.f2.f1.length x.f2.f1.length, .slice A4 x.f2.f2.length x.f2.f2.length, .slice A5 x.f3.length x.f3.length] ∧ FieldsAt w lo m1 A2 x.f2.f0 ∧ BytesAt w m1 m2 A3 x.f2.f1 ∧ FieldsAt w m2 m3 A4 x.f2.f2 ∧ BytesAt w m3 hi A5 x.f3
theorem EvAt.keep {w w' : World} {lo hi : Nat} {x : S47} {cs : List Value} (h : EvAt w lo hi x cs) (ho : ∀ k, lo ≤ k → k < hi → w'.heap[k]? = w.heap[k]?) : EvAt w' lo hi x cs := by
  obtain ⟨m1, m2, m3, A2, A3, A4, A5, h1, h2, h3, h4, rfl, f1, f2, f3, f4⟩ := h
  exact ⟨m1, m2, m3, A2, A3, A4, A5, h1, h2, h3, h4, rfl, f1.keep (fun k a b => ho k (by omega) (by omega)), f2.keep (fun k a b => ho k (by omega) (by omega)), f3.keep (fun k a b => ho k (by omega) (by omega)), f4.keep (fun k a b => ho k (by omega) (by omega))⟩
theorem tk_index_row (j : Nat) (r : ByteArray × Int × Bool × Bool) (h : sc_rows[j]? = some r) : ∀ W : World, (Instr.index 54 (.agg sc_rowsC) (.int .i64 (j : Int))).run Tryd.prog W = .ok (.agg #[.string r.1, .int .u8 r.2.1, .bool r.2.2.1, .bool r.2.2.2]) W := by
  have h0 : ∀ W : World, (Instr.index 54 (.agg sc_rowsC) (.int .i64 ((0 : Nat) : Int))).run Tryd.prog W = .ok (.agg (sc_rowC (sc_ask, 1, false, false)).toArray) W := fun W => by kernel_rfl
  have h1 : ∀ W : World, (Instr.index 54 (.agg sc_rowsC) (.int .i64 ((1 : Nat) : Int))).run Tryd.prog W = .ok (.agg (sc_rowC (sc_cancel, 2, true, false)).toArray) W := fun W => by kernel_rfl
  have h2 : ∀ W : World, (Instr.index 54 (.agg sc_rowsC) (.int .i64 ((2 : Nat) : Int))).run Tryd.prog W = .ok (.agg (sc_rowC (sc_goaway, 3, false, false)).toArray) W := fun W => by kernel_rfl
  have h3 : ∀ W : World, (Instr.index 54 (.agg sc_rowsC) (.int .i64 ((3 : Nat) : Int))).run Tryd.prog W = .ok (.agg (sc_rowC (sc_tick, 4, true, false)).toArray) W := fun W => by kernel_rfl
  have h4 : ∀ W : World, (Instr.index 54 (.agg sc_rowsC) (.int .i64 ((4 : Nat) : Int))).run Tryd.prog W = .ok (.agg (sc_rowC (sc_send, 5, true, false)).toArray) W := fun W => by kernel_rfl
  have h5 : ∀ W : World, (Instr.index 54 (.agg sc_rowsC) (.int .i64 ((5 : Nat) : Int))).run Tryd.prog W = .ok (.agg (sc_rowC (sc_pass, 6, true, false)).toArray) W := fun W => by kernel_rfl
  have h6 : ∀ W : World, (Instr.index 54 (.agg sc_rowsC) (.int .i64 ((6 : Nat) : Int))).run Tryd.prog W = .ok (.agg (sc_rowC (sc_drop, 7, true, false)).toArray) W := fun W => by kernel_rfl
  have h7 : ∀ W : World, (Instr.index 54 (.agg sc_rowsC) (.int .i64 ((7 : Nat) : Int))).run Tryd.prog W = .ok (.agg (sc_rowC (sc_twice, 8, true, false)).toArray) W := fun W => by kernel_rfl
  have h8 : ∀ W : World, (Instr.index 54 (.agg sc_rowsC) (.int .i64 ((8 : Nat) : Int))).run Tryd.prog W = .ok (.agg (sc_rowC (sc_forge, 9, true, true)).toArray) W := fun W => by kernel_rfl
  rcases j with _ | _ | _ | _ | _ | _ | _ | _ | _ | j
  · obtain rfl := Option.some.inj h; exact h0
  · obtain rfl := Option.some.inj h; exact h1
  · obtain rfl := Option.some.inj h; exact h2
  · obtain rfl := Option.some.inj h; exact h3
  · obtain rfl := Option.some.inj h; exact h4
  · obtain rfl := Option.some.inj h; exact h5
  · obtain rfl := Option.some.inj h; exact h6
  · obtain rfl := Option.some.inj h; exact h7
  · obtain rfl := Option.some.inj h; exact h8
  · simp [sc_rows] at h
structure EvSt (g N b0 B5 : Nat) (r : ByteArray × Int × Bool × Bool) (u : Tk) (cells : Array Value) (w0 w : World) : Prop where
  tk : TkSt g N u w
  e : w.heap[b0]? = some (.cells cells 47 (0, 0))
  r : w.heap[B5]? = some (.cells #[.string r.1, .int .u8 r.2.1, .bool r.2.2.1, .bool r.2.2.2] 53 (0, 0))
  fr : w0.grownBy w (some g)
  lt : N ≤ b0 ∧ b0 < B5 ∧ w0.heap.size ≤ b0
section
variable {g N b0 B5 : Nat} {r : ByteArray × Int × Bool × Bool} {u u1 : Tk} {cells : Array Value} {w0 w w1 : World}
theorem EvSt.call (h : EvSt g N b0 B5 r u cells w0 w) (hg : w.grownBy w1 (some g)) (ht : TkSt g N u1 w1) : EvSt g N b0 B5 r u1 cells w0 w1 := by
  have h1 := h.lt
  have h2 := h.tk.1
  exact ⟨ht, (hg.block b0 (tk_lt h.e) (by simp; omega)).trans h.e, (hg.block B5 (tk_lt h.r) (by simp; omega)).trans h.r, tk_fr_same h.fr hg, h1⟩
theorem EvSt.set (h : EvSt g N b0 B5 r u cells w0 w) (i : Nat) (v : Value) : EvSt g N b0 B5 r u (cells.setIfInBounds i v) w0 (w.setCell ⟨b0, i, none⟩ v) := by
  have h1 := h.lt
  have h2 := h.tk.1
  obtain ⟨s1, s2⟩ := tk_store1 i v h.e
  refine ⟨h.tk.keep (by simp [World.setCell]) (fun k hk => s2 k (by omega)), s1, (s2 B5 (by omega)).trans h.r, ?_, h1⟩
  exact tk_fr_new h.fr (tk_grown1 w b0 i v) (fun k hk => by injection hk with hk; omega)
theorem EvSt.below (h : EvSt g N b0 B5 r u cells w0 w) (hb : Below w.heap.size w w1) : EvSt g N b0 B5 r u cells w0 w1 :=
  ⟨h.tk.below hb, (hb.block b0 (tk_lt h.e)).trans h.e, (hb.block B5 (tk_lt h.r)).trans h.r, tk_fr_below h.fr hb h.fr.size, h.lt⟩
end
theorem RowAt.call {α : Type} {d : Kd α} {e : Nat} {w w1 : World} {g lo hi : Nat} {A : Option Addr} {xs : List α} (h : RowAt d e w lo hi A xs) (hK : ∀ p c, d.K w p c → d.K w1 p c) (hg : w.grownBy w1 (some g)) (hlo : g < lo) : RowAt d e w1 lo hi A xs := by
  obtain ⟨h1, h2⟩ := h
  have hb : ∀ ad, A = some ad → w1.heap[ad.block]? = w.heap[ad.block]? := by
    intro ad e
    obtain ⟨k, cells, fz, rfl, h3, h4, h5, _⟩ := h2 ad e
    exact hg.block k (tk_lt h5) (by simp; omega)
  refine ⟨tk_row_block h1 hK hb, fun ad e => ?_⟩
  have hb := hb ad e
  obtain ⟨k, cells, fz, rfl, h3, h4, h5, h6⟩ := h2 ad e
  exact ⟨k, cells, fz, rfl, h3, h4, hb.trans h5, h6⟩
theorem FieldsAt.call {w w1 : World} {g lo hi : Nat} {A : Option Addr} {xs : List S49} (h : FieldsAt w lo hi A xs) (hg : w.grownBy w1 (some g)) (hlo : g < lo) : FieldsAt w1 lo hi A xs :=
  RowAt.call h (fun p c hp => by obtain rfl := k49_open hp; exact k49_mk w1 p) hg hlo
theorem BytesAt.call {w w1 : World} {g lo hi : Nat} {A : Option Addr} {xs : List Int} (h : BytesAt w lo hi A xs) (hg : w.grownBy w1 (some g)) (hlo : g < lo) : BytesAt w1 lo hi A xs :=
  RowAt.call h (fun p c (hp : c = [Value.int .u8 p]) => hp) hg hlo
theorem FieldsAt.set {w : World} {b lo hi : Nat} {A : Option Addr} {xs : List S49} (h : FieldsAt w lo hi A xs) (hlo : b < lo) (i : Nat) (v : Value) : FieldsAt (w.setCell ⟨b, i, none⟩ v) lo hi A xs := h.call (tk_grown1 w b i v) hlo
theorem BytesAt.set {w : World} {b lo hi : Nat} {A : Option Addr} {xs : List Int} (h : BytesAt w lo hi A xs) (hlo : b < lo) (i : Nat) (v : Value) : BytesAt (w.setCell ⟨b, i, none⟩ v) lo hi A xs := h.call (tk_grown1 w b i v) hlo
theorem tk_set_size (w : World) (a : Addr) (v : Value) : (w.setCell a v).heap.size = w.heap.size := by simp [World.setCell]
/-- The whole event is loaded and stored back. -/
theorem EvSt.back {g N b0 B5 : Nat} {r : ByteArray × Int × Bool × Bool} {u : Tk} {a b c d e f : Value} {w0 w : World} (h : EvSt g N b0 B5 r u #[a, b, c, d, e, f] w0 w) : EvSt g N b0 B5 r u #[a, b, c, d, e, f] w0 ((((((w.setCell ⟨b0, 0, none⟩ a).setCell ⟨b0, 1, none⟩ b).setCell ⟨b0, 2, none⟩ c).setCell ⟨b0, 3, none⟩ d).setCell ⟨b0, 4, none⟩ e).setCell ⟨b0, 5, none⟩ f) :=
  (((((h.set 0 a).set 1 b).set 2 c).set 3 d).set 4 e).set 5 f
theorem tk_back_same {w : World} {b0 : Nat} {a b c d e f : Value} {t : TypeId} (h : w.heap[b0]? = some (.cells #[a, b, c, d, e, f] t (0, 0))) : ((((((w.setCell ⟨b0, 0, none⟩ a).setCell ⟨b0, 1, none⟩ b).setCell ⟨b0, 2, none⟩ c).setCell ⟨b0, 3, none⟩ d).setCell ⟨b0, 4, none⟩ e).setCell ⟨b0, 5, none⟩ f).heap[b0]? = some (.cells #[a, b, c, d, e, f] t (0, 0)) :=
  (tk_store1 5 f (tk_store1 4 e (tk_store1 3 d (tk_store1 2 c (tk_store1 1 b (tk_store1 0 a h).1).1).1).1).1).1
theorem tk_back_grown (w : World) (b0 : Nat) (a b c d e f : Value) : w.grownBy ((((((w.setCell ⟨b0, 0, none⟩ a).setCell ⟨b0, 1, none⟩ b).setCell ⟨b0, 2, none⟩ c).setCell ⟨b0, 3, none⟩ d).setCell ⟨b0, 4, none⟩ e).setCell ⟨b0, 5, none⟩ f) (some b0) :=
  World.grownBy.trans (World.grownBy.trans (World.grownBy.trans (World.grownBy.trans (World.grownBy.trans (tk_grown1 _ _ _ _) (tk_grown1 _ _ _ _)) (tk_grown1 _ _ _ _)) (tk_grown1 _ _ _ _)) (tk_grown1 _ _ _ _)) (tk_grown1 _ _ _ _)
theorem tk_rest_eq (r : ByteArray × Int × Bool × Bool) (u : Tk) : tk_rest r u = (⟨r.2.1, (tk_numIf r.2.2.1 (tk_msgIf (decide (r.2.1 = 1)) u).2).1, (tk_msgIf (decide (r.2.1 = 1)) u).1, (tk_dataIf r.2.2.2 (tk_numIf r.2.2.1 (tk_msgIf (decide (r.2.1 = 1)) u).2).2).1⟩, (tk_dataIf r.2.2.2 (tk_numIf r.2.2.1 (tk_msgIf (decide (r.2.1 = 1)) u).2).2).2) := rfl
set_option maxHeartbeats 6400000 in
set_option maxRecDepth 100000 in
theorem script_event.calls (g N : Nat) (t : Tk) (w w0 : World) (h : TkSt g N t w) (hT : ScTab w0) (hw0 : Below w0.heap.size w0 w) (hg0 : w0.heap.size ≤ g) :
    Calls Tryd.prog 27 #[.pointer (some ⟨g, 0, none⟩)] w fun e w' => (∃ cs, e = .returned (.agg cs.toArray) ∧ EvAt w' w.heap.size w'.heap.size (tk_event t).1 cs) ∧ TkSt g N (tk_event t).2 w' ∧ w.grownBy w' (some g) := by
  have HS := Aside0.mk h
  have HT := Aside0.mk hT
  have H0 := Aside0.mk hw0
  have HB0 := Aside0.mk hg0
  have hE : tk_event t = match sc_row (tk_word t).1 with | none => (⟨0, 0, sc_msg0, []⟩, ((tk_word t).2.1, true)) | some r => tk_rest r (tk_word t).2 := rfl
  have hsz := h.1
  have HN := Aside0.mk hsz
  clear h hT hw0 hg0 hsz
  obtain ⟨W1, hW1⟩ : ∃ W, w.alloc (.cells #[.int .u8 0, .int .i64 0, .slice none 0 0, .slice none 0 0, .slice none 0 0, .slice none 0 0] 47) = W := ⟨_, rfl⟩
  have hbw : Below w.heap.size w W1 := by rw [← hW1]; exact below_alloc (Below.refl _ _) _
  have HBW := Aside0.mk hbw
  have HE0 := Aside0.mk (show W1.heap[w.heap.size]? = some (.cells #[.int .u8 0, .int .i64 0, .slice none 0 0, .slice none 0 0, .slice none 0 0, .slice none 0 0] 47 (0, 0)) by rw [← hW1]; exact heap_alloc_new _ _)
  have HW := Aside0.mk (taker_word.calls g N t W1 (HS.out.below hbw))
  obtain ⟨x, hx⟩ : ∃ x, (tk_word t).1 = x := ⟨_, rfl⟩
  obtain ⟨u, hu⟩ : ∃ u, (tk_word t).2 = u := ⟨_, rfl⟩
  rw [hx, hu] at hE HW
  obtain ⟨E, hEE⟩ : ∃ E, tk_event t = E := ⟨_, rfl⟩
  rw [hEE] at hE ⊢
  have HEQ := Aside0.mk hE
  clear hE hEE hx hu hbw
  obtain ⟨b0, hb0⟩ : ∃ b, w.heap.size = b := ⟨_, rfl⟩
  go_enter Tryd.func27, Tryd.ntmps27
  go_upto_region 1 with (fail)
  (try rw [hW1])
  clear hW1
  go_upto_region 2 with (go_at_call 44; refine HW.out.mono ?_; rintro e w1 ⟨rfl, ht, hg⟩; have HT1 := Aside0.mk ht; have HG1 := Aside0.mk hg; clear ht hg)
  go_wp2_with (go_at_call 17; refine (script_rows.calls _).mono ?_; rintro e w2 ⟨rfl, hz⟩; have HT2 := Aside0.mk (HT1.out.below hz); have HG2 := Aside0.mk (tk_fr_below HG1.out hz HG1.out.size); clear hz)
  obtain ⟨W2, hW2⟩ : ∃ W, w2 = W := ⟨_, rfl⟩
  rw [hW2] at HT2 HG2 ⊢
  clear hW2
  have HNB := Aside0.mk (show g < N ∧ N ≤ b0 by rw [← hb0]; exact HN.out)
  have HE2 := Aside0.mk (show W2.heap[b0]? = some (.cells #[.int .u8 0, .int .i64 0, .slice none 0 0, .slice none 0 0, .slice none 0 0, .slice none 0 0] 47 (0, 0)) from (HG2.out.block b0 (tk_lt (by rw [← hb0]; exact HE0.out)) (by have := HNB.out; simp; omega)).trans (by rw [← hb0]; exact HE0.out))
  have HF2 := Aside0.mk (show w.grownBy W2 (some g) from tk_fr_same (tk_fr_below (World.grownBy.refl w (some g)) HBW.out (Nat.le_refl _)) HG2.out)
  go_loopw [9] (fun v9 wr => ∃ j : Nat, j ≤ 9 ∧ v9 = .int .i64 (j : Int) ∧ Aside0 (sc_row x = (sc_rows.drop j).find? (fun r => decide (r.1 = x))) ∧ Aside0 (Below W2.heap.size W2 wr)) (fun v9 _ => 9 - (intOf v9).toNat)
  case atStart => exact ⟨0, by omega, rfl, ⟨rfl⟩, ⟨Below.refl _ _⟩⟩
  case round =>
    obtain ⟨j, hj, rfl, HJ, HBr⟩ := hrel
    by_cases hj9 : j < 9
    · obtain ⟨r, hr⟩ : ∃ r, sc_rows[j]? = some r := ⟨_, List.getElem?_eq_getElem (show j < sc_rows.length from hj9)⟩
      have hix := tk_index_row j r hr
      have hdrop : sc_rows.drop j = r :: sc_rows.drop (j + 1) := by
        obtain ⟨h1, h2⟩ := List.getElem?_eq_some_iff.1 hr
        rw [List.drop_eq_getElem_cons h1, h2]
      have HDR := Aside0.mk hdrop
      have HMEM := Aside0.mk (List.mem_of_getElem? hr)
      have hjz : (j : Int) < 9 := by omega
      obtain ⟨r0, rk, rn, rd⟩ := r
      simp only at hix
      clear hr hdrop
      by_cases hx0 : r0 = x
      · have e1 : (r0.toList == x.toList) = true := by rw [hx0]; simp
        subst hx0
        have HR := Aside0.mk (show sc_row r0 = some (r0, rk, rn, rd) by rw [HJ.out, HDR.out, List.find?_cons]; simp)
        go_upto_region 6 with (fail)
        obtain ⟨W5, hW5⟩ : ∃ W, wr.alloc (.cells #[.string r0, .int .u8 rk, .bool rn, .bool rd] 53) = W := ⟨_, rfl⟩
        obtain ⟨B5, hB5⟩ : ∃ B, wr.heap.size = B := ⟨_, rfl⟩
        have hb5 : Below W2.heap.size W2 W5 := by rw [← hW5]; exact below_then HBr.out HBr.out.size (below_alloc (Below.refl _ _) _)
        have EV5 := Aside0.mk (show EvSt g N b0 B5 (r0, rk, rn, rd) u #[.int .u8 0, .int .i64 0, .slice none 0 0, .slice none 0 0, .slice none 0 0, .slice none 0 0] w W5 from
          ⟨HT2.out.below hb5, (hb5.block b0 (tk_lt HE2.out)).trans HE2.out, by rw [← hW5, ← hB5]; exact heap_alloc_new _ _, tk_fr_below HF2.out hb5 HF2.out.size, HNB.out.2, by rw [← hB5]; exact Nat.lt_of_lt_of_le (tk_lt HE2.out) HBr.out.size, Nat.le_of_eq hb0⟩)
        (try rw [hW5, hB5])
        (try rw [hW5])
        (try rw [hB5])
        clear hW5 hB5 hb5
        have x1o : W5.cell? ⟨B5, 1, none⟩ = some (.int .u8 rk) := (blk_cell EV5.out.r 1).trans rfl
        have zzo : W5.cell? ⟨b0, 0, none⟩ = some (.int .u8 0) := (blk_cell EV5.out.e 0).trans rfl
        have yyo : W5.frozen? ⟨b0, 0, none⟩ = false := blk_frozen EV5.out.e 0
        go_upto_region 7 with (fail)
        obtain ⟨W6, hW6⟩ : ∃ W, W5.setCell ⟨b0, 0, none⟩ (.int .u8 rk) = W := ⟨_, rfl⟩
        have EV6 := Aside0.mk (EV5.out.set 0 (.int .u8 rk))
        rw [hW6] at EV6
        (try rw [hW6])
        clear hW6 x1o zzo yyo EV5 HE2 HF2 HT2 HE0 HW HG1 HT1 HG2
        have hrest := tk_rest_eq (r0, rk, rn, rd) u
        have hmem := HMEM.out
        have HX := Aside0.mk (show E = tk_rest (r0, rk, rn, rd) u by rw [HEQ.out, HR.out])
        clear hmem
        by_cases hk1 : rk = 1
        · subst hk1
          have hnd : rn = false ∧ rd = false := by
            have hm := HMEM.out
            simp only [sc_rows, List.mem_cons, List.not_mem_nil, or_false, Prod.mk.injEq] at hm
            rcases hm with h | h | h | h | h | h | h | h | h <;> simp_all
          obtain ⟨rfl, rfl⟩ := hnd
          simp only [decide_true, tk_msgIf, tk_numIf, tk_dataIf, if_true, Bool.false_eq_true, if_false] at hrest
          obtain ⟨F1, hF1⟩ : ∃ F, tk_fields sc_f u.1.length u [] = F := ⟨_, rfl⟩
          obtain ⟨B1, hB1⟩ : ∃ F, tk_body F1.2 = F := ⟨_, rfl⟩
          obtain ⟨F2, hF2⟩ : ∃ F, tk_fields sc_t B1.2.1.length B1.2 [] = F := ⟨_, rfl⟩
          have hmsg : tk_msg u = (⟨F1.1, B1.1, F2.1⟩, F2.2) := by unfold tk_msg; rw [hF1, hB1, hF2]
          rw [hmsg] at hrest
          have PF1 := fun W (hW : TkSt g N u W) => taker_fields.calls g N sc_f u W hW
          rw [hF1] at PF1
          have PB1 := fun W (hW : TkSt g N F1.2 W) => taker_body.calls g N F1.2 W hW
          rw [hB1] at PB1
          have PF2 := fun W (hW : TkSt g N B1.2 W) => taker_fields.calls g N sc_t B1.2 W hW
          rw [hF2] at PF2
          have PF1 := Aside0.mk PF1
          have PB1 := Aside0.mk PB1
          have PF2 := Aside0.mk PF2
          rw [hrest] at HX
          clear hF1 hB1 hF2 hmsg hrest
          have x1a : W6.cell? ⟨B5, 1, none⟩ = some (.int .u8 1) := (blk_cell EV6.out.r 1).trans rfl
          have x2a : W6.cell? ⟨B5, 2, none⟩ = some (.bool false) := (blk_cell EV6.out.r 2).trans rfl
          have x3a : W6.cell? ⟨B5, 3, none⟩ = some (.bool false) := (blk_cell EV6.out.r 3).trans rfl
          go_upto_region 9 with (first | (go_at_call 45; refine (PF1.out _ EV6.out.tk).mono ?_; rintro e wa ⟨⟨A2, rfl, hrow⟩, ht, hg⟩; have EVa := Aside0.mk (EV6.out.call hg ht); have zzwa : wa.cell? ⟨b0, 2, none⟩ = some (.slice none 0 0) := (blk_cell EVa.out.e 2).trans rfl; have yywa : wa.frozen? ⟨b0, 2, none⟩ = false := blk_frozen EVa.out.e 2; have R2 := Aside0.mk (show FieldsAt wa W6.heap.size wa.heap.size A2 F1.1 from RowAt.of_clip hrow); have SZ2 := Aside0.mk hg.size; clear ht hg hrow))
          obtain ⟨Wa, hWa⟩ : ∃ W, wa.setCell ⟨b0, 2, none⟩ (.slice A2 F1.1.length F1.1.length) = W := ⟨_, rfl⟩
          have EXa := Aside0.mk (EVa.out.set 2 (.slice A2 F1.1.length F1.1.length))
          have LR2 := Aside0.mk (show g < W6.heap.size ∧ b0 < W6.heap.size from ⟨by have := EV6.out.lt; have := EV6.out.tk.1; have := tk_lt EV6.out.r; omega, by have := EV6.out.lt; have := tk_lt EV6.out.r; omega⟩)
          have R2 := Aside0.mk (R2.out.set (b := b0) (by have := LR2.out; omega) 2 (.slice A2 F1.1.length F1.1.length))
          have SZWa := Aside0.mk (show Wa.heap.size = wa.heap.size by rw [← hWa]; exact tk_set_size _ _ _)
          rw [hWa] at EXa R2
          (try rw [hWa])
          clear hWa
          have x1Wa : Wa.cell? ⟨B5, 1, none⟩ = some (.int .u8 1) := (blk_cell EXa.out.r 1).trans rfl
          have x2Wa : Wa.cell? ⟨B5, 2, none⟩ = some (.bool false) := (blk_cell EXa.out.r 2).trans rfl
          have x3Wa : Wa.cell? ⟨B5, 3, none⟩ = some (.bool false) := (blk_cell EXa.out.r 3).trans rfl
          go_upto_region 10 with (first | (go_at_call 46; refine (PB1.out _ EXa.out.tk).mono ?_; rintro e wb ⟨⟨A3, rfl, hrow⟩, ht, hg⟩; have EVb := Aside0.mk (EXa.out.call hg ht); have zzwb : wb.cell? ⟨b0, 3, none⟩ = some (.slice none 0 0) := (blk_cell EVb.out.e 3).trans rfl; have yywb : wb.frozen? ⟨b0, 3, none⟩ = false := blk_frozen EVb.out.e 3; have R2 := Aside0.mk (R2.out.call hg (by have := LR2.out; omega)); have R3 := Aside0.mk (show BytesAt wb Wa.heap.size wb.heap.size A3 B1.1 from hrow); have SZ3 := Aside0.mk hg.size; clear ht hg hrow))
          obtain ⟨Wb, hWb⟩ : ∃ W, wb.setCell ⟨b0, 3, none⟩ (.slice A3 B1.1.length B1.1.length) = W := ⟨_, rfl⟩
          have EXb := Aside0.mk (EVb.out.set 3 (.slice A3 B1.1.length B1.1.length))
          have LR3 := Aside0.mk (show g < Wa.heap.size ∧ b0 < Wa.heap.size from ⟨by have := EXa.out.lt; have := EXa.out.tk.1; have := tk_lt EXa.out.r; omega, by have := EXa.out.lt; have := tk_lt EXa.out.r; omega⟩)
          have R2 := Aside0.mk (R2.out.set (b := b0) (by have := LR2.out; omega) 3 (.slice A3 B1.1.length B1.1.length))
          have R3 := Aside0.mk (R3.out.set (b := b0) (by have := LR3.out; omega) 3 (.slice A3 B1.1.length B1.1.length))
          have SZWb := Aside0.mk (show Wb.heap.size = wb.heap.size by rw [← hWb]; exact tk_set_size _ _ _)
          rw [hWb] at EXb R2 R3
          (try rw [hWb])
          clear hWb
          have x1Wb : Wb.cell? ⟨B5, 1, none⟩ = some (.int .u8 1) := (blk_cell EXb.out.r 1).trans rfl
          have x2Wb : Wb.cell? ⟨B5, 2, none⟩ = some (.bool false) := (blk_cell EXb.out.r 2).trans rfl
          have x3Wb : Wb.cell? ⟨B5, 3, none⟩ = some (.bool false) := (blk_cell EXb.out.r 3).trans rfl
          go_upto_region 11 with (first | (go_at_call 45; refine (PF2.out _ EXb.out.tk).mono ?_; rintro e wc ⟨⟨A4, rfl, hrow⟩, ht, hg⟩; have EVc := Aside0.mk (EXb.out.call hg ht); have zzwc : wc.cell? ⟨b0, 4, none⟩ = some (.slice none 0 0) := (blk_cell EVc.out.e 4).trans rfl; have yywc : wc.frozen? ⟨b0, 4, none⟩ = false := blk_frozen EVc.out.e 4; have R2 := Aside0.mk (R2.out.call hg (by have := LR2.out; omega)); have R3 := Aside0.mk (R3.out.call hg (by have := LR3.out; omega)); have R4 := Aside0.mk (show FieldsAt wc Wb.heap.size wc.heap.size A4 F2.1 from RowAt.of_clip hrow); have SZ4 := Aside0.mk hg.size; clear ht hg hrow))
          obtain ⟨Wc, hWc⟩ : ∃ W, wc.setCell ⟨b0, 4, none⟩ (.slice A4 F2.1.length F2.1.length) = W := ⟨_, rfl⟩
          have EXc := Aside0.mk (EVc.out.set 4 (.slice A4 F2.1.length F2.1.length))
          have LR4 := Aside0.mk (show g < Wb.heap.size ∧ b0 < Wb.heap.size from ⟨by have := EXb.out.lt; have := EXb.out.tk.1; have := tk_lt EXb.out.r; omega, by have := EXb.out.lt; have := tk_lt EXb.out.r; omega⟩)
          have R2 := Aside0.mk (R2.out.set (b := b0) (by have := LR2.out; omega) 4 (.slice A4 F2.1.length F2.1.length))
          have R3 := Aside0.mk (R3.out.set (b := b0) (by have := LR3.out; omega) 4 (.slice A4 F2.1.length F2.1.length))
          have R4 := Aside0.mk (R4.out.set (b := b0) (by have := LR4.out; omega) 4 (.slice A4 F2.1.length F2.1.length))
          have SZWc := Aside0.mk (show Wc.heap.size = wc.heap.size by rw [← hWc]; exact tk_set_size _ _ _)
          rw [hWc] at EXc R2 R3 R4
          (try rw [hWc])
          clear hWc
          have x1Wc : Wc.cell? ⟨B5, 1, none⟩ = some (.int .u8 1) := (blk_cell EXc.out.r 1).trans rfl
          have x2Wc : Wc.cell? ⟨B5, 2, none⟩ = some (.bool false) := (blk_cell EXc.out.r 2).trans rfl
          have x3Wc : Wc.cell? ⟨B5, 3, none⟩ = some (.bool false) := (blk_cell EXc.out.r 3).trans rfl
          have zzf0 : Wc.cell? ⟨b0, 0, none⟩ = some (.int .u8 1) := (blk_cell EXc.out.e 0).trans rfl
          have yyf0 : Wc.frozen? ⟨b0, 0, none⟩ = false := blk_frozen EXc.out.e 0
          have zzf1 : Wc.cell? ⟨b0, 1, none⟩ = some (.int .i64 0) := (blk_cell EXc.out.e 1).trans rfl
          have yyf1 : Wc.frozen? ⟨b0, 1, none⟩ = false := blk_frozen EXc.out.e 1
          have zzf2 : Wc.cell? ⟨b0, 2, none⟩ = some (.slice A2 F1.1.length F1.1.length) := (blk_cell EXc.out.e 2).trans rfl
          have yyf2 : Wc.frozen? ⟨b0, 2, none⟩ = false := blk_frozen EXc.out.e 2
          have zzf3 : Wc.cell? ⟨b0, 3, none⟩ = some (.slice A3 B1.1.length B1.1.length) := (blk_cell EXc.out.e 3).trans rfl
          have yyf3 : Wc.frozen? ⟨b0, 3, none⟩ = false := blk_frozen EXc.out.e 3
          have zzf4 : Wc.cell? ⟨b0, 4, none⟩ = some (.slice A4 F2.1.length F2.1.length) := (blk_cell EXc.out.e 4).trans rfl
          have yyf4 : Wc.frozen? ⟨b0, 4, none⟩ = false := blk_frozen EXc.out.e 4
          have zzf5 : Wc.cell? ⟨b0, 5, none⟩ = some (.slice none 0 0) := (blk_cell EXc.out.e 5).trans rfl
          have yyf5 : Wc.frozen? ⟨b0, 5, none⟩ = false := blk_frozen EXc.out.e 5
          go_wp2_with (fail)
          have EVZ := EvSt.back EXc.out
          have hgz := tk_back_grown Wc b0 (.int .u8 1) (.int .i64 0) (.slice A2 F1.1.length F1.1.length) (.slice A3 B1.1.length B1.1.length) (.slice A4 F2.1.length F2.1.length) (.slice none 0 0)
          refine bodyPost_ret (results_cell_row rfl _ _ b0 47 #[.int .u8 1, .int .i64 0, .slice A2 F1.1.length F1.1.length, .slice A3 B1.1.length B1.1.length, .slice A4 F2.1.length F2.1.length, .slice none 0 0] (0, 0) _ rfl EVZ.e Tryd.underlying47 rfl (by kernel_rfl)) rfl ?_
          rw [HX.out]
          have r2 := R2.out.call hgz LR2.out.2
          have r3 := R3.out.call hgz LR3.out.2
          have r4 := R4.out.call hgz LR4.out.2
          have s2 := SZ2.out; have s3 := SZ3.out; have s4 := SZ4.out; have t2 := SZWa.out; have t3 := SZWb.out; have t4 := SZWc.out; have t5 := hgz.size
          exact ⟨⟨[.int .u8 1, .int .i64 0, .slice A2 F1.1.length F1.1.length, .slice A3 B1.1.length B1.1.length, .slice A4 F2.1.length F2.1.length, .slice none 0 0], rfl, wa.heap.size, wb.heap.size, wc.heap.size, A2, A3, A4, none, by have := EV6.out.fr.size; omega, by omega, by omega, by omega, rfl, RowAt.wide r2 EV6.out.fr.size (Nat.le_refl _), RowAt.wide r3 (by omega) (Nat.le_refl _), RowAt.wide r4 (by omega) (Nat.le_refl _), RowAt.nil _ _ _ _ _⟩, EVZ.tk, EVZ.fr⟩
        · have hk1b : (rk == 1) = false := beq_false_of_ne hk1
          have hdk : decide (rk = 1) = false := decide_eq_false hk1
          simp only [hdk, tk_msgIf, Bool.false_eq_true, if_false] at hrest
          clear hdk hk1
          cases rn with
          | true =>
            cases rd with
            | true =>
              simp only [tk_numIf, tk_dataIf, if_true, Bool.false_eq_true, if_false] at hrest
              obtain ⟨NN, hNN⟩ : ∃ F, tk_number u = F := ⟨_, rfl⟩
              rw [hNN] at hrest
              have PN := Aside0.mk (show ∀ W, TkSt g N u W → w.grownBy W (some g) → Calls Tryd.prog 47 #[.pointer (some ⟨g, 0, none⟩)] W fun e w' => e = .returned (.int .i64 NN.1) ∧ TkSt g N NN.2 w' ∧ W.grownBy w' (some g) from fun W hW hf => by rw [← hNN]; exact taker_number.calls g N u W w0 hW HT.out (H0.out.grown hf H0.out.size (fun k hk => by injection hk with hk; have := HB0.out; omega)) HB0.out)
              clear hNN
              obtain ⟨DD, hDD⟩ : ∃ F, tk_hex NN.2 = F := ⟨_, rfl⟩
              rw [hDD] at hrest
              have PD := Aside0.mk (show ∀ W, TkSt g N NN.2 W → Calls Tryd.prog 49 #[.pointer (some ⟨g, 0, none⟩)] W fun e w' => e = .returned (.string DD.1) ∧ TkSt g N DD.2 w' ∧ W.grownBy w' (some g) from fun W hW => by rw [← hDD]; exact taker_hex.calls g N _ W hW)
              have PDZ := Aside0.mk (show ∀ W, TkSt g N NN.2 W → DD.1.size ≤ 4294967280 from fun W hW => by rw [← hDD]; exact tk_hex_size g N _ W hW)
              have hcv := tk_conv DD.1
              have HIL := Aside0.mk (show (sc_ints DD.1).length = DD.1.size from bytesOf_length DD.1)
              clear hDD
              rw [hrest] at HX
              clear hrest
              have x1a : W6.cell? ⟨B5, 1, none⟩ = some (.int .u8 rk) := (blk_cell EV6.out.r 1).trans rfl
              have x2a : W6.cell? ⟨B5, 2, none⟩ = some (.bool true) := (blk_cell EV6.out.r 2).trans rfl
              have x3a : W6.cell? ⟨B5, 3, none⟩ = some (.bool true) := (blk_cell EV6.out.r 3).trans rfl
              go_upto_region 13 with (first | (go_at_call 47; refine (PN.out _ EV6.out.tk EV6.out.fr).mono ?_; rintro e wa ⟨rfl, ht, hg⟩; have EVa := Aside0.mk (EV6.out.call hg ht); have zzwa : wa.cell? ⟨b0, 1, none⟩ = some (.int .i64 0) := (blk_cell EVa.out.e 1).trans rfl; have yywa : wa.frozen? ⟨b0, 1, none⟩ = false := blk_frozen EVa.out.e 1; clear ht hg))
              obtain ⟨Wa, hWa⟩ : ∃ W, wa.setCell ⟨b0, 1, none⟩ (.int .i64 NN.1) = W := ⟨_, rfl⟩
              have EXa := Aside0.mk (EVa.out.set 1 (.int .i64 NN.1))
              have SZWa := Aside0.mk (show Wa.heap.size = wa.heap.size by rw [← hWa]; exact tk_set_size _ _ _)
              rw [hWa] at EXa
              (try rw [hWa])
              clear hWa
              have x1Wa : Wa.cell? ⟨B5, 1, none⟩ = some (.int .u8 rk) := (blk_cell EXa.out.r 1).trans rfl
              have x2Wa : Wa.cell? ⟨B5, 2, none⟩ = some (.bool true) := (blk_cell EXa.out.r 2).trans rfl
              have x3Wa : Wa.cell? ⟨B5, 3, none⟩ = some (.bool true) := (blk_cell EXa.out.r 3).trans rfl
              go_upto_region 15 with (first | (go_at_call 49; refine (PD.out _ EXa.out.tk).mono ?_; rintro e wd ⟨rfl, ht, hg⟩; have EVd0 := Aside0.mk (EXa.out.call hg ht); have HDZ := PDZ.out _ EXa.out.tk; have hbb := Lib.bytesWorld_below wd 5 DD.1; have EVd := Aside0.mk (EVd0.out.below hbb); have zzd : (Lib.bytesWorld wd 5 DD.1).cell? ⟨b0, 5, none⟩ = some (.slice none 0 0) := (blk_cell EVd.out.e 5).trans rfl; have yyd : (Lib.bytesWorld wd 5 DD.1).frozen? ⟨b0, 5, none⟩ = false := blk_frozen EVd.out.e 5; have R5 := Aside0.mk (show BytesAt (Lib.bytesWorld wd 5 DD.1) Wa.heap.size (Lib.bytesWorld wd 5 DD.1).heap.size (some ⟨wd.heap.size, 0, none⟩) (sc_ints DD.1) from (RowAt.of_bytes wd DD.1 HDZ).wide hg.size (Nat.le_refl _)); have SZ5 := Aside0.mk (Nat.le_trans hg.size hbb.size); clear ht hg hbb) | (go_at_call 48; refine (clip_bytes.calls _ DD.1.size _ _ (sc_cap_le _ _) (by omega)).mono ?_; rintro e w4 ⟨rfl, rfl⟩))
              obtain ⟨Wd, hWd⟩ : ∃ W, (Lib.bytesWorld wd 5 DD.1).setCell ⟨b0, 5, none⟩ (.slice (some ⟨wd.heap.size, 0, none⟩) DD.1.size DD.1.size) = W := ⟨_, rfl⟩
              have EXd := Aside0.mk (EVd.out.set 5 (.slice (some ⟨wd.heap.size, 0, none⟩) DD.1.size DD.1.size))
              have LR5 := Aside0.mk (show g < Wa.heap.size ∧ b0 < Wa.heap.size from ⟨by have := EXa.out.lt; have := EXa.out.tk.1; have := tk_lt EXa.out.r; omega, by have := EXa.out.lt; have := tk_lt EXa.out.r; omega⟩)
              have R5 := Aside0.mk (R5.out.set (b := b0) (by have := LR5.out; omega) 5 (.slice (some ⟨wd.heap.size, 0, none⟩) DD.1.size DD.1.size))
              have SZWd := Aside0.mk (show Wd.heap.size = (Lib.bytesWorld wd 5 DD.1).heap.size by rw [← hWd]; exact tk_set_size _ _ _)
              rw [hWd] at EXd R5
              (try rw [hWd])
              clear hWd
              have x1Wd : Wd.cell? ⟨B5, 1, none⟩ = some (.int .u8 rk) := (blk_cell EXd.out.r 1).trans rfl
              have x2Wd : Wd.cell? ⟨B5, 2, none⟩ = some (.bool true) := (blk_cell EXd.out.r 2).trans rfl
              have x3Wd : Wd.cell? ⟨B5, 3, none⟩ = some (.bool true) := (blk_cell EXd.out.r 3).trans rfl
              have zzf0 : Wd.cell? ⟨b0, 0, none⟩ = some (.int .u8 rk) := (blk_cell EXd.out.e 0).trans rfl
              have yyf0 : Wd.frozen? ⟨b0, 0, none⟩ = false := blk_frozen EXd.out.e 0
              have zzf1 : Wd.cell? ⟨b0, 1, none⟩ = some (.int .i64 NN.1) := (blk_cell EXd.out.e 1).trans rfl
              have yyf1 : Wd.frozen? ⟨b0, 1, none⟩ = false := blk_frozen EXd.out.e 1
              have zzf2 : Wd.cell? ⟨b0, 2, none⟩ = some (.slice none 0 0) := (blk_cell EXd.out.e 2).trans rfl
              have yyf2 : Wd.frozen? ⟨b0, 2, none⟩ = false := blk_frozen EXd.out.e 2
              have zzf3 : Wd.cell? ⟨b0, 3, none⟩ = some (.slice none 0 0) := (blk_cell EXd.out.e 3).trans rfl
              have yyf3 : Wd.frozen? ⟨b0, 3, none⟩ = false := blk_frozen EXd.out.e 3
              have zzf4 : Wd.cell? ⟨b0, 4, none⟩ = some (.slice none 0 0) := (blk_cell EXd.out.e 4).trans rfl
              have yyf4 : Wd.frozen? ⟨b0, 4, none⟩ = false := blk_frozen EXd.out.e 4
              have zzf5 : Wd.cell? ⟨b0, 5, none⟩ = some (.slice (some ⟨wd.heap.size, 0, none⟩) DD.1.size DD.1.size) := (blk_cell EXd.out.e 5).trans rfl
              have yyf5 : Wd.frozen? ⟨b0, 5, none⟩ = false := blk_frozen EXd.out.e 5
              go_wp2_with (fail)
              have EVZ := EvSt.back EXd.out
              have hgz := tk_back_grown Wd b0 (.int .u8 rk) (.int .i64 NN.1) (.slice none 0 0) (.slice none 0 0) (.slice none 0 0) (.slice (some ⟨wd.heap.size, 0, none⟩) DD.1.size DD.1.size)
              refine bodyPost_ret (results_cell_row rfl _ _ b0 47 #[.int .u8 rk, .int .i64 NN.1, .slice none 0 0, .slice none 0 0, .slice none 0 0, .slice (some ⟨wd.heap.size, 0, none⟩) DD.1.size DD.1.size] (0, 0) _ rfl EVZ.e Tryd.underlying47 rfl (by kernel_rfl)) rfl ?_
              rw [HX.out]
              have r5 := R5.out.call hgz LR5.out.2
              have t5 := hgz.size
              have t6 := SZWd.out
              have s5 := SZ5.out
              have fsz := EXa.out.fr.size
              exact ⟨⟨[.int .u8 rk, .int .i64 NN.1, .slice none 0 0, .slice none 0 0, .slice none 0 0, .slice (some ⟨wd.heap.size, 0, none⟩) DD.1.size DD.1.size], rfl, Wa.heap.size, Wa.heap.size, Wa.heap.size, none, none, none, (some ⟨wd.heap.size, 0, none⟩), by omega, Nat.le_refl _, Nat.le_refl _, by omega, by (rw [HIL.out]; rfl), RowAt.nil _ _ _ _ _, RowAt.nil _ _ _ _ _, RowAt.nil _ _ _ _ _, RowAt.wide r5 (Nat.le_refl _) (by omega)⟩, EVZ.tk, EVZ.fr⟩
            | false =>
              simp only [tk_numIf, tk_dataIf, if_true, Bool.false_eq_true, if_false] at hrest
              obtain ⟨NN, hNN⟩ : ∃ F, tk_number u = F := ⟨_, rfl⟩
              rw [hNN] at hrest
              have PN := Aside0.mk (show ∀ W, TkSt g N u W → w.grownBy W (some g) → Calls Tryd.prog 47 #[.pointer (some ⟨g, 0, none⟩)] W fun e w' => e = .returned (.int .i64 NN.1) ∧ TkSt g N NN.2 w' ∧ W.grownBy w' (some g) from fun W hW hf => by rw [← hNN]; exact taker_number.calls g N u W w0 hW HT.out (H0.out.grown hf H0.out.size (fun k hk => by injection hk with hk; have := HB0.out; omega)) HB0.out)
              clear hNN
              rw [hrest] at HX
              clear hrest
              have x1a : W6.cell? ⟨B5, 1, none⟩ = some (.int .u8 rk) := (blk_cell EV6.out.r 1).trans rfl
              have x2a : W6.cell? ⟨B5, 2, none⟩ = some (.bool true) := (blk_cell EV6.out.r 2).trans rfl
              have x3a : W6.cell? ⟨B5, 3, none⟩ = some (.bool false) := (blk_cell EV6.out.r 3).trans rfl
              go_upto_region 13 with (first | (go_at_call 47; refine (PN.out _ EV6.out.tk EV6.out.fr).mono ?_; rintro e wa ⟨rfl, ht, hg⟩; have EVa := Aside0.mk (EV6.out.call hg ht); have zzwa : wa.cell? ⟨b0, 1, none⟩ = some (.int .i64 0) := (blk_cell EVa.out.e 1).trans rfl; have yywa : wa.frozen? ⟨b0, 1, none⟩ = false := blk_frozen EVa.out.e 1; clear ht hg))
              obtain ⟨Wa, hWa⟩ : ∃ W, wa.setCell ⟨b0, 1, none⟩ (.int .i64 NN.1) = W := ⟨_, rfl⟩
              have EXa := Aside0.mk (EVa.out.set 1 (.int .i64 NN.1))
              have SZWa := Aside0.mk (show Wa.heap.size = wa.heap.size by rw [← hWa]; exact tk_set_size _ _ _)
              rw [hWa] at EXa
              (try rw [hWa])
              clear hWa
              have x1Wa : Wa.cell? ⟨B5, 1, none⟩ = some (.int .u8 rk) := (blk_cell EXa.out.r 1).trans rfl
              have x2Wa : Wa.cell? ⟨B5, 2, none⟩ = some (.bool true) := (blk_cell EXa.out.r 2).trans rfl
              have x3Wa : Wa.cell? ⟨B5, 3, none⟩ = some (.bool false) := (blk_cell EXa.out.r 3).trans rfl
              have zzf0 : Wa.cell? ⟨b0, 0, none⟩ = some (.int .u8 rk) := (blk_cell EXa.out.e 0).trans rfl
              have yyf0 : Wa.frozen? ⟨b0, 0, none⟩ = false := blk_frozen EXa.out.e 0
              have zzf1 : Wa.cell? ⟨b0, 1, none⟩ = some (.int .i64 NN.1) := (blk_cell EXa.out.e 1).trans rfl
              have yyf1 : Wa.frozen? ⟨b0, 1, none⟩ = false := blk_frozen EXa.out.e 1
              have zzf2 : Wa.cell? ⟨b0, 2, none⟩ = some (.slice none 0 0) := (blk_cell EXa.out.e 2).trans rfl
              have yyf2 : Wa.frozen? ⟨b0, 2, none⟩ = false := blk_frozen EXa.out.e 2
              have zzf3 : Wa.cell? ⟨b0, 3, none⟩ = some (.slice none 0 0) := (blk_cell EXa.out.e 3).trans rfl
              have yyf3 : Wa.frozen? ⟨b0, 3, none⟩ = false := blk_frozen EXa.out.e 3
              have zzf4 : Wa.cell? ⟨b0, 4, none⟩ = some (.slice none 0 0) := (blk_cell EXa.out.e 4).trans rfl
              have yyf4 : Wa.frozen? ⟨b0, 4, none⟩ = false := blk_frozen EXa.out.e 4
              have zzf5 : Wa.cell? ⟨b0, 5, none⟩ = some (.slice none 0 0) := (blk_cell EXa.out.e 5).trans rfl
              have yyf5 : Wa.frozen? ⟨b0, 5, none⟩ = false := blk_frozen EXa.out.e 5
              go_wp2_with (fail)
              have EVZ := EvSt.back EXa.out
              have hgz := tk_back_grown Wa b0 (.int .u8 rk) (.int .i64 NN.1) (.slice none 0 0) (.slice none 0 0) (.slice none 0 0) (.slice none 0 0)
              refine bodyPost_ret (results_cell_row rfl _ _ b0 47 #[.int .u8 rk, .int .i64 NN.1, .slice none 0 0, .slice none 0 0, .slice none 0 0, .slice none 0 0] (0, 0) _ rfl EVZ.e Tryd.underlying47 rfl (by kernel_rfl)) rfl ?_
              rw [HX.out]
              have t5 := hgz.size
              have fsz := EXa.out.fr.size
              exact ⟨⟨[.int .u8 rk, .int .i64 NN.1, .slice none 0 0, .slice none 0 0, .slice none 0 0, .slice none 0 0], rfl, Wa.heap.size, Wa.heap.size, Wa.heap.size, none, none, none, none, fsz, Nat.le_refl _, Nat.le_refl _, t5, rfl, RowAt.nil _ _ _ _ _, RowAt.nil _ _ _ _ _, RowAt.nil _ _ _ _ _, RowAt.nil _ _ _ _ _⟩, EVZ.tk, EVZ.fr⟩
          | false =>
            cases rd with
            | true =>
              simp only [tk_numIf, tk_dataIf, if_true, Bool.false_eq_true, if_false] at hrest
              obtain ⟨DD, hDD⟩ : ∃ F, tk_hex u = F := ⟨_, rfl⟩
              rw [hDD] at hrest
              have PD := Aside0.mk (show ∀ W, TkSt g N u W → Calls Tryd.prog 49 #[.pointer (some ⟨g, 0, none⟩)] W fun e w' => e = .returned (.string DD.1) ∧ TkSt g N DD.2 w' ∧ W.grownBy w' (some g) from fun W hW => by rw [← hDD]; exact taker_hex.calls g N _ W hW)
              have PDZ := Aside0.mk (show ∀ W, TkSt g N u W → DD.1.size ≤ 4294967280 from fun W hW => by rw [← hDD]; exact tk_hex_size g N _ W hW)
              have hcv := tk_conv DD.1
              have HIL := Aside0.mk (show (sc_ints DD.1).length = DD.1.size from bytesOf_length DD.1)
              clear hDD
              rw [hrest] at HX
              clear hrest
              have x1a : W6.cell? ⟨B5, 1, none⟩ = some (.int .u8 rk) := (blk_cell EV6.out.r 1).trans rfl
              have x2a : W6.cell? ⟨B5, 2, none⟩ = some (.bool false) := (blk_cell EV6.out.r 2).trans rfl
              have x3a : W6.cell? ⟨B5, 3, none⟩ = some (.bool true) := (blk_cell EV6.out.r 3).trans rfl
              go_upto_region 15 with (first | (go_at_call 49; refine (PD.out _ EV6.out.tk).mono ?_; rintro e wd ⟨rfl, ht, hg⟩; have EVd0 := Aside0.mk (EV6.out.call hg ht); have HDZ := PDZ.out _ EV6.out.tk; have hbb := Lib.bytesWorld_below wd 5 DD.1; have EVd := Aside0.mk (EVd0.out.below hbb); have zzd : (Lib.bytesWorld wd 5 DD.1).cell? ⟨b0, 5, none⟩ = some (.slice none 0 0) := (blk_cell EVd.out.e 5).trans rfl; have yyd : (Lib.bytesWorld wd 5 DD.1).frozen? ⟨b0, 5, none⟩ = false := blk_frozen EVd.out.e 5; have R5 := Aside0.mk (show BytesAt (Lib.bytesWorld wd 5 DD.1) W6.heap.size (Lib.bytesWorld wd 5 DD.1).heap.size (some ⟨wd.heap.size, 0, none⟩) (sc_ints DD.1) from (RowAt.of_bytes wd DD.1 HDZ).wide hg.size (Nat.le_refl _)); have SZ5 := Aside0.mk (Nat.le_trans hg.size hbb.size); clear ht hg hbb) | (go_at_call 48; refine (clip_bytes.calls _ DD.1.size _ _ (sc_cap_le _ _) (by omega)).mono ?_; rintro e w4 ⟨rfl, rfl⟩))
              obtain ⟨Wd, hWd⟩ : ∃ W, (Lib.bytesWorld wd 5 DD.1).setCell ⟨b0, 5, none⟩ (.slice (some ⟨wd.heap.size, 0, none⟩) DD.1.size DD.1.size) = W := ⟨_, rfl⟩
              have EXd := Aside0.mk (EVd.out.set 5 (.slice (some ⟨wd.heap.size, 0, none⟩) DD.1.size DD.1.size))
              have LR5 := Aside0.mk (show g < W6.heap.size ∧ b0 < W6.heap.size from ⟨by have := EV6.out.lt; have := EV6.out.tk.1; have := tk_lt EV6.out.r; omega, by have := EV6.out.lt; have := tk_lt EV6.out.r; omega⟩)
              have R5 := Aside0.mk (R5.out.set (b := b0) (by have := LR5.out; omega) 5 (.slice (some ⟨wd.heap.size, 0, none⟩) DD.1.size DD.1.size))
              have SZWd := Aside0.mk (show Wd.heap.size = (Lib.bytesWorld wd 5 DD.1).heap.size by rw [← hWd]; exact tk_set_size _ _ _)
              rw [hWd] at EXd R5
              (try rw [hWd])
              clear hWd
              have x1Wd : Wd.cell? ⟨B5, 1, none⟩ = some (.int .u8 rk) := (blk_cell EXd.out.r 1).trans rfl
              have x2Wd : Wd.cell? ⟨B5, 2, none⟩ = some (.bool false) := (blk_cell EXd.out.r 2).trans rfl
              have x3Wd : Wd.cell? ⟨B5, 3, none⟩ = some (.bool true) := (blk_cell EXd.out.r 3).trans rfl
              have zzf0 : Wd.cell? ⟨b0, 0, none⟩ = some (.int .u8 rk) := (blk_cell EXd.out.e 0).trans rfl
              have yyf0 : Wd.frozen? ⟨b0, 0, none⟩ = false := blk_frozen EXd.out.e 0
              have zzf1 : Wd.cell? ⟨b0, 1, none⟩ = some (.int .i64 0) := (blk_cell EXd.out.e 1).trans rfl
              have yyf1 : Wd.frozen? ⟨b0, 1, none⟩ = false := blk_frozen EXd.out.e 1
              have zzf2 : Wd.cell? ⟨b0, 2, none⟩ = some (.slice none 0 0) := (blk_cell EXd.out.e 2).trans rfl
              have yyf2 : Wd.frozen? ⟨b0, 2, none⟩ = false := blk_frozen EXd.out.e 2
              have zzf3 : Wd.cell? ⟨b0, 3, none⟩ = some (.slice none 0 0) := (blk_cell EXd.out.e 3).trans rfl
              have yyf3 : Wd.frozen? ⟨b0, 3, none⟩ = false := blk_frozen EXd.out.e 3
              have zzf4 : Wd.cell? ⟨b0, 4, none⟩ = some (.slice none 0 0) := (blk_cell EXd.out.e 4).trans rfl
              have yyf4 : Wd.frozen? ⟨b0, 4, none⟩ = false := blk_frozen EXd.out.e 4
              have zzf5 : Wd.cell? ⟨b0, 5, none⟩ = some (.slice (some ⟨wd.heap.size, 0, none⟩) DD.1.size DD.1.size) := (blk_cell EXd.out.e 5).trans rfl
              have yyf5 : Wd.frozen? ⟨b0, 5, none⟩ = false := blk_frozen EXd.out.e 5
              go_wp2_with (fail)
              have EVZ := EvSt.back EXd.out
              have hgz := tk_back_grown Wd b0 (.int .u8 rk) (.int .i64 0) (.slice none 0 0) (.slice none 0 0) (.slice none 0 0) (.slice (some ⟨wd.heap.size, 0, none⟩) DD.1.size DD.1.size)
              refine bodyPost_ret (results_cell_row rfl _ _ b0 47 #[.int .u8 rk, .int .i64 0, .slice none 0 0, .slice none 0 0, .slice none 0 0, .slice (some ⟨wd.heap.size, 0, none⟩) DD.1.size DD.1.size] (0, 0) _ rfl EVZ.e Tryd.underlying47 rfl (by kernel_rfl)) rfl ?_
              rw [HX.out]
              have r5 := R5.out.call hgz LR5.out.2
              have t5 := hgz.size
              have t6 := SZWd.out
              have s5 := SZ5.out
              have fsz := EV6.out.fr.size
              exact ⟨⟨[.int .u8 rk, .int .i64 0, .slice none 0 0, .slice none 0 0, .slice none 0 0, .slice (some ⟨wd.heap.size, 0, none⟩) DD.1.size DD.1.size], rfl, W6.heap.size, W6.heap.size, W6.heap.size, none, none, none, (some ⟨wd.heap.size, 0, none⟩), by omega, Nat.le_refl _, Nat.le_refl _, by omega, by (rw [HIL.out]; rfl), RowAt.nil _ _ _ _ _, RowAt.nil _ _ _ _ _, RowAt.nil _ _ _ _ _, RowAt.wide r5 (Nat.le_refl _) (by omega)⟩, EVZ.tk, EVZ.fr⟩
            | false =>
              simp only [tk_numIf, tk_dataIf, if_true, Bool.false_eq_true, if_false] at hrest
              rw [hrest] at HX
              clear hrest
              have x1a : W6.cell? ⟨B5, 1, none⟩ = some (.int .u8 rk) := (blk_cell EV6.out.r 1).trans rfl
              have x2a : W6.cell? ⟨B5, 2, none⟩ = some (.bool false) := (blk_cell EV6.out.r 2).trans rfl
              have x3a : W6.cell? ⟨B5, 3, none⟩ = some (.bool false) := (blk_cell EV6.out.r 3).trans rfl
              have zzf0 : W6.cell? ⟨b0, 0, none⟩ = some (.int .u8 rk) := (blk_cell EV6.out.e 0).trans rfl
              have yyf0 : W6.frozen? ⟨b0, 0, none⟩ = false := blk_frozen EV6.out.e 0
              have zzf1 : W6.cell? ⟨b0, 1, none⟩ = some (.int .i64 0) := (blk_cell EV6.out.e 1).trans rfl
              have yyf1 : W6.frozen? ⟨b0, 1, none⟩ = false := blk_frozen EV6.out.e 1
              have zzf2 : W6.cell? ⟨b0, 2, none⟩ = some (.slice none 0 0) := (blk_cell EV6.out.e 2).trans rfl
              have yyf2 : W6.frozen? ⟨b0, 2, none⟩ = false := blk_frozen EV6.out.e 2
              have zzf3 : W6.cell? ⟨b0, 3, none⟩ = some (.slice none 0 0) := (blk_cell EV6.out.e 3).trans rfl
              have yyf3 : W6.frozen? ⟨b0, 3, none⟩ = false := blk_frozen EV6.out.e 3
              have zzf4 : W6.cell? ⟨b0, 4, none⟩ = some (.slice none 0 0) := (blk_cell EV6.out.e 4).trans rfl
              have yyf4 : W6.frozen? ⟨b0, 4, none⟩ = false := blk_frozen EV6.out.e 4
              have zzf5 : W6.cell? ⟨b0, 5, none⟩ = some (.slice none 0 0) := (blk_cell EV6.out.e 5).trans rfl
              have yyf5 : W6.frozen? ⟨b0, 5, none⟩ = false := blk_frozen EV6.out.e 5
              go_wp2_with (fail)
              have EVZ := EvSt.back EV6.out
              have hgz := tk_back_grown W6 b0 (.int .u8 rk) (.int .i64 0) (.slice none 0 0) (.slice none 0 0) (.slice none 0 0) (.slice none 0 0)
              refine bodyPost_ret (results_cell_row rfl _ _ b0 47 #[.int .u8 rk, .int .i64 0, .slice none 0 0, .slice none 0 0, .slice none 0 0, .slice none 0 0] (0, 0) _ rfl EVZ.e Tryd.underlying47 rfl (by kernel_rfl)) rfl ?_
              rw [HX.out]
              have t5 := hgz.size
              have fsz := EV6.out.fr.size
              exact ⟨⟨[.int .u8 rk, .int .i64 0, .slice none 0 0, .slice none 0 0, .slice none 0 0, .slice none 0 0], rfl, W6.heap.size, W6.heap.size, W6.heap.size, none, none, none, none, fsz, Nat.le_refl _, Nat.le_refl _, t5, rfl, RowAt.nil _ _ _ _ _, RowAt.nil _ _ _ _ _, RowAt.nil _ _ _ _ _, RowAt.nil _ _ _ _ _⟩, EVZ.tk, EVZ.fr⟩
      · have e1 : (r0.toList == x.toList) = false := beq_false_of_ne (fun e => hx0 (sc_data_inj (by rw [← Lib.toList_data, ← Lib.toList_data]; exact e)))
        have HJ1 := Aside0.mk (show sc_row x = (sc_rows.drop (j + 1)).find? (fun r => decide (r.1 = x)) by rw [HJ.out, HDR.out, List.find?_cons]; simp [hx0])
        go_wp2_with (fail)
        go_roundw
        case rel => exact ⟨j + 1, by omega, by go_num, HJ1, ⟨below_then HBr.out HBr.out.size (below_alloc (Below.refl _ _) _)⟩⟩
        case measure => simp [intOf]; omega
    · have hd : sc_rows.drop j = [] := List.drop_eq_nil_of_le (by have : sc_rows.length = 9 := rfl; omega)
      have HR := Aside0.mk (show sc_row x = none by rw [HJ.out, hd]; rfl)
      clear hd
      have HTr := Aside0.mk (HT2.out.below HBr.out)
      have HEr := Aside0.mk ((HBr.out.block b0 (tk_lt HE2.out)).trans HE2.out)
      have HFr := Aside0.mk (tk_fr_below HF2.out HBr.out HF2.out.size)
      have HX := Aside0.mk (show E = (⟨0, 0, sc_msg0, []⟩, (u.1, true)) by rw [HEQ.out, HR.out])
      have c1 : wr.cell? ⟨g, 1, none⟩ = some (.bool u.2) := (by obtain ⟨A, c, hb⟩ := (TkSt.cells HTr.out); exact (blk_cell hb 1).trans rfl)
      have f1 : wr.frozen? ⟨g, 1, none⟩ = false := (by obtain ⟨A, c, hb⟩ := (TkSt.cells HTr.out); exact blk_frozen hb 1)
      go_upto_region 18 with (fail)
      obtain ⟨W7, hW7⟩ : ∃ W, wr.setCell ⟨g, 1, none⟩ (.bool true) = W := ⟨_, rfl⟩
      have HT7 := Aside0.mk (HTr.out.bad true)
      have HE7 := Aside0.mk (show (wr.setCell ⟨g, 1, none⟩ (.bool true)).heap[b0]? = _ from ((tk_grown1 wr g 1 (.bool true)).block b0 (tk_lt HEr.out) (by have := HNB.out; simp; omega)).trans HEr.out)
      have HF7 := Aside0.mk (tk_fr_same HFr.out (tk_grown1 wr g 1 (.bool true)))
      rw [hW7] at HT7 HE7 HF7
      (try rw [hW7])
      clear hW7 c1 f1
      have zz0 : W7.cell? ⟨b0, 0, none⟩ = some (.int .u8 0) := (blk_cell HE7.out 0).trans rfl
      have yy0 : W7.frozen? ⟨b0, 0, none⟩ = false := blk_frozen HE7.out 0
      have zz1 : W7.cell? ⟨b0, 1, none⟩ = some (.int .i64 0) := (blk_cell HE7.out 1).trans rfl
      have yy1 : W7.frozen? ⟨b0, 1, none⟩ = false := blk_frozen HE7.out 1
      have zz2 : W7.cell? ⟨b0, 2, none⟩ = some (.slice none 0 0) := (blk_cell HE7.out 2).trans rfl
      have yy2 : W7.frozen? ⟨b0, 2, none⟩ = false := blk_frozen HE7.out 2
      have zz3 : W7.cell? ⟨b0, 3, none⟩ = some (.slice none 0 0) := (blk_cell HE7.out 3).trans rfl
      have yy3 : W7.frozen? ⟨b0, 3, none⟩ = false := blk_frozen HE7.out 3
      have zz4 : W7.cell? ⟨b0, 4, none⟩ = some (.slice none 0 0) := (blk_cell HE7.out 4).trans rfl
      have yy4 : W7.frozen? ⟨b0, 4, none⟩ = false := blk_frozen HE7.out 4
      have zz5 : W7.cell? ⟨b0, 5, none⟩ = some (.slice none 0 0) := (blk_cell HE7.out 5).trans rfl
      have yy5 : W7.frozen? ⟨b0, 5, none⟩ = false := blk_frozen HE7.out 5
      go_wp2_with (fail)
      have hgz := tk_back_grown W7 b0 (.int .u8 0) (.int .i64 0) (.slice none 0 0) (.slice none 0 0) (.slice none 0 0) (.slice none 0 0)
      have hez := tk_back_same HE7.out
      refine bodyPost_ret (results_cell_row rfl _ _ b0 47 #[.int .u8 0, .int .i64 0, .slice none 0 0, .slice none 0 0, .slice none 0 0, .slice none 0 0] (0, 0) _ rfl hez Tryd.underlying47 rfl (by kernel_rfl)) rfl ?_
      rw [HX.out]
      have hb := HNB.out
      have fsz := HF7.out.size
      have t5 := hgz.size
      exact ⟨⟨[.int .u8 0, .int .i64 0, .slice none 0 0, .slice none 0 0, .slice none 0 0, .slice none 0 0], rfl, W7.heap.size, W7.heap.size, W7.heap.size, none, none, none, none, fsz, Nat.le_refl _, Nat.le_refl _, t5, rfl, RowAt.nil _ _ _ _ _, RowAt.nil _ _ _ _ _, RowAt.nil _ _ _ _ _, RowAt.nil _ _ _ _ _⟩, HT7.out.grown hgz (fun k hk => by injection hk with hk; omega), tk_fr_new HF7.out hgz (fun k hk => by injection hk with hk; omega)⟩
end Go.Proofs.YtegmbihjjhhpmaaDoor.T
namespace Go.Proofs.YtegmbihjjhhpmaaDoor.T
open Go.RowKit Go.Proofs.YtegmbihjjhhpmaaDoorW.PrintWords Go.Proofs.YtegmbihjjhhpmaaDoorW.PrintLast Go.Proofs.YtegmbihjjhhpmaaDoorW.PrintMore
open Go.Proofs.YtegmbihjjhhpmaaDoor.PSC
set_option linter.unusedVariables false
set_option linter.unusedSimpArgs false
/-! ### script.rule (made by wip/gen_rule.py) -/
def RuAt (w : World) (lo hi : Nat) (x : S51) (cs : List Value) : Prop := ∃ m1 A3 A4, lo ≤ m1 ∧ m1 ≤ hi ∧ cs = [.string x.f0, .string x.f1, .int .i64 x.f2, .slice A3 x.f3.length x.f3.length, .slice A4 x.f4.length x.f4.length, .bool x.f5] ∧ FieldsAt w lo m1 A3 x.f3 ∧ BytesAt w m1 hi A4 x.f4
theorem RuAt.keep {w w' : World} {lo hi : Nat} {x : S51} {cs : List Value} (h : RuAt w lo hi x cs) (ho : ∀ k, lo ≤ k → k < hi → w'.heap[k]? = w.heap[k]?) : RuAt w' lo hi x cs := by
  obtain ⟨m1, A3, A4, h1, h2, rfl, f1, f2⟩ := h
  exact ⟨m1, A3, A4, h1, h2, rfl, f1.keep (fun k a b => ho k (by omega) (by omega)), f2.keep (fun k a b => ho k (by omega) (by omega))⟩
structure RlSt (g N b0 : Nat) (u : Tk) (cells : Array Value) (w0 w : World) : Prop where
  tk : TkSt g N u w
  e : w.heap[b0]? = some (.cells cells 51 (0, 0))
  fr : w0.grownBy w (some g)
  lt : N ≤ b0 ∧ w0.heap.size ≤ b0
section
variable {g N b0 : Nat} {u u1 : Tk} {cells : Array Value} {w0 w w1 : World}
theorem RlSt.call (h : RlSt g N b0 u cells w0 w) (hg : w.grownBy w1 (some g)) (ht : TkSt g N u1 w1) : RlSt g N b0 u1 cells w0 w1 := by
  have h1 := h.lt
  have h2 := h.tk.1
  exact ⟨ht, (hg.block b0 (tk_lt h.e) (by simp; omega)).trans h.e, tk_fr_same h.fr hg, h1⟩
theorem RlSt.set (h : RlSt g N b0 u cells w0 w) (i : Nat) (v : Value) : RlSt g N b0 u (cells.setIfInBounds i v) w0 (w.setCell ⟨b0, i, none⟩ v) := by
  have h1 := h.lt
  have h2 := h.tk.1
  obtain ⟨s1, s2⟩ := tk_store1 i v h.e
  exact ⟨h.tk.keep (by simp [World.setCell]) (fun k hk => s2 k (by omega)), s1, tk_fr_new h.fr (tk_grown1 w b0 i v) (fun k hk => by injection hk with hk; omega), h1⟩
theorem RlSt.bad (h : RlSt g N b0 u cells w0 w) (b : Bool) : RlSt g N b0 (u.1, b) cells w0 (w.setCell ⟨g, 1, none⟩ (.bool b)) := h.call (tk_grown1 _ _ _ _) (h.tk.bad b)
theorem RlSt.back {a b c d e f : Value} (h : RlSt g N b0 u #[a, b, c, d, e, f] w0 w) : RlSt g N b0 u #[a, b, c, d, e, f] w0 ((((((w.setCell ⟨b0, 0, none⟩ a).setCell ⟨b0, 1, none⟩ b).setCell ⟨b0, 2, none⟩ c).setCell ⟨b0, 3, none⟩ d).setCell ⟨b0, 4, none⟩ e).setCell ⟨b0, 5, none⟩ f) :=
  (((((h.set 0 a).set 1 b).set 2 c).set 3 d).set 4 e).set 5 f
end
set_option maxHeartbeats 6400000 in
set_option maxRecDepth 100000 in
theorem script_rule.calls (g N : Nat) (t : Tk) (w w0 : World) (h : TkSt g N t w) (hT : ScTab w0) (hw0 : Below w0.heap.size w0 w) (hg0 : w0.heap.size ≤ g) :
    Calls Tryd.prog 33 #[.pointer (some ⟨g, 0, none⟩)] w fun e w' => (∃ cs, e = .returned (.agg cs.toArray) ∧ RuAt w' w.heap.size w'.heap.size (tk_rule t).1 cs) ∧ TkSt g N (tk_rule t).2 w' ∧ w.grownBy w' (some g) := by
  have HS := Aside0.mk h
  have HT := Aside0.mk hT
  have H0 := Aside0.mk hw0
  have HB0 := Aside0.mk hg0
  have HN := Aside0.mk h.1
  obtain ⟨E, hE⟩ : ∃ E, tk_rule t = E := ⟨_, rfl⟩
  rw [hE]
  obtain ⟨W1, hW1⟩ : ∃ W, w.alloc (.cells #[.string ⟨#[]⟩, .string ⟨#[]⟩, .int .i64 0, .slice none 0 0, .slice none 0 0, .bool false] 51) = W := ⟨_, rfl⟩
  have hbw : Below w.heap.size w W1 := by rw [← hW1]; exact below_alloc (Below.refl _ _) _
  obtain ⟨b0, hb0⟩ : ∃ b, w.heap.size = b := ⟨_, rfl⟩
  have RV1 := Aside0.mk (show RlSt g N b0 t #[.string ⟨#[]⟩, .string ⟨#[]⟩, .int .i64 0, .slice none 0 0, .slice none 0 0, .bool false] w W1 from ⟨h.below hbw, by rw [← hW1, ← hb0]; exact heap_alloc_new _ _, tk_fr_below (World.grownBy.refl w (some g)) hbw (Nat.le_refl _), by rw [← hb0]; exact h.1.2, Nat.le_of_eq hb0⟩)
  have HW := Aside0.mk (taker_word.calls g N t W1 (h.below hbw))
  unfold tk_rule tk_rule1 at hE
  obtain ⟨x, hx⟩ : ∃ x, (tk_word t).1 = x := ⟨_, rfl⟩
  obtain ⟨u, hu⟩ : ∃ u, (tk_word t).2 = u := ⟨_, rfl⟩
  rw [hx, hu] at HW
  rw [hx, hu] at hE
  obtain ⟨u0, hu0⟩ : ∃ u0 : Tk, ((u.1, !decide (x = sc_rule)) : Tk) = u0 := ⟨_, rfl⟩
  rw [hu0] at hE
  obtain ⟨X1, hX1⟩ : ∃ X, tk_hex u0 = X := ⟨_, rfl⟩
  rw [hX1] at hE
  obtain ⟨X2, hX2⟩ : ∃ X, tk_hex X1.2 = X := ⟨_, rfl⟩
  rw [hX2] at hE
  obtain ⟨X3, hX3⟩ : ∃ X, tk_number X2.2 = X := ⟨_, rfl⟩
  rw [hX3] at hE
  obtain ⟨X4, hX4⟩ : ∃ X, tk_fields sc_f X3.2.1.length X3.2 [] = X := ⟨_, rfl⟩
  rw [hX4] at hE
  obtain ⟨X5, hX5⟩ : ∃ X, tk_body X4.2 = X := ⟨_, rfl⟩
  rw [hX5] at hE
  obtain ⟨X6, hX6⟩ : ∃ X, tk_is sc_echo X5.2 = X := ⟨_, rfl⟩
  rw [hX6] at hE
  have HE := Aside0.mk hE.symm
  have P1 := Aside0.mk (show ∀ W, TkSt g N u0 W → Calls Tryd.prog 49 #[.pointer (some ⟨g, 0, none⟩)] W fun e w' => e = .returned (.string X1.1) ∧ TkSt g N X1.2 w' ∧ W.grownBy w' (some g) from fun W hW => by rw [← hX1]; exact taker_hex.calls g N _ W hW)
  have P2 := Aside0.mk (show ∀ W, TkSt g N X1.2 W → Calls Tryd.prog 49 #[.pointer (some ⟨g, 0, none⟩)] W fun e w' => e = .returned (.string X2.1) ∧ TkSt g N X2.2 w' ∧ W.grownBy w' (some g) from fun W hW => by rw [← hX2]; exact taker_hex.calls g N _ W hW)
  have P3 := Aside0.mk (show ∀ W, TkSt g N X2.2 W → w.grownBy W (some g) → Calls Tryd.prog 47 #[.pointer (some ⟨g, 0, none⟩)] W fun e w' => e = .returned (.int .i64 X3.1) ∧ TkSt g N X3.2 w' ∧ W.grownBy w' (some g) from fun W hW hf => by rw [← hX3]; exact taker_number.calls g N _ W w0 hW HT.out (H0.out.grown hf H0.out.size (fun k hk => by injection hk with hk; have := HB0.out; omega)) HB0.out)
  have P4 := fun W (hW : TkSt g N X3.2 W) => taker_fields.calls g N sc_f X3.2 W hW
  rw [hX4] at P4
  have P4 := Aside0.mk P4
  have P5 := fun W (hW : TkSt g N X4.2 W) => taker_body.calls g N X4.2 W hW
  rw [hX5] at P5
  have P5 := Aside0.mk P5
  have P6 := Aside0.mk (show ∀ W, TkSt g N X5.2 W → Calls Tryd.prog 54 #[.pointer (some ⟨g, 0, none⟩), .string sc_echo] W fun e w' => e = .returned (.bool X6.1) ∧ TkSt g N X6.2 w' ∧ W.grownBy w' (some g) from fun W hW => by rw [← hX6]; exact taker_is.calls g N sc_echo _ W hW)
  have HU0 := Aside0.mk hu0.symm
  clear hE h hT hw0 hg0 hbw hx hu hu0 hX1 hX2 hX3 hX4 hX5 hX6
  have EQ : ∃ b, (x.toList == [114, 117, 108, 101]) = b ∧ u0 = (u.1, !b) := by
    refine ⟨decide (x = sc_rule), ?_, HU0.out⟩
    by_cases h : x = sc_rule
    · rw [decide_eq_true h, h]; rw [Lib.toList_data]; rfl
    · rw [decide_eq_false h]
      exact beq_false_of_ne (fun e => h (sc_data_inj (by rw [Lib.toList_data] at e; exact e)))
  obtain ⟨b, hb, hu0⟩ := EQ
  have HU := Aside0.mk hu0
  clear hu0 HU0
  go_enter Tryd.func33, Tryd.ntmps33
  go_upto_region 1 with (fail)
  (try rw [hW1])
  clear hW1
  go_upto_region 2 with (go_at_call 44; refine HW.out.mono ?_; rintro e w1 ⟨rfl, ht, hg⟩; have c1 : w1.cell? ⟨g, 1, none⟩ = some (.bool u.2) := (by obtain ⟨A, c, hb⟩ := (TkSt.cells ht); exact (blk_cell hb 1).trans rfl); have f1 : w1.frozen? ⟨g, 1, none⟩ = false := (by obtain ⟨A, c, hb⟩ := (TkSt.cells ht); exact blk_frozen hb 1); have RW1 := Aside0.mk (RV1.out.call hg ht); clear ht hg)
  have RV2 := Aside0.mk (RW1.out.bad (!b))
  rw [← HU.out] at RV2
  obtain ⟨W2, hW2⟩ : ∃ W, w1.setCell ⟨g, 1, none⟩ (.bool (!b)) = W := ⟨_, rfl⟩
  rw [hW2] at RV2
  (try rw [hW2])
  clear hW2 c1 f1 RW1
  go_upto_region 3 with (first | (go_at_call 49; refine (P2.out _ RVa.out.tk).mono ?_; rintro e wb ⟨rfl, ht, hg⟩; have RVb := Aside0.mk (RVa.out.call hg ht); have zzwb0 : wb.cell? ⟨b0, 0, none⟩ = some (.string ⟨#[]⟩) := (blk_cell RVb.out.e 0).trans rfl; have yywb0 : wb.frozen? ⟨b0, 0, none⟩ = false := blk_frozen RVb.out.e 0; have zzwb1 : wb.cell? ⟨b0, 1, none⟩ = some (.string ⟨#[]⟩) := (blk_cell RVb.out.e 1).trans rfl; have yywb1 : wb.frozen? ⟨b0, 1, none⟩ = false := blk_frozen RVb.out.e 1; clear ht hg) | (go_at_call 49; refine (P1.out _ RV2.out.tk).mono ?_; rintro e wa ⟨rfl, ht, hg⟩; have RVa := Aside0.mk (RV2.out.call hg ht); clear ht hg))
  obtain ⟨Wb, hWb⟩ : ∃ W, ((wb.setCell ⟨b0, 0, none⟩ (.string X1.1)).setCell ⟨b0, 1, none⟩ (.string X2.1)) = W := ⟨_, rfl⟩
  have RXb := Aside0.mk ((RVb.out.set 0 (.string X1.1)).set 1 (.string X2.1))
  have SZWb := Aside0.mk (show Wb.heap.size = wb.heap.size by rw [← hWb]; simp only [tk_set_size])
  rw [hWb] at RXb
  (try rw [hWb])
  clear hWb
  go_upto_region 4 with (first | (go_at_call 47; refine (P3.out _ RXb.out.tk RXb.out.fr).mono ?_; rintro e wc ⟨rfl, ht, hg⟩; have RVc := Aside0.mk (RXb.out.call hg ht); have zzwc2 : wc.cell? ⟨b0, 2, none⟩ = some (.int .i64 0) := (blk_cell RVc.out.e 2).trans rfl; have yywc2 : wc.frozen? ⟨b0, 2, none⟩ = false := blk_frozen RVc.out.e 2; clear ht hg))
  obtain ⟨Wc, hWc⟩ : ∃ W, (wc.setCell ⟨b0, 2, none⟩ (.int .i64 X3.1)) = W := ⟨_, rfl⟩
  have RXc := Aside0.mk (RVc.out.set 2 (.int .i64 X3.1))
  have SZWc := Aside0.mk (show Wc.heap.size = wc.heap.size by rw [← hWc]; simp only [tk_set_size])
  rw [hWc] at RXc
  (try rw [hWc])
  clear hWc
  go_upto_region 5 with (first | (go_at_call 45; refine (P4.out _ RXc.out.tk).mono ?_; rintro e wd ⟨⟨A3, rfl, hrow⟩, ht, hg⟩; have RVd := Aside0.mk (RXc.out.call hg ht); have zzwd3 : wd.cell? ⟨b0, 3, none⟩ = some (.slice none 0 0) := (blk_cell RVd.out.e 3).trans rfl; have yywd3 : wd.frozen? ⟨b0, 3, none⟩ = false := blk_frozen RVd.out.e 3; have R3 := Aside0.mk (show FieldsAt wd Wc.heap.size wd.heap.size A3 X4.1 from RowAt.of_clip hrow); have SZ3 := Aside0.mk hg.size; clear ht hg hrow))
  obtain ⟨Wd, hWd⟩ : ∃ W, (wd.setCell ⟨b0, 3, none⟩ (.slice A3 X4.1.length X4.1.length)) = W := ⟨_, rfl⟩
  have RXd := Aside0.mk (RVd.out.set 3 (.slice A3 X4.1.length X4.1.length))
  have LR3 := Aside0.mk (show g < Wc.heap.size ∧ b0 < Wc.heap.size from ⟨by have := RXc.out.lt; have := RXc.out.tk.1; have := tk_lt RXc.out.e; omega, tk_lt RXc.out.e⟩)
  have R3 := Aside0.mk (R3.out.set (b := b0) (by have := LR3.out; omega) 3 (.slice A3 X4.1.length X4.1.length))
  have SZWd := Aside0.mk (show Wd.heap.size = wd.heap.size by rw [← hWd]; simp only [tk_set_size])
  rw [hWd] at RXd R3
  (try rw [hWd])
  clear hWd
  go_upto_region 6 with (first | (go_at_call 46; refine (P5.out _ RXd.out.tk).mono ?_; rintro e we ⟨⟨A4, rfl, hrow⟩, ht, hg⟩; have RVe := Aside0.mk (RXd.out.call hg ht); have zzwe4 : we.cell? ⟨b0, 4, none⟩ = some (.slice none 0 0) := (blk_cell RVe.out.e 4).trans rfl; have yywe4 : we.frozen? ⟨b0, 4, none⟩ = false := blk_frozen RVe.out.e 4; have R3 := Aside0.mk (R3.out.call hg (by have := LR3.out; omega)); have R4 := Aside0.mk (show BytesAt we Wd.heap.size we.heap.size A4 X5.1 from hrow); have SZ4 := Aside0.mk hg.size; clear ht hg hrow))
  obtain ⟨We, hWe⟩ : ∃ W, (we.setCell ⟨b0, 4, none⟩ (.slice A4 X5.1.length X5.1.length)) = W := ⟨_, rfl⟩
  have RXe := Aside0.mk (RVe.out.set 4 (.slice A4 X5.1.length X5.1.length))
  have LR4 := Aside0.mk (show g < Wd.heap.size ∧ b0 < Wd.heap.size from ⟨by have := RXd.out.lt; have := RXd.out.tk.1; have := tk_lt RXd.out.e; omega, tk_lt RXd.out.e⟩)
  have R3 := Aside0.mk (R3.out.set (b := b0) (by have := LR3.out; omega) 4 (.slice A4 X5.1.length X5.1.length))
  have R4 := Aside0.mk (R4.out.set (b := b0) (by have := LR4.out; omega) 4 (.slice A4 X5.1.length X5.1.length))
  have SZWe := Aside0.mk (show We.heap.size = we.heap.size by rw [← hWe]; simp only [tk_set_size])
  rw [hWe] at RXe R3 R4
  (try rw [hWe])
  clear hWe
  go_upto_region 7 with (first | (go_at_call 54; refine (P6.out _ RXe.out.tk).mono ?_; rintro e wf ⟨rfl, ht, hg⟩; have RVf := Aside0.mk (RXe.out.call hg ht); have zzwf5 : wf.cell? ⟨b0, 5, none⟩ = some (.bool false) := (blk_cell RVf.out.e 5).trans rfl; have yywf5 : wf.frozen? ⟨b0, 5, none⟩ = false := blk_frozen RVf.out.e 5; have R3 := Aside0.mk (R3.out.call hg (by have := LR3.out; omega)); have R4 := Aside0.mk (R4.out.call hg (by have := LR4.out; omega)); have SZ5 := Aside0.mk hg.size; clear ht hg))
  obtain ⟨Wf, hWf⟩ : ∃ W, (wf.setCell ⟨b0, 5, none⟩ (.bool X6.1)) = W := ⟨_, rfl⟩
  have RXf := Aside0.mk (RVf.out.set 5 (.bool X6.1))
  have R3 := Aside0.mk (R3.out.set (b := b0) (by have := LR3.out; omega) 5 (.bool X6.1))
  have R4 := Aside0.mk (R4.out.set (b := b0) (by have := LR4.out; omega) 5 (.bool X6.1))
  have SZWf := Aside0.mk (show Wf.heap.size = wf.heap.size by rw [← hWf]; simp only [tk_set_size])
  rw [hWf] at RXf R3 R4
  (try rw [hWf])
  clear hWf
  have zf0 : Wf.cell? ⟨b0, 0, none⟩ = some (.string X1.1) := (blk_cell RXf.out.e 0).trans rfl
  have yf0 : Wf.frozen? ⟨b0, 0, none⟩ = false := blk_frozen RXf.out.e 0
  have zf1 : Wf.cell? ⟨b0, 1, none⟩ = some (.string X2.1) := (blk_cell RXf.out.e 1).trans rfl
  have yf1 : Wf.frozen? ⟨b0, 1, none⟩ = false := blk_frozen RXf.out.e 1
  have zf2 : Wf.cell? ⟨b0, 2, none⟩ = some (.int .i64 X3.1) := (blk_cell RXf.out.e 2).trans rfl
  have yf2 : Wf.frozen? ⟨b0, 2, none⟩ = false := blk_frozen RXf.out.e 2
  have zf3 : Wf.cell? ⟨b0, 3, none⟩ = some (.slice A3 X4.1.length X4.1.length) := (blk_cell RXf.out.e 3).trans rfl
  have yf3 : Wf.frozen? ⟨b0, 3, none⟩ = false := blk_frozen RXf.out.e 3
  have zf4 : Wf.cell? ⟨b0, 4, none⟩ = some (.slice A4 X5.1.length X5.1.length) := (blk_cell RXf.out.e 4).trans rfl
  have yf4 : Wf.frozen? ⟨b0, 4, none⟩ = false := blk_frozen RXf.out.e 4
  have zf5 : Wf.cell? ⟨b0, 5, none⟩ = some (.bool X6.1) := (blk_cell RXf.out.e 5).trans rfl
  have yf5 : Wf.frozen? ⟨b0, 5, none⟩ = false := blk_frozen RXf.out.e 5
  go_wp2_with (fail)
  have RVZ := RlSt.back RXf.out
  have hgz := tk_back_grown Wf b0 (.string X1.1) (.string X2.1) (.int .i64 X3.1) (.slice A3 X4.1.length X4.1.length) (.slice A4 X5.1.length X5.1.length) (.bool X6.1)
  refine bodyPost_ret (results_cell_row rfl _ _ b0 51 #[.string X1.1, .string X2.1, .int .i64 X3.1, .slice A3 X4.1.length X4.1.length, .slice A4 X5.1.length X5.1.length, .bool X6.1] (0, 0) _ rfl RVZ.e Tryd.underlying51 rfl (by kernel_rfl)) rfl ?_
  rw [HE.out]
  have r3 := R3.out.call hgz LR3.out.2
  have r4 := R4.out.call hgz LR4.out.2
  have s3 := SZ3.out; have s4 := SZ4.out; have s5 := SZ5.out; have t3 := SZWd.out; have t4 := SZWe.out; have t5 := SZWf.out; have t6 := hgz.size; have fsz := RXc.out.fr.size
  exact ⟨⟨[.string X1.1, .string X2.1, .int .i64 X3.1, .slice A3 X4.1.length X4.1.length, .slice A4 X5.1.length X5.1.length, .bool X6.1], rfl, wd.heap.size, A3, A4, by omega, by omega, rfl, RowAt.wide r3 fsz (Nat.le_refl _), RowAt.wide r4 (by omega) (by omega)⟩, RVZ.tk, RVZ.fr⟩
end Go.Proofs.YtegmbihjjhhpmaaDoor.T
namespace Go.Proofs.YtegmbihjjhhpmaaDoor.T
open Go.RowKit Go.Proofs.YtegmbihjjhhpmaaDoorW.PrintWords Go.Proofs.YtegmbihjjhhpmaaDoorW.PrintLast Go.Proofs.YtegmbihjjhhpmaaDoorW.PrintMore
open Go.Proofs.YtegmbihjjhhpmaaDoor.PSC
set_option linter.unusedVariables false
set_option linter.unusedSimpArgs false
/-! ### strings.Cut, strings.Split at one byte (plain) -/
theorem sc_parts (c : UInt8) : ∀ s : List UInt8, c ∉ s ∨ ∃ p r, s = p ++ c :: r ∧ c ∉ p
  | [] => .inl (by simp)
  | x :: s => by
    by_cases h : x = c
    · subst h; exact .inr ⟨[], s, rfl, by simp⟩
    · rcases sc_parts c s with h2 | ⟨p, r, rfl, h2⟩
      · exact .inl (by simp only [List.mem_cons, not_or]; exact ⟨fun e => h e.symm, h2⟩)
      · exact .inr ⟨x :: p, r, rfl, by simp only [List.mem_cons, not_or]; exact ⟨fun e => h e.symm, h2⟩⟩
theorem sc_occ (s : List UInt8) (c : UInt8) (j : Nat) : Lib.occAt s [c] j = decide (s[j]? = some c) := by
  unfold Lib.occAt
  cases hd : s.drop j with
  | nil =>
    have : s[j]? = none := by rw [List.getElem?_eq_none]; exact List.drop_eq_nil_iff.1 hd
    rw [this]
    simp
  | cons x r =>
    have : s[j]? = some x := by rw [← List.head?_drop, hd]; rfl
    rw [this]
    by_cases h : x = c
    · subst h; simp [List.isPrefixOf]
    · have h2 : ¬ c = x := fun e => h e.symm
      simp [List.isPrefixOf, h, h2]
theorem sc_index_none (s : List UInt8) (c : UInt8) (h : c ∉ s) : Lib.index s [c] = -1 := by
  rcases Lib.index_spec s [c] with ⟨h1, _⟩ | ⟨i, h1, h2, h3, _⟩
  · exact h1
  · exfalso
    rw [sc_occ] at h3
    have := of_decide_eq_true h3
    exact h (List.mem_of_getElem? this)
theorem sc_index_some (p r : List UInt8) (c : UInt8) (h : c ∉ p) : Lib.index (p ++ c :: r) [c] = (p.length : Int) := by
  have hat : (p ++ c :: r)[p.length]? = some c := by rw [List.getElem?_append_right (Nat.le_refl _)]; simp
  rcases Lib.index_spec (p ++ c :: r) [c] with ⟨h1, h2⟩ | ⟨i, h1, h2, h3, h4⟩
  · exfalso
    have := h2 p.length (by simp)
    rw [sc_occ, hat] at this
    simp at this
  · rw [sc_occ] at h3
    have h3 := of_decide_eq_true h3
    rw [h1]
    congr 1
    by_cases hlt : i < p.length
    · exfalso
      rw [List.getElem?_append_left hlt] at h3
      exact h (List.mem_of_getElem? h3)
    · by_cases hgt : p.length < i
      · exfalso
        have := h4 p.length hgt
        rw [sc_occ, hat] at this
        simp at this
      · omega
theorem sc_cut_none (s : List UInt8) (c : UInt8) (h : c ∉ s) : Lib.cut s [c] = (s, [], false) := by
  unfold Lib.cut
  rw [sc_index_none s c h, if_neg (by omega)]
theorem sc_cut_some (p r : List UInt8) (c : UInt8) (h : c ∉ p) : Lib.cut (p ++ c :: r) [c] = (p, r, true) := by
  unfold Lib.cut
  rw [sc_index_some p r c h, if_pos (by omega)]
  simp
theorem sc_splitK (c : UInt8) : ∀ (n : Nat) (s : List UInt8), s.length ≤ n → Lib.splitK [c] 0 (Lib.count s [c]) s = sc_split c s := by
  intro n
  induction n with
  | zero =>
    intro s hs
    obtain rfl : s = [] := List.eq_nil_of_length_eq_zero (by omega)
    rw [Lib.count_miss (sc_index_none [] c (by simp))]
    rfl
  | succ n ih =>
    intro s hs
    rcases sc_parts c s with h | ⟨p, r, rfl, h⟩
    · rw [Lib.count_miss (sc_index_none s c h), sc_split_one c s h]
      rfl
    · have hi := sc_index_some p r c h
      rw [Lib.count_hit (i := p.length) (by simp) hi, Nat.add_comm, Lib.splitK, hi, sc_split_app c p r h]
      have e : ((p.length : Int) == -1) = false := beq_false_of_ne (by omega)
      have hd : (p ++ c :: r).drop (p.length + [c].length) = r := by simp
      rw [if_neg (by rw [e]; simp), Int.toNat_natCast, Nat.add_zero, hd, ih r (by simp at hs; omega)]
      simp
theorem sc_split_words (s : ByteArray) : Lib.splitB ⟨#[32]⟩ 0 (Lib.countB s ⟨#[32]⟩) s = sc_words s.data.toList := by
  have h := Lib.splitB_data ⟨#[32]⟩ 0 (Lib.countB s ⟨#[32]⟩) s
  have h2 := sc_splitK 32 _ s.data.toList (Nat.le_refl _)
  have h3 : (Lib.splitB ⟨#[32]⟩ 0 (Lib.countB s ⟨#[32]⟩) s).map (·.data.toList) = sc_split 32 s.data.toList := h.trans h2
  unfold sc_words
  rw [← h3, List.map_map]
  have e : sc_b ∘ (fun x : ByteArray => x.data.toList) = id := by funext l; rfl
  rw [e, List.map_id]
theorem sc_count_len (s : ByteArray) : (sc_words s.data.toList).length = Lib.countB s ⟨#[32]⟩ + 1 := by
  have h2 : ∀ (n : Nat) (s : List UInt8), s.length ≤ n → (sc_split 32 s).length = Lib.count s [32] + 1 := by
    intro n
    induction n with
    | zero =>
      intro s hs
      obtain rfl : s = [] := List.eq_nil_of_length_eq_zero (by omega)
      rw [Lib.count_miss (sc_index_none [] 32 (by simp))]
      rfl
    | succ n ih =>
      intro s hs
      rcases sc_parts 32 s with h | ⟨p, r, rfl, h⟩
      · rw [Lib.count_miss (sc_index_none s 32 h), sc_split_one 32 s h]; rfl
      · rw [Lib.count_hit (i := p.length) (by simp) (sc_index_some p r 32 h), sc_split_app 32 p r h, List.length_cons]
        have hd : (p ++ 32 :: r).drop (p.length + [(32 : UInt8)].length) = r := by simp
        rw [hd, ih r (by simp at hs; omega)]
        omega
  unfold sc_words
  rw [List.length_map]
  exact h2 _ s.data.toList (Nat.le_refl _)
theorem sc_words_size (s : ByteArray) : ∀ x ∈ sc_words s.data.toList, x.size ≤ s.size := by
  have h : ∀ s : List UInt8, ∀ p ∈ sc_split 32 s, p.length ≤ s.length := by
    intro s
    induction s with
    | nil => intro p hp; simp [sc_split] at hp; subst hp; simp
    | cons x s ih =>
      intro p hp
      unfold sc_split at hp
      split at hp
      · rcases List.mem_cons.1 hp with rfl | hp
        · simp
        · have := ih p hp; simp; omega
      · cases h2 : sc_split 32 s with
        | nil => exact absurd h2 (sc_split_ne 32 s)
        | cons q qs =>
          rw [h2] at hp
          simp only at hp
          rcases List.mem_cons.1 hp with rfl | hp
          · have := ih q (by rw [h2]; simp); simp; omega
          · have := ih p (by rw [h2]; simp [hp]); simp; omega
  intro x hx
  unfold sc_words at hx
  rw [List.mem_map] at hx
  obtain ⟨p, hp, rfl⟩ := hx
  exact h _ p hp
end Go.Proofs.YtegmbihjjhhpmaaDoor.T
namespace Go.Proofs.YtegmbihjjhhpmaaDoor.T
open Go.RowKit Go.Proofs.YtegmbihjjhhpmaaDoorW.PrintWords Go.Proofs.YtegmbihjjhhpmaaDoorW.PrintLast Go.Proofs.YtegmbihjjhhpmaaDoorW.PrintMore
open Go.Proofs.YtegmbihjjhhpmaaDoor.PSC
set_option linter.unusedVariables false
set_option linter.unusedSimpArgs false
/-! ### script.lines (made by wip/gen_lines.py) -/
theorem RowAt.kept {α : Type} {d : Kd α} {e : Nat} {w w' : World} {lo hi : Nat} {A : Option Addr} {xs : List α} (h : RowAt d e w lo hi A xs) (hK : ∀ p c, d.K w p c → d.K w' p c) (ho : ∀ (k : Nat) (cells : Array Value) (fz : Nat × Nat), w.heap[k]? = some (Obj.cells cells e fz) → w'.heap[k]? = w.heap[k]?) : RowAt d e w' lo hi A xs := by
  obtain ⟨h1, h2⟩ := h
  refine ⟨tk_row_block h1 hK (fun ad e => ?_), fun ad e => ?_⟩
  · obtain ⟨g, cells, fz, rfl, h3, h4, h5, _⟩ := h2 ad e
    exact ho g cells fz h5
  · obtain ⟨g, cells, fz, rfl, h3, h4, h5, h6⟩ := h2 ad e
    exact ⟨g, cells, fz, rfl, h3, h4, (ho g cells fz h5).trans h5, h6⟩
/-- Every block of fields, and of bytes, is as it was. -/
def KeepFB (w w' : World) : Prop := ∀ (k : Nat) (cells : Array Value) (e : TypeId) (fz : Nat × Nat), w.heap[k]? = some (Obj.cells cells e fz) → (e = 49 ∨ e = 5) → w'.heap[k]? = w.heap[k]?
theorem FieldsAt.kept {w w' : World} {lo hi : Nat} {A : Option Addr} {xs : List S49} (h : FieldsAt w lo hi A xs) (ho : KeepFB w w') : FieldsAt w' lo hi A xs :=
  RowAt.kept h (fun p c hp => by obtain rfl := k49_open hp; exact k49_mk w' p) (fun k cells fz hk => ho k cells _ fz hk (.inl rfl))
theorem BytesAt.kept {w w' : World} {lo hi : Nat} {A : Option Addr} {xs : List Int} (h : BytesAt w lo hi A xs) (ho : KeepFB w w') : BytesAt w' lo hi A xs :=
  RowAt.kept h (fun p c (hp : c = [Value.int .u8 p]) => hp) (fun k cells fz hk => ho k cells _ fz hk (.inr rfl))
theorem EvAt.kept {w w' : World} {lo hi : Nat} {x : S47} {cs : List Value} (h : EvAt w lo hi x cs) (ho : KeepFB w w') : EvAt w' lo hi x cs := by
  obtain ⟨m1, m2, m3, A2, A3, A4, A5, h1, h2, h3, h4, rfl, f1, f2, f3, f4⟩ := h
  exact ⟨m1, m2, m3, A2, A3, A4, A5, h1, h2, h3, h4, rfl, f1.kept ho, f2.kept ho, f3.kept ho, f4.kept ho⟩
theorem RuAt.kept {w w' : World} {lo hi : Nat} {x : S51} {cs : List Value} (h : RuAt w lo hi x cs) (ho : KeepFB w w') : RuAt w' lo hi x cs := by
  obtain ⟨m1, A3, A4, h1, h2, rfl, f1, f2⟩ := h
  exact ⟨m1, A3, A4, h1, h2, rfl, f1.kept ho, f2.kept ho⟩
theorem KeepFB.of_below {w w' : World} (h : Below w.heap.size w w') : KeepFB w w' := fun k _ _ _ hk _ => h.block k (tk_lt hk)
theorem KeepFB.of_grown {w w' : World} {row : Option Nat} (h : w.grownBy w' row) (hr : ∀ k, row = some k → ∃ (cells : Array Value) (t : TypeId), w.heap[k]? = some (Obj.cells cells t (0, 0)) ∧ t ≠ 49 ∧ t ≠ 5) : KeepFB w w' := fun k cells e fz hk he => h.block k (tk_lt hk) (fun eq => by
  obtain ⟨cells2, t, h2, h3, h4⟩ := hr k eq.symm
  rw [h2] at hk
  cases hk
  rcases he with rfl | rfl
  · exact h3 rfl
  · exact h4 rfl)
/-- Elements, one behind the other, their rows in blocks lo .. hi, rising. -/
def SeqAt {α : Type} (At : Nat → Nat → α → List Value → Prop) : Nat → Nat → List α → List Value → Prop
  | lo, hi, [], cs => cs = [] ∧ lo ≤ hi
  | lo, hi, x :: l, cs => ∃ a b c1 c2, lo ≤ a ∧ a ≤ b ∧ cs = c1 ++ c2 ∧ At a b x c1 ∧ SeqAt At b hi l c2
theorem SeqAt.imp {α : Type} {At At' : Nat → Nat → α → List Value → Prop} (h : ∀ a b x c, At a b x c → At' a b x c) : ∀ {l : List α} {lo hi : Nat} {cs : List Value}, SeqAt At lo hi l cs → SeqAt At' lo hi l cs
  | [], _, _, _, h2 => h2
  | x :: l, lo, hi, cs, h2 => by
    obtain ⟨a, b, c1, c2, h3, h4, h5, h6, h7⟩ := h2
    exact ⟨a, b, c1, c2, h3, h4, h5, h _ _ _ _ h6, SeqAt.imp h h7⟩
theorem SeqAt.snoc {α : Type} {At : Nat → Nat → α → List Value → Prop} : ∀ {l : List α} {lo hi a b : Nat} {cs c : List Value} {x : α}, SeqAt At lo hi l cs → hi ≤ a → a ≤ b → At a b x c → SeqAt At lo b (l ++ [x]) (cs ++ c)
  | [], lo, hi, a, b, cs, c, x, h, h1, h2, h3 => by
    obtain ⟨rfl, h0⟩ := h
    exact ⟨a, b, c, [], Nat.le_trans h0 h1, h2, by simp, h3, rfl, Nat.le_refl _⟩
  | y :: l, lo, hi, a, b, cs, c, x, h, h1, h2, h3 => by
    obtain ⟨a1, b1, c1, c2, h4, h5, rfl, h6, h7⟩ := h
    exact ⟨a1, b1, c1, c2 ++ c, h4, h5, by simp, h6, SeqAt.snoc h7 h1 h2 h3⟩
theorem SeqAt.reps {α : Type} {At : Nat → Nat → α → List Value → Prop} {R : α → List Value → Prop} {size : Nat} (h : ∀ a b x c, At a b x c → R x c ∧ c.length = size) : ∀ {l : List α} {lo hi : Nat} {cs : List Value}, SeqAt At lo hi l cs → Reps R size l cs
  | [], _, _, _, h2 => by obtain ⟨rfl, _⟩ := h2; exact Reps.none _ _
  | x :: l, lo, hi, cs, h2 => by
    obtain ⟨a, b, c1, c2, h3, h4, rfl, h6, h7⟩ := h2
    obtain ⟨h8, h9⟩ := h _ _ _ _ h6
    exact Kd.reps_append (ps := [x]) (by have := Reps.snoc (Reps.none R size) h8 h9; simpa using this) (SeqAt.reps h h7)
theorem EvAt.K {w : World} {lo hi : Nat} {x : S47} {cs : List Value} (h : EvAt w lo hi x cs) : k47.K w x cs ∧ cs.length = 6 := by
  obtain ⟨m1, m2, m3, A2, A3, A4, A5, h1, h2, h3, h4, rfl, f1, f2, f3, f4⟩ := h
  exact ⟨k47_mk w x (Nat.le_refl _) f1.1 (Nat.le_refl _) f2.1 (Nat.le_refl _) f3.1 (Nat.le_refl _) f4.1, rfl⟩
theorem RuAt.K {w : World} {lo hi : Nat} {x : S51} {cs : List Value} (h : RuAt w lo hi x cs) : k51.K w x cs ∧ cs.length = 6 := by
  obtain ⟨m1, A3, A4, h1, h2, rfl, f1, f2⟩ := h
  exact ⟨k51_mk w x (Nat.le_refl _) f1.1 (Nat.le_refl _) f2.1, rfl⟩
/-- A list of one's own: its row, and its elements' rows. -/
def OutAt {α : Type} (At : World → Nat → Nat → α → List Value → Prop) (T : Nat) (w : World) (base : Nat) (v : Value) (l : List α) : Prop := ∃ inner hi, w.ownsRow base T 6 v l.length inner ∧ hi ≤ w.heap.size ∧ SeqAt (At w) base hi l inner
theorem OutAt.nil {α : Type} (At : World → Nat → Nat → α → List Value → Prop) (T : Nat) (w : World) (base : Nat) (hb : base ≤ w.heap.size) : OutAt At T w base (.slice none 0 0) [] := ⟨[], base, World.ownsRow_nil _ _ _ _, hb, rfl, Nat.le_refl _⟩
theorem OutAt.below {α : Type} {At : World → Nat → Nat → α → List Value → Prop} {T : Nat} {w w' : World} {base : Nat} {v : Value} {l : List α} (hk : ∀ w w' a b x c, At w a b x c → KeepFB w w' → At w' a b x c) (h : OutAt At T w base v l) (hb : Below w.heap.size w w') : OutAt At T w' base v l := by
  obtain ⟨inner, hi, h1, h2, h3⟩ := h
  exact ⟨inner, hi, pw_own_below h1 hb, Nat.le_trans h2 hb.size, SeqAt.imp (fun a b x c h => hk w w' a b x c h (KeepFB.of_below hb)) h3⟩
theorem EvAt_out {T : Nat} {w w' : World} {base : Nat} {v : Value} {l : List S47} (h : OutAt EvAt T w base v l) (hb : Below w.heap.size w w') : OutAt EvAt T w' base v l := OutAt.below (At := EvAt) (fun _ _ _ _ _ _ h k => EvAt.kept h k) h hb
theorem RuAt_out {T : Nat} {w w' : World} {base : Nat} {v : Value} {l : List S51} (h : OutAt RuAt T w base v l) (hb : Below w.heap.size w w') : OutAt RuAt T w' base v l := OutAt.below (At := RuAt) (fun _ _ _ _ _ _ h k => RuAt.kept h k) h hb
theorem OutAt.reads {α : Type} {At : World → Nat → Nat → α → List Value → Prop} {T : Nat} {d : Kd α} (hd : d.sz = 6) (hK : ∀ w a b x c, At w a b x c → d.K w x c ∧ c.length = 6) {w : World} {base c : Nat} {A : Option Addr} {l : List α} (h : OutAt At T w base (.slice A l.length c) l) : d.C w A l.length l := by
  obtain ⟨inner, hi, h1, h2, h3⟩ := h
  obtain ⟨A2, c2, e, hr⟩ := own_reads_row h1 (SeqAt.reps (fun a b x c h => hK w a b x c h) h3) rfl
  injection e with e _ _
  subst e
  unfold Kd.C
  rw [hd]
  exact hr
theorem OutAt.slice {α : Type} {At : World → Nat → Nat → α → List Value → Prop} {T : Nat} {w : World} {base : Nat} {v : Value} {l : List α} (h : OutAt At T w base v l) : ∃ A c, v = .slice A l.length c ∧ l.length ≤ c := by
  obtain ⟨inner, hi, h1, _⟩ := h
  obtain ⟨A, c, rfl⟩ := own_slice h1
  exact ⟨A, c, rfl, own_cap h1⟩
theorem sc_Cut_none (s : ByteArray) (w : World) (hs : s.size ≤ 4294967280) (hT : ScTab w) (h : (10 : UInt8) ∉ s.data.toList) : Calls Tryd.prog 41 #[.string s, .string ⟨#[10]⟩] w fun e w' => e = .returned (.tuple #[.string s, .string ⟨#[]⟩, .bool false]) ∧ Below w.heap.size w w' := by
  obtain ⟨_, _, _, m, hm⟩ := hT
  refine (Go.Proofs.Tryd.strings_Cut s ⟨#[10]⟩ m w (by omega) hm).mono ?_
  rintro e w' ⟨rfl, n, rfl⟩
  have hc := sc_cut_none s.data.toList 10 h
  refine ⟨?_, pw_below_drewN (Below.refl _ _) _⟩
  show Ending.returned (.tuple #[.string ⟨(Lib.cut s.data.toList [10]).1.toArray⟩, .string ⟨(Lib.cut s.data.toList [10]).2.1.toArray⟩, .bool (Lib.cut s.data.toList [10]).2.2]) = _
  rw [hc]
theorem sc_Cut_some (s : ByteArray) (p r : List UInt8) (w : World) (hs : s.size ≤ 4294967280) (hT : ScTab w) (h : (10 : UInt8) ∉ p) (e : s.data.toList = p ++ 10 :: r) : Calls Tryd.prog 41 #[.string s, .string ⟨#[10]⟩] w fun e w' => e = .returned (.tuple #[.string (sc_b p), .string (sc_b r), .bool true]) ∧ Below w.heap.size w w' := by
  obtain ⟨_, _, _, m, hm⟩ := hT
  refine (Go.Proofs.Tryd.strings_Cut s ⟨#[10]⟩ m w (by omega) hm).mono ?_
  rintro e w' ⟨rfl, n, rfl⟩
  have hc := sc_cut_some p r 10 h
  refine ⟨?_, pw_below_drewN (Below.refl _ _) _⟩
  show Ending.returned (.tuple #[.string ⟨(Lib.cut s.data.toList [10]).1.toArray⟩, .string ⟨(Lib.cut s.data.toList [10]).2.1.toArray⟩, .bool (Lib.cut s.data.toList [10]).2.2]) = _
  rw [e, hc]
  rfl
theorem sc_Split (s : ByteArray) (w : World) (hs : s.size ≤ 4294967280) (hT : ScTab w) : Calls Tryd.prog 42 #[.string s, .string ⟨#[32]⟩] w fun e w' => e = .returned (.slice (some ⟨w.heap.size, 0, none⟩) (sc_words s.data.toList).length (sc_words s.data.toList).length) ∧ w' = w.alloc (.cells ((sc_words s.data.toList).map Value.string).toArray 9) := by
  obtain ⟨_, _, _, m, hm⟩ := hT
  refine (Go.Proofs.Tryd.strings_Split s ⟨#[32]⟩ m w (by omega) hm (by decide)).mono ?_
  rintro e w' ⟨rfl, rfl⟩
  rw [sc_split_words, sc_count_len]
  exact ⟨rfl, rfl⟩
/-- A fresh taker over the pieces of a line. -/
theorem TkSt.fresh (s : ByteArray) (w : World) (hs : s.size ≤ 4294967280) (hl : (sc_words s.data.toList).length ≤ 4294967280) : TkSt (w.heap.size + 1) (w.heap.size + 2) (sc_words s.data.toList, false) ((w.alloc (.cells ((sc_words s.data.toList).map Value.string).toArray 9)).alloc (.cells #[.slice (some ⟨w.heap.size, 0, none⟩) (sc_words s.data.toList).length (sc_words s.data.toList).length, .bool false] 92)) := by
  have hz : (w.alloc (.cells ((sc_words s.data.toList).map Value.string).toArray 9)).heap.size = w.heap.size + 1 := by simp
  refine ⟨⟨by omega, by simp⟩, some ⟨w.heap.size, 0, none⟩, (sc_words s.data.toList).length, fun ad e => by injection e with e; subst e; simp, ?_, Nat.le_refl _, ?_, fun x hx => Nat.le_trans (sc_words_size s x hx) hs, hl⟩
  · have := heap_alloc_new (w.alloc (.cells ((sc_words s.data.toList).map Value.string).toArray 9)) (.cells #[.slice (some ⟨w.heap.size, 0, none⟩) (sc_words s.data.toList).length (sc_words s.data.toList).length, .bool false] 92)
    rw [hz] at this
    exact this
  · refine Kd.C_below (w := w.alloc (.cells ((sc_words s.data.toList).map Value.string).toArray 9)) ?_ (below_alloc (Below.refl _ _) _)
    refine ⟨rfl, (show (sc_words s.data.toList).length ≤ _ by omega), fun _ => ⟨_, rfl, fun j p hj => ⟨[.string p], rfl, rfl, fun i u hu => ?_⟩⟩⟩
    have hi : i = 0 := by
      have := (List.getElem?_eq_some_iff.1 hu).1
      simpa using this
    subst hi
    simp only [List.getElem?_cons_zero, Option.some.injEq] at hu
    subst hu
    show World.cell? _ ((⟨w.heap.size, 0, none⟩ : Addr).add (j * 1 + 0)) = _
    have ha : (⟨w.heap.size, 0, none⟩ : Addr).add (j * 1 + 0) = ⟨w.heap.size, j, none⟩ := by simp only [Addr.add]; split <;> simp_all
    rw [ha]
    unfold World.cell?
    rw [heap_alloc_new]
    simp [hj]
theorem sc_words_len (s : ByteArray) : (sc_words s.data.toList).length ≤ s.size + 1 := by
  have h : ∀ l : List UInt8, (sc_split 32 l).length ≤ l.length + 1 := by
    intro l
    induction l with
    | nil => simp [sc_split]
    | cons x l ih =>
      unfold sc_split
      split
      · simp; omega
      · cases h2 : sc_split 32 l with
        | nil => simp
        | cons q qs => rw [h2] at ih; simp at ih ⊢; omega
  unfold sc_words
  rw [List.length_map]
  exact h s.data.toList
theorem KeepFB.trans {a b c : World} (h : KeepFB a b) (k : KeepFB b c) : KeepFB a c := fun i cells e fz hi he => (k i cells e fz ((h i cells e fz hi he).trans hi) he).trans (h i cells e fz hi he)
def KeepE (T : Nat) (w w' : World) : Prop := ∀ (k : Nat) (cells : Array Value) (fz : Nat × Nat), w.heap[k]? = some (Obj.cells cells T fz) → w'.heap[k]? = w.heap[k]?
theorem KeepE.trans {T : Nat} {a b c : World} (h : KeepE T a b) (k : KeepE T b c) : KeepE T a c := fun i cells fz hi => (k i cells fz ((h i cells fz hi).trans hi)).trans (h i cells fz hi)
theorem KeepE.of_below {T : Nat} {w w' : World} (h : Below w.heap.size w w') : KeepE T w w' := fun k _ _ hk => h.block k (tk_lt hk)
theorem KeepE.of_taker {T g N : Nat} {t : Tk} {w w' : World} (ht : TkSt g N t w) (hT : T ≠ 92) (h : w.grownBy w' (some g)) : KeepE T w w' := fun k cells fz hk => h.block k (tk_lt hk) (fun e => by
  injection e with e
  subst e
  obtain ⟨A, c, hb⟩ := ht.cells
  rw [hb] at hk
  cases hk
  exact hT rfl)
theorem KeepFB.of_taker {g N : Nat} {t : Tk} {w w' : World} (ht : TkSt g N t w) (h : w.grownBy w' (some g)) : KeepFB w w' := KeepFB.of_grown h (fun k hk => by
  injection hk with hk
  subst hk
  obtain ⟨A, c, hb⟩ := ht.cells
  exact ⟨_, _, hb, by decide, by decide⟩)
theorem OutAt.pushed {α : Type} {At : World → Nat → Nat → α → List Value → Prop} {T : Nat} (hk : ∀ w w' a b x c, At w a b x c → KeepFB w w' → At w' a b x c) {w3 w5 w6 : World} {base hi b : Nat} {v1 : Value} {l : List α} {x : α} {cs inner : List Value}
    (h3 : SeqAt (At w3) base hi l inner) (hhi : hi ≤ w3.heap.size) (hx : At w5 w3.heap.size b x cs) (hab : w3.heap.size ≤ b) (hb : b ≤ w5.heap.size) (k35 : KeepFB w3 w5) (k56 : KeepFB w5 w6) (hsz : w5.heap.size ≤ w6.heap.size) (ho : w6.ownsRow base T 6 v1 (l.length + 1) (inner ++ cs)) : OutAt At T w6 base v1 (l ++ [x]) :=
  ⟨inner ++ cs, b, by rw [List.length_append]; exact ho, Nat.le_trans hb hsz, SeqAt.snoc (SeqAt.imp (fun a b x c h => hk w3 w6 a b x c h (k35.trans k56)) h3) hhi hab (hk w5 w6 _ _ _ _ hx k56)⟩
theorem own_keepE {T base n : Nat} {w w' : World} {v : Value} {inner : List Value} (h : w.ownsRow base T 6 v n inner) (hk : KeepE T w w') : w'.ownsRow base T 6 v n inner := own_move h (fun k e => by
  obtain ⟨cells, hc⟩ := own_typed h k e
  exact hk k cells (0, 0) hc)
def scStr : Value → ByteArray | .string s => s | _ => ⟨#[]⟩
theorem sc_parse_fin {α : Type} (f : Tk → α × Tk) (p : List UInt8) (i : Nat) (acc : List α) (h : p ≠ []) : sc_parse f [p] i acc = ([], (i : Int), 5) := by rw [sc_parse, if_neg h]
theorem sc_parse_end {α : Type} (f : Tk → α × Tk) (i : Nat) (acc : List α) : sc_parse f (sc_split 10 []) i acc = (acc, 0, 0) := by rw [sc_split, sc_parse, if_pos rfl]
theorem sc_parse_step {α : Type} (f : Tk → α × Tk) (p r : List UInt8) (i : Nat) (acc : List α) (h : (10 : UInt8) ∉ p) : sc_parse f (sc_split 10 (p ++ 10 :: r)) i acc = if (f (sc_words p, false)).2.2 = true ∨ (f (sc_words p, false)).2.1 ≠ [] ∨ 65536 < p.length ∨ 4096 ≤ i then ([], (i : Int), 5) else sc_parse f (sc_split 10 r) (i + 1) (acc ++ [(f (sc_words p, false)).1]) := by
  rw [sc_split_app 10 p r h]
  cases h2 : sc_split 10 r with
  | nil => exact absurd h2 (sc_split_ne 10 r)
  | cons q qs => rw [sc_parse]
end Go.Proofs.YtegmbihjjhhpmaaDoor.T
