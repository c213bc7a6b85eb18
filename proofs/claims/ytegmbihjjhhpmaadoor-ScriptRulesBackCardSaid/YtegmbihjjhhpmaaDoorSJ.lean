/- A part of the walk of the laws of layer 26 (script): contracts of functions of the program, each walked once; and the plain law. -/
import Derived.Test.YtegmbihjjhhpmaaDoorSA
import Derived.Test.YtegmbihjjhhpmaaDoorSh
import Derived.RangeFuncNested
import Derived.RangeFuncBound
import Derived.RangeFuncCalls
import Derived.RangeFuncLeaves
import Derived.RangeFuncBox
import Derived.OwnWalkIn
import Derived.TacticsInMore
import Derived.LoopNIn
import Derived.LoopIn
import Derived.Deep.DeepMust
import Derived.LoopN
import Derived.Laws.BitsAllLaws
import Derived.Maps.OwnIn
import Derived.Shelf.Abstract
import Derived.Sort.CutIn
import Derived.Shelf.RegionOpen
import Derived.StillTailTactics
import Derived.Lib.OthersKept
import Derived.Outline
import Derived.Deep.RegionHeld3
import Derived.Laws.StructEq
import Derived.Deep.RegionLaw
import Derived.Deep.RegionWith
import Derived.ArgAppend
import Derived.Great.BuildSlice
import Derived.Laws.Tables
namespace Go.Proofs.YtegmbihjjhhpmaaDoor.T
open Go.RowKit Go.Proofs.YtegmbihjjhhpmaaDoorW.PrintWords Go.Proofs.YtegmbihjjhhpmaaDoorW.PrintLast Go.Proofs.YtegmbihjjhhpmaaDoorW.PrintMore
open Go.Proofs.YtegmbihjjhhpmaaDoor.PSC
set_option linter.unusedVariables false
set_option linter.unusedSimpArgs false
/-! ### script: the taker in memory -/
theorem tk_info9 : (Tryd.prog.info? 9).map (fun i => (i.zero, i.size, i.bytes)) = some (some (.string ⟨#[]⟩), 1, 16) := by kernel_rfl
/-- A taker in memory. -/
def TkSt (g N : Nat) (t : Tk) (w : World) : Prop := (g < N ∧ N ≤ w.heap.size) ∧ ∃ A c, (∀ ad : Addr, A = some ad → ad.block < N) ∧ w.heap[g]? = some (.cells #[.slice A t.1.length c, .bool t.2] 92 (0, 0)) ∧ t.1.length ≤ c ∧ Kd.C Kd.string w A t.1.length t.1 ∧ (∀ x ∈ t.1, x.size ≤ 4294967280) ∧ t.1.length ≤ 4294967280
theorem tk_lt {w : World} {g : Nat} {o : Obj} (h : w.heap[g]? = some o) : g < w.heap.size := (Array.getElem?_eq_some_iff.1 h).1
theorem TkSt.lt {g N : Nat} {t : Tk} {w : World} (h : TkSt g N t w) : g < w.heap.size := Nat.lt_of_lt_of_le h.1.1 h.1.2
theorem TkSt.cells {g N : Nat} {t : Tk} {w : World} (h : TkSt g N t w) : ∃ A c, w.heap[g]? = some (.cells #[.slice A t.1.length c, .bool t.2] 92 (0, 0)) := by
  obtain ⟨_, A, c, _, hb, _⟩ := h
  exact ⟨A, c, hb⟩
/-- Rows that lie in blocks that stay. -/
theorem tk_row_block {α : Type} {R R' : α → List Value → Prop} {size : Nat} {W W' : World} {A : Option Addr} {n : Nat} {xs : List α} (h : ReadsRow R size W A n xs) (hR : ∀ p c, R p c → R' p c) (ho : ∀ ad : Addr, A = some ad → W'.heap[ad.block]? = W.heap[ad.block]?) : ReadsRow R' size W' A n xs := by
  obtain ⟨h1, h2, h3⟩ := h
  refine ⟨h1, h2, fun hp => ?_⟩
  obtain ⟨ad, e, hc⟩ := h3 hp
  refine ⟨ad, e, fun j p hj => ?_⟩
  obtain ⟨c, hl, hr, hcell⟩ := hc j p hj
  refine ⟨c, hl, hR p c hr, fun i u hu => ?_⟩
  have h4 := hcell i u hu
  unfold World.cell? at h4 ⊢
  rw [add_block, ho ad e]
  rw [add_block] at h4
  exact h4
theorem TkSt.keep {g N : Nat} {t : Tk} {w w' : World} (h : TkSt g N t w) (hs : w.heap.size ≤ w'.heap.size) (hb : ∀ k, k < N → w'.heap[k]? = w.heap[k]?) : TkSt g N t w' := by
  obtain ⟨⟨h0, hN⟩, A, c, hA, h1, h2, h3, h4⟩ := h
  exact ⟨⟨h0, Nat.le_trans hN hs⟩, A, c, hA, (hb g h0).trans h1, h2, tk_row_block h3 (fun p c (hp : c = [Value.string p]) => hp) (fun ad e => hb _ (hA ad e)), h4⟩
theorem TkSt.below {g N : Nat} {t : Tk} {w w' : World} (h : TkSt g N t w) (hb : Below w.heap.size w w') : TkSt g N t w' := h.keep hb.size (fun k hk => hb.block k (Nat.lt_of_lt_of_le hk h.1.2))
theorem TkSt.grown {g N : Nat} {t : Tk} {w w' : World} {row : Option Nat} (h : TkSt g N t w) (hg : w.grownBy w' row) (hr : ∀ k, row = some k → N ≤ k) : TkSt g N t w' :=
  h.keep hg.size (fun k hk => hg.block k (Nat.lt_of_lt_of_le hk h.1.2) (fun e => by have := hr k e.symm; omega))
theorem tk_store1 {W : World} {g : Nat} {t : TypeId} {cs : Array Value} (i : Nat) (x : Value) (h : W.heap[g]? = some (.cells cs t (0, 0))) :
    (W.setCell ⟨g, i, none⟩ x).heap[g]? = some (.cells (cs.setIfInBounds i x) t (0, 0)) ∧ ∀ k, k ≠ g → (W.setCell ⟨g, i, none⟩ x).heap[k]? = W.heap[k]? := by
  have e1 := setCell_eq_setRow W g i _ _ _ x h
  have g1 := setRow_heap W g _ (cs.setIfInBounds i x) _ _ h
  rw [← e1] at g1
  exact ⟨g1, fun k hk => by rw [e1, setRow_other _ _ _ _ hk]⟩
/-- Rows that lie among no cells of a block stay where it is written. -/
theorem tk_far {α : Type} {R R' : α → List Value → Prop} {size : Nat} {W W' : World} {A : Option Addr} {n : Nat} {xs : List α} {B : Nat} {cells : Array Value} {t : TypeId} (h : ReadsRow R size W A n xs) (hB : W.heap[B]? = some (.cells cells t (0, 0)))
    (hR : ∀ p c, R p c → R' p c ∧ ∀ u ∈ c, u ∉ cells) (ho : ∀ k, k ≠ B → W'.heap[k]? = W.heap[k]?) : ReadsRow R' size W' A n xs := by
  obtain ⟨h1, h2, h3⟩ := h
  refine ⟨h1, h2, fun hp => ?_⟩
  obtain ⟨ad, e, hc⟩ := h3 hp
  refine ⟨ad, e, fun j p hj => ?_⟩
  obtain ⟨c, hl, hr, hcell⟩ := hc j p hj
  refine ⟨c, hl, (hR p c hr).1, fun i u hu => ?_⟩
  have h4 := hcell i u hu
  have hne : (ad.add (j * size + i)).block ≠ B := by
    intro eb
    unfold World.cell? at h4
    rw [eb, hB] at h4
    simp only at h4
    split at h4
    · cases h4
    · exact (hR p c hr).2 u (List.mem_of_getElem? hu) (Array.mem_of_getElem? h4)
  unfold World.cell? at h4 ⊢
  rw [ho _ hne]
  exact h4
theorem tk_far_strings {W W' : World} {A : Option Addr} {n : Nat} {xs : List ByteArray} {B : Nat} {a : Option Addr} {m c : Nat} {b : Bool} {t : TypeId} (h : Kd.C Kd.string W A n xs) (hB : W.heap[B]? = some (.cells #[.slice a m c, .bool b] t (0, 0))) (ho : ∀ k, k ≠ B → W'.heap[k]? = W.heap[k]?) : Kd.C Kd.string W' A n xs :=
  tk_far h hB (fun p c (hp : c = [Value.string p]) => by subst hp; exact ⟨rfl, by simp⟩) ho
theorem tk_grown1 (w : World) (g i : Nat) (v : Value) : w.grownBy (w.setCell ⟨g, i, none⟩ v) (some g)  := by
  refine ⟨rfl, rfl, rfl, by simp [World.setCell], fun k _ hk => ?_⟩
  exact Below.heap_setCell _ _ _ _ (fun e => hk (by rw [show k = g from e]))
theorem TkSt.bad {g N : Nat} {t : Tk} {w : World} (h : TkSt g N t w) (b : Bool) : TkSt g N (t.1, b) (w.setCell ⟨g, 1, none⟩ (.bool b)) := by
  obtain ⟨h0, A, c, hA, h1, h2, h3, h4⟩ := h
  obtain ⟨s1, s2⟩ := tk_store1 1 (.bool b) h1
  exact ⟨⟨h0.1, by simpa [World.setCell] using h0.2⟩, A, c, hA, s1, h2, tk_far_strings h3 h1 s2, h4⟩
set_option maxHeartbeats 1600000 in
set_option maxRecDepth 100000 in
theorem taker_word.calls (g N : Nat) (t : Tk) (w : World) (h : TkSt g N t w) :
    Calls Tryd.prog 44 #[.pointer (some ⟨g, 0, none⟩)] w fun e w' => e = .returned (.string (tk_word t).1) ∧ TkSt g N (tk_word t).2 w' ∧ w.grownBy w' (some g) := by
  have HS := Aside0.mk h
  obtain ⟨h0, A, c, hA, h1, h2, h3, h4, h5⟩ := h
  obtain ⟨l, b⟩ := t
  have HB := Aside0.mk h1
  have HR := Aside0.mk h3
  have H4 := Aside0.mk h4
  cases l with
  | nil =>
    have c0 : w.cell? ⟨g, 0, none⟩ = some (.slice A 0 c) := (blk_cell h1 0).trans rfl
    have c1 : w.cell? ⟨g, 1, none⟩ = some (.bool b) := (blk_cell h1 1).trans rfl
    have f1 : w.frozen? ⟨g, 1, none⟩ = false := blk_frozen h1 1
    clear h1 h2 h3 h4 h5 hA h0
    go_enter Tryd.func44, Tryd.ntmps44
    go_wp2_with (fail)
    go_ret
    exact ⟨rfl, HS.out.bad true, tk_grown1 _ _ _ _⟩
  | cons x r =>
    obtain ⟨i0, hi0, hzz⟩ := Option.map_eq_some_iff.1 tk_info9
    simp only [Prod.mk.injEq] at hzz
    obtain ⟨hz0, hz1, hz2⟩ := hzz
    have c0 : w.cell? ⟨g, 0, none⟩ = some (.slice A (r.length + 1) c) := (blk_cell h1 0).trans rfl
    have c1 : w.cell? ⟨g, 1, none⟩ = some (.bool b) := (blk_cell h1 1).trans rfl
    have f0 : w.frozen? ⟨g, 0, none⟩ = false := blk_frozen h1 0
    obtain ⟨ad, rfl, hcell⟩ := h3.2.2 (by simp)
    obtain ⟨cs, hl, hk, hcs⟩ := hcell 0 x rfl
    have hk : cs = [Value.string x] := hk
    subst hk
    have x0 : w.cell? ad = some (.string x) := by have := hcs 0 (.string x) rfl; simpa [Addr.add] using this
    have hcut0 := cut_from (P := Tryd.prog) 89 9 .i64 (i := i0) Tryd.underlying89 hi0 1 hz1 (some ad) (r.length + 1) c 1 (by omega) (by omega)
    have hc := Kd.C_drop (m := 1) h3 (by simp) h2
    obtain ⟨A2, hA2⟩ : ∃ A2, (if c = 1 then some ad else Option.map (fun x : Addr => x.add 1) (some ad)) = A2 := ⟨_, rfl⟩
    have hA2b : ∀ ad2 : Addr, A2 = some ad2 → ad2.block < N := by
      intro ad2 e
      rw [← hA2] at e
      split at e
      · exact hA ad2 e
      · simp only [Option.map_some, Option.some.injEq] at e
        rw [← e, add_block]
        exact hA ad rfl
    have hcut : ∀ W : World, (Instr.slice 89 (.slice (some ad) (r.length + 1) c) (some (.int .i64 1)) none none).run Tryd.prog W = .ok (.slice A2 r.length (c - 1)) W := by
      intro W
      rw [hcut0 W]
      simp only [Int.toNat_one, Nat.mul_one, Nat.add_sub_cancel]
      rw [hA2]
    have hc : Kd.C Kd.string w A2 r.length r := by
      have e : Kd.string.sz = 1 := rfl
      simp only [e, Nat.mul_one, List.drop_succ_cons, List.drop_zero] at hc
      rw [hA2] at hc
      exact hc
    have HC := Aside0.mk hc
    simp only [List.length_cons] at h2 h5
    have hn : ((r.length : Int) + 1 == 0) = false := beq_false_of_ne (by omega)
    have HL := Aside0.mk h2
    have HL5 := Aside0.mk h5
    obtain ⟨s1, s2⟩ := tk_store1 0 (.slice A2 r.length (c - 1)) h1
    have HT := Aside0.mk (show TkSt g N (r, b) (w.setCell ⟨g, 0, none⟩ (.slice A2 r.length (c - 1))) from ⟨⟨h0.1, by simpa [World.setCell] using h0.2⟩, A2, c - 1, hA2b, s1, by simp only; omega, tk_far_strings hc h1 s2, fun y hy => h4 y (by simp [hy]), by simp only; omega⟩)
    clear h1 h3 h4 hcell hcs hl hz0 hz1 hz2 hc hA2 s1 s2 h2 h5 hcut0 hA hA2b h0
    go_enter Tryd.func44, Tryd.ntmps44
    go_wp2_with (fail)
    go_ret
    exact ⟨rfl, HT.out, tk_grown1 _ _ _ _⟩
set_option maxHeartbeats 1600000 in
set_option maxRecDepth 100000 in
theorem taker_is.calls (g N : Nat) (s : ByteArray) (t : Tk) (w : World) (h : TkSt g N t w) :
    Calls Tryd.prog 54 #[.pointer (some ⟨g, 0, none⟩), .string s] w fun e w' => e = .returned (.bool (tk_is s t).1) ∧ TkSt g N (tk_is s t).2 w' ∧ w.grownBy w' (some g) := by
  have HS := Aside0.mk h
  obtain ⟨h0, A, c, hA, h1, h2, h3, h4, h5⟩ := h
  obtain ⟨l, b⟩ := t
  cases l with
  | nil =>
    have c0 : w.cell? ⟨g, 0, none⟩ = some (.slice A 0 c) := (blk_cell h1 0).trans rfl
    clear h1 h2 h3 h4 h5 hA h0
    go_enter Tryd.func54, Tryd.ntmps54
    go_wp2_with (fail)
    go_ret
    exact ⟨rfl, HS.out, World.grownBy.refl _ _⟩
  | cons x r =>
    obtain ⟨i0, hi0, hzz⟩ := Option.map_eq_some_iff.1 tk_info9
    simp only [Prod.mk.injEq] at hzz
    obtain ⟨hz0, hz1, hz2⟩ := hzz
    have c0 : w.cell? ⟨g, 0, none⟩ = some (.slice A (r.length + 1) c) := (blk_cell h1 0).trans rfl
    have f0 : w.frozen? ⟨g, 0, none⟩ = false := blk_frozen h1 0
    obtain ⟨ad, rfl, hcell⟩ := h3.2.2 (by simp)
    obtain ⟨cs, hl, hk, hcs⟩ := hcell 0 x rfl
    have hk : cs = [Value.string x] := hk
    subst hk
    have x0 : w.cell? ad = some (.string x) := by have := hcs 0 (.string x) rfl; simpa [Addr.add] using this
    have hcut0 := cut_from (P := Tryd.prog) 89 9 .i64 (i := i0) Tryd.underlying89 hi0 1 hz1 (some ad) (r.length + 1) c 1 (by omega) (by omega)
    have hc := Kd.C_drop (m := 1) h3 (by simp) h2
    obtain ⟨A2, hA2⟩ : ∃ A2, (if c = 1 then some ad else Option.map (fun x : Addr => x.add 1) (some ad)) = A2 := ⟨_, rfl⟩
    have hA2b : ∀ ad2 : Addr, A2 = some ad2 → ad2.block < N := by
      intro ad2 e
      rw [← hA2] at e
      split at e
      · exact hA ad2 e
      · simp only [Option.map_some, Option.some.injEq] at e
        rw [← e, add_block]
        exact hA ad rfl
    have hcut : ∀ W : World, (Instr.slice 89 (.slice (some ad) (r.length + 1) c) (some (.int .i64 1)) none none).run Tryd.prog W = .ok (.slice A2 r.length (c - 1)) W := by
      intro W
      rw [hcut0 W]
      simp only [Int.toNat_one, Nat.mul_one, Nat.add_sub_cancel]
      rw [hA2]
    have hc : Kd.C Kd.string w A2 r.length r := by
      have e : Kd.string.sz = 1 := rfl
      simp only [e, Nat.mul_one, List.drop_succ_cons, List.drop_zero] at hc
      rw [hA2] at hc
      exact hc
    simp only [List.length_cons] at h2 h5
    have hn : ((r.length : Int) + 1 == 0) = false := beq_false_of_ne (by omega)
    have HL := Aside0.mk h2
    obtain ⟨s1, s2⟩ := tk_store1 0 (.slice A2 r.length (c - 1)) h1
    have HT := Aside0.mk (show TkSt g N (r, b) (w.setCell ⟨g, 0, none⟩ (.slice A2 r.length (c - 1))) from ⟨⟨h0.1, by simpa [World.setCell] using h0.2⟩, A2, c - 1, hA2b, s1, by simp only; omega, tk_far_strings hc h1 s2, fun y hy => h4 y (by simp [hy]), by simp only; omega⟩)
    clear h1 h3 h4 hcell hcs hl hz0 hz1 hz2 hc hA2 s1 s2 h2 h5 hcut0 hA hA2b h0
    by_cases hxs : x = s
    · subst hxs
      have e1 : (x.toList == x.toList) = true := by simp
      go_enter Tryd.func54, Tryd.ntmps54
      go_wp2_with (fail)
      go_ret
      rw [tk_is_cons, if_pos rfl]
      exact ⟨rfl, HT.out, tk_grown1 _ _ _ _⟩
    · have e1 : (x.toList == s.toList) = false := beq_false_of_ne (fun e => hxs (sc_data_inj (by rw [← Lib.toList_data, ← Lib.toList_data]; exact e)))
      go_enter Tryd.func54, Tryd.ntmps54
      go_wp2_with (fail)
      go_ret
      rw [tk_is_cons, if_neg hxs]
      exact ⟨rfl, HS.out, World.grownBy.refl _ _⟩
end Go.Proofs.YtegmbihjjhhpmaaDoor.T
namespace Go.Proofs.YtegmbihjjhhpmaaDoor.T
open Go.RowKit Go.Proofs.YtegmbihjjhhpmaaDoorW.PrintWords Go.Proofs.YtegmbihjjhhpmaaDoorW.PrintLast Go.Proofs.YtegmbihjjhhpmaaDoorW.PrintMore
open Go.Proofs.YtegmbihjjhhpmaaDoor.PSC
set_option linter.unusedVariables false
set_option linter.unusedSimpArgs false
/-! ### strings.Builder: WriteByte, WriteString -/
theorem bld_info5 : (Tryd.prog.info? 5).map (fun i => (i.zero, i.size, i.bytes)) = some (some (.int .u8 0), 1, 1) := by kernel_rfl
/-- A builder of the call's own that holds these bytes. -/
def Bld (B b : Nat) (l : List UInt8) (w : World) : Prop := Lib.IsBuilder 78 5 B b (Lib.byteCells l) w
theorem Bld.below {B b : Nat} {l : List UInt8} {w w' : World} (h : Bld B b l w) (hb : Below w.heap.size w w') : Bld B b l w' := by
  have key : ∀ p, Lib.BuilderAt 78 5 B b p (Lib.byteCells l) w → Lib.BuilderAt 78 5 B b p (Lib.byteCells l) w' := by
    rintro p ⟨h1, v, h2, h3, h4⟩
    exact ⟨h1, v, (hb.block b (tk_lt h2)).trans h2, pw_own_below h3 hb, h4⟩
  exact h.imp (key _) (key _)
theorem Bld.lt {B b : Nat} {l : List UInt8} {w : World} (h : Bld B b l w) : B ≤ b ∧ b < w.heap.size := by
  rcases h with ⟨h1, v, h2, _⟩ | ⟨h1, v, h2, _⟩ <;> exact ⟨h1, tk_lt h2⟩
theorem Bld.new (B : Nat) (w : World) (hB : B ≤ w.heap.size) : Bld B w.heap.size [] (w.alloc (.cells #[.pointer none, .slice none 0 0] 78)) :=
  .inl ⟨hB, .slice none 0 0, heap_alloc_new w _, World.ownsRow_nil _ _ _ _, by simp [Value.ownBlock]⟩
theorem bld_put {B b : Nat} {p v v1 : Value} {bs1 : List Value} {w1 : World} (hB : B ≤ b) (hb : w1.heap[b]? = some (.cells #[p, v] 78 (0, 0))) (ho : w1.ownsRow B 5 1 v1 bs1.length bs1) : Lib.BuilderAt 78 5 B b p bs1 (w1.setCell ⟨b, 1, none⟩ v1) := by
  obtain ⟨s1, s2⟩ := tk_store1 1 v1 hb
  have hne : v1.ownBlock ≠ some b := by
    intro e
    rcases ho.2 with ⟨rfl, _⟩ | ⟨g, cap, cur, rfl, _, hg, _⟩
    · simp [Value.ownBlock] at e
    · simp only [Value.ownBlock, Option.some.injEq] at e
      subst e
      rw [hb] at hg
      simp at hg
  refine ⟨hB, v1, s1, ?_, hne⟩
  exact own_move ho (fun k hk => s2 k (fun e => hne (by rw [hk, e])))
theorem bld_info78 : (Tryd.prog.info? 78).map (·.size) = some 2 := by kernel_rfl
theorem bld_lies : liesAt Tryd.prog Tryd.prog.depth 78 (2 / Tryd.prog.cellsOf 78) 0 78 1 = true := by kernel_rfl
set_option maxHeartbeats 1600000 in
set_option maxRecDepth 100000 in
theorem bld_check_used (b : Nat) (w : World) (h0 : w.cell? ⟨b, 0, none⟩ = some (.pointer (some ⟨b, 0, none⟩))) :
    Calls Tryd.prog 56 #[.pointer (some ⟨b, 0, none⟩)] w fun e w' => e = .returned (.tuple #[]) ∧ w' = w := by
  obtain ⟨j, hj, _⟩ := Option.map_eq_some_iff.1 bld_info78
  go_enter Tryd.func56, Tryd.ntmps56
  go_wp2_with (fail)
  rw [Lib.run_neq_ptr_same w _ Tryd.underlying76 hj]
  go_wp2_with (fail)
  exact bodyPost_end (v := .tuple #[]) (by simp [results, Tryd.results56, go_sem]) rfl ⟨rfl, rfl⟩
set_option maxHeartbeats 1600000 in
set_option maxRecDepth 100000 in
theorem bld_check_fresh (b : Nat) (w : World) (h0 : w.cell? ⟨b, 0, none⟩ = some (.pointer none)) (hsh : w.shape? b = some (78, 2)) (hfz : w.frozen? ⟨b, 0, none⟩ = false) :
    Calls Tryd.prog 56 #[.pointer (some ⟨b, 0, none⟩)] w fun e w' => e = .returned (.tuple #[]) ∧ w' = w.setCell ⟨b, 0, none⟩ (.pointer (some ⟨b, 0, none⟩)) := by
  obtain ⟨j, hj, hjs⟩ := Option.map_eq_some_iff.1 bld_info78
  go_enter Tryd.func56, Tryd.ntmps56
  go_wp2_with (fail)
  rw [Lib.run_to_unsafe w ⟨b, 0, none⟩ Tryd.underlying76 Tryd.underlying110 hj (by rw [hjs]; decide) hsh (Nat.zero_lt_succ 1)]
  simp only [Result.andThen]
  rw [Oper.upon_value]
  go_wp2_with (fail)
  rw [run_callFunc_extern Tryd.func64 (by kernel_rfl) (by kernel_rfl) (by kernel_rfl) (e := Extern.AbiNoEscape.same) (by kernel_rfl)]
  rw [Lib.run_noEscape]
  simp only [Result.andThen]
  rw [Oper.upon_value]
  go_wp2_with (fail)
  rw [Lib.run_from_unsafe w ⟨b, 0, none⟩ Tryd.underlying110 Tryd.underlying76 hj hsh bld_lies]
  simp only [Result.andThen]
  rw [Oper.upon_value]
  go_wp2_with (fail)
  exact bodyPost_end (v := .tuple #[]) (by simp [results, Tryd.results56, go_sem]) rfl ⟨rfl, rfl⟩
theorem bld_check (B b : Nat) (l : List UInt8) (w : World) (h : Bld B b l w) :
    Calls Tryd.prog 56 #[.pointer (some ⟨b, 0, none⟩)] w fun e w' => e = .returned (.tuple #[]) ∧ Lib.BuilderAt 78 5 B b (.pointer (some ⟨b, 0, none⟩)) (Lib.byteCells l) w' ∧ Below B w w' ∧ Lib.OthersKept 5 (some b) w w' := by
  rcases h with h | h
  · refine (bld_check_fresh b w h.cell0 h.shape h.frozen0).mono ?_
    rintro e w' ⟨rfl, rfl⟩
    exact ⟨rfl, h.used _, (Below.refl B w).setCell (p := ⟨b, 0, none⟩) h.1 _, (Lib.OthersKept.refl _ _ _).setCell ⟨b, 0, none⟩ rfl _⟩
  · refine (bld_check_used b w h.cell0).mono ?_
    rintro e w' ⟨rfl, rfl⟩
    exact ⟨rfl, h, Below.refl B _, Lib.OthersKept.refl _ _ _⟩
set_option maxHeartbeats 3200000 in
set_option maxRecDepth 100000 in
theorem bld_WriteByte (B b : Nat) (l : List UInt8) (c : UInt8) (w : World) (h : Bld B b l w) (hlen : l.length + 1 ≤ 140737488355328) (hBw : B ≤ w.heap.size) :
    Calls Tryd.prog 40 #[.pointer (some ⟨b, 0, none⟩), .int .u8 (c.toNat : Int)] w fun e w' => e = .returned .nilIface ∧ Bld B b (l ++ [c]) w' ∧ Below B w w' ∧ Lib.OthersKept 5 (some b) w w' := by
  obtain ⟨i0, hi, hzz⟩ := Option.map_eq_some_iff.1 bld_info5
  simp only [Prod.mk.injEq] at hzz
  obtain ⟨hz0, hz1, hz2⟩ := hzz
  have HBD := Aside0.mk h
  clear h
  go_enter Tryd.func40, Tryd.ntmps40
  go_wp2_with (go_at_call 56; refine (bld_check B b l _ HBD.out).mono ?_)
  rintro e w1 ⟨rfl, h1, hb1, ho1⟩
  obtain ⟨hB, v, hbk, hown, hne⟩ := h1
  have c1 : w1.cell? ⟨b, 1, none⟩ = some v := (blk_cell hbk 1).trans rfl
  have hbl : (Lib.byteCells l).length = l.length := by simp [Lib.byteCells]
  have HN := Aside0.mk hne
  have HK := Aside0.mk hbk
  have HO := Aside0.mk hown
  have HB1 := Aside0.mk hb1
  have HOK := Aside0.mk ho1
  have hsz : B ≤ w1.heap.size := Nat.le_trans hBw hb1.size
  clear hne hbk hown hb1 ho1
  go_wp2_with (at_builtin; refine wpList_append_own _ rfl _ _ 43 rfl B 5 i0 (.int .u8 0) 1 1 Tryd.underlying43 hi hz0 hz1 hz2 rfl (by decide) _ _ _ rfl (HO.out.alloc _) ⟨w1.heap.size, 0, none⟩ 1 1 [.int .u8 (c.toNat : Int)] rfl rfl ?c1 ?c2 ?c3 ?c4 ?c5 ?_)
  case c1 =>
    intro j u hj
    match j, hj with
    | 0, hj => simp at hj; subst hj; simp [Addr.add]
  case c2 => intro u hu; simp at hu; subst hu; rfl
  case c3 => unfold maxLen; rw [hbl]; omega
  case c4 => rw [hbl]; omega
  case c5 => simp; omega
  intro v2 w2 hown2 hgrow _
  obtain ⟨g2, cap2, rfl⟩ : ∃ g cap, v2 = .slice (some ⟨g, 0, none⟩) (l.length + 1) cap := by
    rcases hown2.2 with ⟨_, h0⟩ | ⟨g, cap, cur, hv, _⟩
    · omega
    · exact ⟨g, cap, hv⟩
  have hb2 : w2.heap[b]? = some (.cells #[.pointer (some ⟨b, 0, none⟩), v] 78 (0, 0)) := by
    rw [hgrow.block b (by simp; have := tk_lt HK.out; omega) (fun e => HN.out e.symm), Below.heap_alloc _ _ _ (tk_lt HK.out)]
    exact HK.out
  have d1 : w2.cell? ⟨b, 1, none⟩ = some v := (blk_cell hb2 1).trans rfl
  have f1 : w2.frozen? ⟨b, 1, none⟩ = false := blk_frozen hb2 1
  have HW := Aside0.mk hgrow
  have HO2 := Aside0.mk hown2
  have HK2 := Aside0.mk hb2
  clear hgrow hown2 hb2 c1
  go_wp2_with (fail)
  go_ret
  refine ⟨rfl, .inr ?_, ?_, ?_⟩
  · have e : Lib.byteCells (l ++ [c]) = Lib.byteCells l ++ [.int .u8 (c.toNat : Int)] := by simp [Lib.byteCells]
    rw [e]
    exact bld_put hB HK2.out (by simpa [hbl] using HO2.out)
  · exact ((HB1.out.trans (Below.refl B w1 |>.alloc hsz _)).grown HW.out (by simp; omega) (fun k hk => own_base HO.out k hk)).setCell hB _
  · exact ((HOK.out.alloc _).grown HW.out (fun k hk => by obtain ⟨cs, hc⟩ := own_typed (HO.out.alloc (.cells #[.int .u8 (c.toNat : Int)] 5)) k hk; exact ⟨cs, _, hc⟩)).setCell ⟨b, 1, none⟩ rfl _
set_option maxHeartbeats 3200000 in
set_option maxRecDepth 100000 in
theorem bld_WriteString (B b : Nat) (l : List UInt8) (s : ByteArray) (w : World) (h : Bld B b l w) (hlen : l.length + s.size ≤ 140737488355328) (hBw : B ≤ w.heap.size) :
    Calls Tryd.prog 37 #[.pointer (some ⟨b, 0, none⟩), .string s] w fun e w' => e = .returned (.tuple #[.int .i64 s.size, .nilIface]) ∧ Bld B b (l ++ s.data.toList) w' ∧ Below B w w' ∧ Lib.OthersKept 5 (some b) w w' := by
  obtain ⟨i0, hi, hzz⟩ := Option.map_eq_some_iff.1 bld_info5
  simp only [Prod.mk.injEq] at hzz
  obtain ⟨hz0, hz1, hz2⟩ := hzz
  have HBD := Aside0.mk h
  clear h
  go_enter Tryd.func37, Tryd.ntmps37
  go_wp2_with (go_at_call 56; refine (bld_check B b l _ HBD.out).mono ?_)
  rintro e w1 ⟨rfl, h1, hb1, ho1⟩
  obtain ⟨hB, v, hbk, hown, hne⟩ := h1
  have c1 : w1.cell? ⟨b, 1, none⟩ = some v := (blk_cell hbk 1).trans rfl
  have hbl : (Lib.byteCells l).length = l.length := by simp [Lib.byteCells]
  have HN := Aside0.mk hne
  have HK := Aside0.mk hbk
  have HO := Aside0.mk hown
  have HB1 := Aside0.mk hb1
  have HOK := Aside0.mk ho1
  have hsz : B ≤ w1.heap.size := Nat.le_trans hBw hb1.size
  clear hne hbk hown hb1 ho1
  go_wp2_with (at_builtin; refine Lib.wpList_append_own_string _ rfl _ _ 43 9 rfl B 5 i0 Tryd.underlying43 Tryd.underlying9 hi hz0 hz1 hz2 v (Lib.byteCells l).length (Lib.byteCells l) rfl HO.out s rfl ?c1 ?c2 hsz ?_)
  case c1 => unfold maxLen; rw [hbl]; omega
  case c2 => rw [hbl]; omega
  intro v2 w2 hown2 hgrow _
  obtain ⟨A2, cap2, rfl⟩ := own_slice hown2
  have hb2 : w2.heap[b]? = some (.cells #[.pointer (some ⟨b, 0, none⟩), v] 78 (0, 0)) := by
    rw [hgrow.block b (tk_lt HK.out) (fun e => HN.out e.symm)]
    exact HK.out
  have d1 : w2.cell? ⟨b, 1, none⟩ = some v := (blk_cell hb2 1).trans rfl
  have f1 : w2.frozen? ⟨b, 1, none⟩ = false := blk_frozen hb2 1
  have HW := Aside0.mk hgrow
  have HO2 := Aside0.mk hown2
  have HK2 := Aside0.mk hb2
  clear hgrow hown2 hb2 c1
  go_wp2_with (fail)
  go_ret2
  refine ⟨rfl, .inr ?_, ?_, ?_⟩
  · have e : Lib.byteCells (l ++ s.data.toList) = Lib.byteCells l ++ Lib.strCells s := by simp [Lib.byteCells, Lib.strCells]
    rw [e]
    exact bld_put hB HK2.out (by have h := HO2.out; have e2 : (Lib.byteCells l ++ Lib.strCells s).length = l.length + s.size := by simp [Lib.byteCells, Lib.strCells]
                                 rw [e2]; exact h)
  · exact (HB1.out.grown HW.out hsz (fun k hk => own_base HO.out k hk)).setCell hB _
  · exact (HOK.out.grown HW.out (fun k hk => by obtain ⟨cs, hc⟩ := own_typed HO.out k hk; exact ⟨cs, _, hc⟩)).setCell ⟨b, 1, none⟩ rfl _
theorem bld_String (B b : Nat) (l : List UInt8) (w : World) (h : Bld B b l w) (hBw : B ≤ w.heap.size) :
    Calls Tryd.prog 38 #[.pointer (some ⟨b, 0, none⟩)] w fun e w' => e = .returned (.string (sc_b l)) ∧ Below B w w' := Go.Proofs.Tryd.Builder_String_any B b l w h hBw
end Go.Proofs.YtegmbihjjhhpmaaDoor.T
namespace Go.Proofs.YtegmbihjjhhpmaaDoor.T
open Go.RowKit Go.Proofs.YtegmbihjjhhpmaaDoorW.PrintWords Go.Proofs.YtegmbihjjhhpmaaDoorW.PrintLast Go.Proofs.YtegmbihjjhhpmaaDoorW.PrintMore
open Go.Proofs.YtegmbihjjhhpmaaDoor.PSC
set_option linter.unusedVariables false
set_option linter.unusedSimpArgs false
/-! ### script.hex -/
def sc_digits : ByteArray := ⟨#[48, 49, 50, 51, 52, 53, 54, 55, 56, 57, 97, 98, 99, 100, 101, 102]⟩
theorem sc_raw_snoc (l : List UInt8) (c : UInt8) : sc_raw (l ++ [c]) = sc_raw l ++ [sc_dig (c.toNat / 16)] ++ [sc_dig (c.toNat % 16)] := by simp [sc_raw]
theorem sc_hi (c : UInt8) : (c.toNat : Int) / 16 < 16 := by have := c.toNat_lt; omega
theorem sc_dig_get (n : Nat) (h : n < 16) : (⟨#[48, 49, 50, 51, 52, 53, 54, 55, 56, 57, 97, 98, 99, 100, 101, 102]⟩ : ByteArray)[n]'h = sc_dig n := by
  revert n
  decide
theorem sc_take_snoc (s : ByteArray) (k : Nat) (h : k < s.size) : s.data.toList.take (k + 1) = s.data.toList.take k ++ [s[k]] := by
  rw [List.take_add_one, List.getElem?_eq_getElem (show k < s.data.toList.length from h)]
  rfl
set_option maxHeartbeats 3200000 in
set_option maxRecDepth 100000 in
theorem script_hex.calls (s : ByteArray) (w : World) (hs : s.size ≤ 4294967280) :
    Calls Tryd.prog 24 #[.string s] w fun e w' => e = .returned (.string (sc_hexB s)) ∧ Below w.heap.size w w' := by
  by_cases h0 : s.data.toList = []
  · have e0 : s.toList.isEmpty = true := by rw [Lib.toList_data, h0]; rfl
    go_enter Tryd.func24, Tryd.ntmps24
    go_wp2_with (fail)
    go_ret
    refine ⟨?_, Below.refl _ _⟩
    unfold sc_hexB sc_hex
    rw [if_pos h0]
    rfl
  · have e0 : s.toList.isEmpty = false := by rw [Lib.toList_data]; simpa using h0
    have HR := Aside0.mk (sc_hex_raw _ h0)
    clear h0
    go_enter Tryd.func24, Tryd.ntmps24
    go_wp2_with (fail)
    go_loopw [9] (fun v9 wr => ∃ k : Nat, k ≤ s.size ∧ v9 = .int .i64 k ∧ Aside0 (Bld w.heap.size w.heap.size (sc_raw (s.data.toList.take k)) wr) ∧ Aside0 (Below w.heap.size w wr)) (fun v9 _ => s.size - (intOf v9).toNat)
    case atStart => exact ⟨0, by omega, rfl, ⟨by rw [List.take_zero]; exact Bld.new _ _ (Nat.le_refl _)⟩, ⟨below_alloc (Below.refl _ _) _⟩⟩
    case round =>
      obtain ⟨k, hk, rfl, HBD, HB⟩ := hrel
      by_cases hk2 : k < s.size
      · obtain ⟨c, hc⟩ : ∃ c, s[k] = c := ⟨_, rfl⟩
        have hcl := c.toNat_lt
        have h1 : 0 ≤ (c.toNat : Int) / 16 ∧ (c.toNat : Int) / 16 < 16 := by omega
        have h2 : 0 ≤ (c.toNat : Int) % 16 ∧ (c.toNat : Int) % 16 < 16 := by omega
        have hl : (sc_raw (s.data.toList.take k)).length = 2 * k := by rw [sc_raw_len, List.length_take]; have : s.data.toList.length = s.size := rfl; omega
        have HL := Aside0.mk hl
        have HT := Aside0.mk (show sc_raw (s.data.toList.take (k + 1)) = sc_raw (s.data.toList.take k) ++ [sc_dig (c.toNat / 16)] ++ [sc_dig (c.toNat % 16)] by rw [sc_take_snoc s k hk2, hc, sc_raw_snoc])
        clear hl
        go_wp2_with (go_at_call 40; refine (bld_WriteByte w.heap.size w.heap.size (sc_raw (s.data.toList.take k)) _ _ HBD.out (by rw [HL.out]; omega) HB.out.size).mono ?_; rintro e w1 ⟨rfl, h1, h2, _⟩; rw [sc_dig_get _ (by omega)] at h1; have HBD1 := Aside0.mk h1; have HB1 := Aside0.mk (HB.out.trans h2); clear h1 h2)
        go_wp2_with (go_at_call 40; refine (bld_WriteByte w.heap.size w.heap.size (sc_raw (s.data.toList.take k) ++ [sc_dig (c.toNat / 16)]) _ _ HBD1.out (by rw [List.length_append, HL.out]; simp; omega) HB1.out.size).mono ?_; rintro e w2 ⟨rfl, h1, h2, _⟩; rw [sc_dig_get _ (by omega)] at h1; have HBD2 := Aside0.mk h1; have HB2 := Aside0.mk (HB1.out.trans h2); clear h1 h2)
        go_wp2_with (fail)
        go_roundw
        case rel => exact ⟨k + 1, by omega, by go_num, ⟨by rw [HT.out]; exact HBD2.out⟩, HB2⟩
        case measure => simp [intOf]; omega
      · have hk3 : s.data.toList.take k = s.data.toList := List.take_of_length_le (by have : s.data.toList.length = s.size := rfl; omega)
        have HBD := Aside0.mk (show Bld w.heap.size w.heap.size (sc_raw s.data.toList) wr by rw [← hk3]; exact HBD.out)
        clear hk3
        go_wp2_with (go_at_call 38; refine (bld_String w.heap.size w.heap.size (sc_raw s.data.toList) _ HBD.out HB.out.size).mono ?_; rintro e w1 ⟨rfl, h2⟩; have HB1 := Aside0.mk (HB.out.trans h2); clear h2)
        go_ret
        refine ⟨?_, HB1.out⟩
        unfold sc_hexB
        rw [HR.out]
        rfl
end Go.Proofs.YtegmbihjjhhpmaaDoor.T
namespace Go.Proofs.YtegmbihjjhhpmaaDoor.T
open Go.RowKit Go.Proofs.YtegmbihjjhhpmaaDoorW.PrintWords Go.Proofs.YtegmbihjjhhpmaaDoorW.PrintLast Go.Proofs.YtegmbihjjhhpmaaDoorW.PrintMore
open Go.Proofs.YtegmbihjjhhpmaaDoor.PSC
set_option linter.unusedVariables false
set_option linter.unusedSimpArgs false
/-! ### script.told, script.body -/
def sc_toldL (sign : ByteArray) (l : List S49) : List UInt8 := sc_tail (sc_fw sign l)
theorem sc_toldL_snoc (sign : ByteArray) (l : List S49) (f : S49) : sc_toldL sign (l ++ [f]) = sc_toldL sign l ++ (32 :: sign.data.toList ++ 32 :: (sc_hexB f.f0).data.toList ++ 32 :: (sc_hexB f.f1).data.toList) := by
  simp [sc_toldL, sc_tail, sc_fw]
theorem sc_hex_len (s : List UInt8) : (sc_hex s).length ≤ 2 * s.length + 1 := by
  by_cases h : s = []
  · subst h; simp [sc_hex]
  · rw [sc_hex_raw s h, sc_raw_len]; omega
theorem sc_hexB_size (s : ByteArray) : (sc_hexB s).size ≤ 2 * s.size + 1 := sc_hex_len s.data.toList
def sc_smallF (l : List S49) : Prop := ∀ f ∈ l, f.f0.size + f.f1.size ≤ 1000000
theorem sc_toldL_len (sign : ByteArray) (l : List S49) (h : sc_smallF l) (hs : sign.size ≤ 4) : (sc_toldL sign l).length ≤ l.length * 2000010 := by
  induction l with
  | nil => simp [sc_toldL, sc_tail, sc_fw]
  | cons f l ih =>
    have h1 := ih (fun x hx => h x (by simp [hx]))
    have h2 := h f (by simp)
    have h3 := sc_hexB_size f.f0
    have h4 := sc_hexB_size f.f1
    have e : sc_toldL sign (f :: l) = (32 :: sign.data.toList ++ 32 :: (sc_hexB f.f0).data.toList ++ 32 :: (sc_hexB f.f1).data.toList) ++ sc_toldL sign l := by simp [sc_toldL, sc_tail, sc_fw]
    have e1 : sign.data.toList.length = sign.size := rfl
    have e2 : (sc_hexB f.f0).data.toList.length = (sc_hexB f.f0).size := rfl
    have e3 : (sc_hexB f.f1).data.toList.length = (sc_hexB f.f1).size := rfl
    rw [e]
    simp only [List.length_append, List.length_cons, e1, e2, e3]
    rw [Nat.add_mul]
    omega
theorem sc_takeF (l : List S49) (k : Nat) (h : k < l.length) : l.take (k + 1) = l.take k ++ [rd_T49 l k] := by
  rw [List.take_add_one, List.getElem?_eq_getElem h]
  simp [rd_T49, List.getElem?_eq_getElem h]
theorem sc_rdF_mem (l : List S49) (k : Nat) (h : k < l.length) : rd_T49 l k ∈ l := by
  simp only [rd_T49, Int.toNat_natCast, List.getD_eq_getElem?_getD, List.getElem?_eq_getElem h, Option.getD_some]
  exact List.getElem_mem h
set_option maxHeartbeats 3200000 in
set_option maxRecDepth 100000 in
theorem script_told.calls (sign : ByteArray) (A : Option Addr) (c : Nat) (l : List S49) (w : World) (hr : Kd.C k49 w A l.length l) (hc : l.length ≤ c) (hs : sc_smallF l) (hg : sign.size ≤ 4) (hl : l.length ≤ 1000000) :
    Calls Tryd.prog 21 #[.string sign, .slice A l.length c] w fun e w' => e = .returned (.string (sc_b (sc_toldL sign l))) ∧ Below w.heap.size w w' := by
  have HR := Aside0.mk hr
  have HSM := Aside0.mk hs
  clear hr hs
  go_enter Tryd.func21, Tryd.ntmps21
  go_wp2_with (fail)
  go_loopw [10] (fun v10 wr => ∃ k : Nat, k ≤ l.length ∧ v10 = .int .i64 k ∧ Aside0 (Bld w.heap.size w.heap.size (sc_toldL sign (l.take k)) wr) ∧ Aside0 (Below w.heap.size w wr)) (fun v10 _ => l.length - (intOf v10).toNat)
  case atStart => exact ⟨0, by omega, rfl, ⟨Bld.new _ _ (Nat.le_refl _)⟩, ⟨below_alloc (Below.refl _ _) _⟩⟩
  case round =>
    obtain ⟨k, hk, rfl, HBD, HB⟩ := hrel
    by_cases hk2 : k < l.length
    · obtain ⟨ad, e2, hx0, hx1⟩ := at_T49 (Kd.C_below HR.out HB.out) (k : Int) (by omega) (by omega)
      cases e2
      simp only [Int.toNat_natCast] at hx0 hx1
      obtain ⟨x, hx⟩ : ∃ x, rd_T49 l (k : Int) = x := ⟨_, rfl⟩
      have hxm := HSM.out _ (sc_rdF_mem l k hk2)
      have ht := sc_takeF l k hk2
      rw [hx] at hx0 hx1 hxm ht
      have HT := Aside0.mk ht
      have hlen := sc_toldL_len sign (l.take k) (fun f hf => HSM.out f (List.mem_of_mem_take hf)) hg
      have h3 := sc_hexB_size x.f0
      have h4 := sc_hexB_size x.f1
      rw [List.length_take] at hlen
      have HLEN := Aside0.mk (show (sc_toldL sign (l.take k)).length ≤ 2000010000000 by omega)
      obtain ⟨H0, hH0⟩ : ∃ H, sc_hexB x.f0 = H := ⟨_, rfl⟩
      obtain ⟨H1, hH1⟩ : ∃ H, sc_hexB x.f1 = H := ⟨_, rfl⟩
      rw [hH0] at h3
      rw [hH1] at h4
      obtain ⟨p1, hp1⟩ : ∃ p, (⟨#[32]⟩ : ByteArray) ++ sign = p := ⟨_, rfl⟩
      obtain ⟨p2, hp2⟩ : ∃ p, p1 ++ (⟨#[32]⟩ : ByteArray) = p := ⟨_, rfl⟩
      obtain ⟨p3, hp3⟩ : ∃ p, p2 ++ H0 = p := ⟨_, rfl⟩
      obtain ⟨p4, hp4⟩ : ∃ p, p3 ++ (⟨#[32]⟩ : ByteArray) = p := ⟨_, rfl⟩
      obtain ⟨p5, hp5⟩ : ∃ p, p4 ++ H1 = p := ⟨_, rfl⟩
      have e32 : (⟨#[32]⟩ : ByteArray).size = 1 := rfl
      have y1 : p1.size = 1 + sign.size := by rw [← hp1, ByteArray.size_append]; rfl
      have y2 : p2.size = p1.size + 1 := by rw [← hp2, ByteArray.size_append]; rfl
      have y3 : p3.size = p2.size + H0.size := by rw [← hp3, ByteArray.size_append]
      have y4 : p4.size = p3.size + 1 := by rw [← hp4, ByteArray.size_append]; rfl
      have y5 : p5.size = p4.size + H1.size := by rw [← hp5, ByteArray.size_append]
      have z1 : (9223372036854775807 < (⟨#[32]⟩ : ByteArray).size + sign.size) = False := eq_false (by omega)
      have z1b : (9223372036854775807 < 1 + sign.size) = False := eq_false (by omega)
      have z2 : (9223372036854775807 < p1.size + (⟨#[32]⟩ : ByteArray).size) = False := eq_false (by omega)
      have z2b : (9223372036854775807 < p1.size + 1) = False := eq_false (by omega)
      have z3 : (9223372036854775807 < p2.size + H0.size) = False := eq_false (by omega)
      have z4 : (9223372036854775807 < p3.size + (⟨#[32]⟩ : ByteArray).size) = False := eq_false (by omega)
      have z4b : (9223372036854775807 < p3.size + 1) = False := eq_false (by omega)
      have z5 : (9223372036854775807 < p4.size + H1.size) = False := eq_false (by omega)
      have HP5 := Aside0.mk (show p5.size ≤ 4000100 by omega)
      have HD5 := Aside0.mk (show sc_toldL sign (l.take k) ++ p5.data.toList = sc_toldL sign (l.take (k + 1)) by rw [ht, sc_toldL_snoc, ← hp5, ← hp4, ← hp3, ← hp2, ← hp1, ← hH0, ← hH1]; simp)
      clear e32 y1 y2 y3 y4 y5
      have HXM := Aside0.mk hxm
      have hkz : (k : Int) < (l.length : Int) := by omega
      clear ht hlen h3 h4 hx hxm
      go_upto_region 5 with (fail)
      obtain ⟨W8, hW8⟩ : ∃ W8, wr.alloc (.cells #[.string x.f0, .string x.f1] 49) = W8 := ⟨_, rfl⟩
      obtain ⟨B7, hB7⟩ : ∃ B7, wr.heap.size = B7 := ⟨_, rfl⟩
      have BK := Aside0.mk (show W8.heap[B7]? = some (.cells #[.string x.f0, .string x.f1] 49 (0, 0)) by rw [← hW8, ← hB7]; exact heap_alloc_new _ _)
      have d0 : W8.cell? ⟨B7, 0, none⟩ = some (.string x.f0) := (blk_cell BK.out 0).trans rfl
      have d1 : W8.cell? ⟨B7, 1, none⟩ = some (.string x.f1) := (blk_cell BK.out 1).trans rfl
      have HB8 := Aside0.mk (show Below w.heap.size w W8 by rw [← hW8]; exact below_alloc HB.out _)
      have HBD8 := Aside0.mk (show Bld w.heap.size w.heap.size (sc_toldL sign (l.take k)) W8 by rw [← hW8]; exact HBD.out.below (below_alloc (Below.refl _ _) _))
      have HB7 := Aside0.mk (show w.heap.size < B7 by rw [← hB7]; exact HBD.out.lt.2)
      rw [hW8, hB7]
      clear hW8 hB7 hx0 hx1
      go_region_held3 (fun w' => w'.cell? ⟨B7, 0, none⟩ = some (.string x.f0) ∧ w'.cell? ⟨B7, 1, none⟩ = some (.string x.f1)) (first | go_keep | (refine ⟨?_, ?_⟩ <;> assumption) | (go_split_ands; refine ⟨?_, ?_⟩ <;> (refine Eq.trans (hz.cell ?_) ?_; rotate_left; assumption; exact World.block_lt_of_cell? _ _ (by assumption)))) (first | (go_at_call 24; refine (script_hex.calls _ _ (by have := HXM.out; omega)).mono ?_; rintro e w1 ⟨rfl, hz⟩; have HB8 := Aside0.mk (show Below w.heap.size w w1 from by first | exact below_step HB8.out hz | exact below_step (below_drew1 HB8.out) hz); have HBD8 := Aside0.mk (show Bld w.heap.size w.heap.size (sc_toldL sign (l.take k)) w1 from by first | exact HBD8.out.below hz | exact (HBD8.out.below (below_drew1 (Below.refl _ _))).below hz); have BK := Aside0.mk (show w1.heap[B7]? = some (.cells #[.string x.f0, .string x.f1] 49 (0, 0)) from by first | exact blk_below BK.out hz | exact (hz.block B7 (tk_lt BK.out)).trans BK.out)) | (go_at_call 37; refine (bld_WriteString w.heap.size w.heap.size (sc_toldL sign (l.take k)) _ _ HBD8.out (by have := HP5.out; have := HLEN.out; omega) HB8.out.size).mono ?_; rintro e w2 ⟨rfl, hbd, hb2, hok⟩; have hbk := hok B7 _ BK.out (by have := HB7.out; intro e; injection e with e; omega) (by intro c fz e; injection e with _ e _; exact absurd e (by decide)); have g0 := (blk_cell hbk 0).trans rfl; have g1 := (blk_cell hbk 1).trans rfl; have HB9 := Aside0.mk (HB8.out.trans hb2); rw [HD5.out] at hbd; have HBD9 := Aside0.mk hbd; clear hbk hok hbd hb2))
      all_goals (go_wp2_with (fail); go_roundw)
      all_goals first | exact ⟨k + 1, by omega, by go_num, HBD9, HB9⟩ | (simp [intOf]; omega)
    · have hk3 : l.take k = l := List.take_of_length_le (by omega)
      have HBD := Aside0.mk (show Bld w.heap.size w.heap.size (sc_toldL sign l) wr by rw [← hk3]; exact HBD.out)
      clear hk3
      go_wp2_with (go_at_call 38; refine (bld_String w.heap.size w.heap.size (sc_toldL sign l) _ HBD.out HB.out.size).mono ?_; rintro e w1 ⟨rfl, h2⟩; have HB1 := Aside0.mk (HB.out.trans h2); clear h2)
      go_ret
      exact ⟨rfl, HB1.out⟩
theorem sc_strOf (l : List Int) : strOfNums l = sc_bytes l := by
  first | rfl | (unfold strOfNums sc_bytes sc_b; simp)
set_option maxHeartbeats 1600000 in
set_option maxRecDepth 100000 in
theorem script_body.calls (A : Option Addr) (c : Nat) (l : List Int) (w : World) (hr : Kd.C (Kd.int .u8) w A l.length l) (hc : l.length ≤ c) (hl : l.length ≤ 1000000) :
    Calls Tryd.prog 22 #[.slice A l.length c] w fun e w' => e = .returned (.string (sc_b (sc_tail (sc_bw l)))) ∧ Below w.heap.size w w' := by
  have HR := Aside0.mk hr
  clear hr
  cases l with
  | nil =>
    go_enter Tryd.func22, Tryd.ntmps22
    go_wp2_with (fail)
    go_ret
    exact ⟨rfl, Below.refl _ _⟩
  | cons y r =>
    have hn : ((r.length : Int) + 1 == 0) = false := beq_false_of_ne (by omega)
    have hbz : (sc_bytes (y :: r)).size = r.length + 1 := by simp [sc_bytes, sc_b_size]
    have h3 := sc_hexB_size (sc_bytes (y :: r))
    have he : (⟨#[32, 98, 32]⟩ : ByteArray) ++ sc_hexB (sc_bytes (y :: r)) = sc_b (sc_tail (sc_bw (y :: r))) := by
      apply sc_data_inj
      simp [sc_tail, sc_bw, sc_b]
    simp only [List.length_cons] at hl hc HR ⊢
    have hcv0 := fun h => Kd.C_string (P := Tryd.prog) (src := 43) (dst := 9) (e := 5) (c := c) Tryd.underlying43 Tryd.underlying5 Tryd.underlying9 (h := h) (w := w) (A := A) (n := r.length + 1) (xs := y :: r)
    have hcv := hcv0 HR.out
    rw [sc_strOf] at hcv
    obtain ⟨b, hb⟩ : ∃ b, sc_bytes (y :: r) = b := ⟨_, rfl⟩
    rw [hb] at hcv hbz h3 he
    obtain ⟨H, hH⟩ : ∃ H, sc_hexB b = H := ⟨_, rfl⟩
    rw [hH] at h3 he
    obtain ⟨x, hx⟩ : ∃ x, (⟨#[32, 98, 32]⟩ : ByteArray) ++ H = x := ⟨_, rfl⟩
    rw [hx] at he
    have z1 : (9223372036854775807 < (⟨#[32, 98, 32]⟩ : ByteArray).size + H.size) = False := eq_false (by have : (⟨#[32, 98, 32]⟩ : ByteArray).size = 3 := rfl; omega)
    have z2 : (9223372036854775807 < 3 + H.size) = False := eq_false (by omega)
    have HE := Aside0.mk he
    have HBZ := Aside0.mk hbz
    clear hcv0 he hbz h3 hb
    go_enter Tryd.func22, Tryd.ntmps22
    go_wp2_with (go_at_call 24; refine (script_hex.calls _ _ (by have := HBZ.out; omega)).mono ?_; rintro e w1 ⟨rfl, hz⟩; have HB1 := Aside0.mk hz; clear hz)
    go_ret
    refine ⟨?_, HB1.out⟩
    rw [HE.out]
    rfl
end Go.Proofs.YtegmbihjjhhpmaaDoor.T
namespace Go.Proofs.YtegmbihjjhhpmaaDoor.T
open Go.RowKit Go.Proofs.YtegmbihjjhhpmaaDoorW.PrintWords Go.Proofs.YtegmbihjjhhpmaaDoorW.PrintLast Go.Proofs.YtegmbihjjhhpmaaDoorW.PrintMore
open Go.Proofs.YtegmbihjjhhpmaaDoor.PSC
set_option linter.unusedVariables false
set_option linter.unusedSimpArgs false
/-! ### (*taker).hex -/
theorem tk_fr_new {w wr w1 : World} {g : Nat} {row : Option Nat} (h : w.grownBy wr (some g)) (hg : wr.grownBy w1 row) (hr : ∀ k, row = some k → w.heap.size ≤ k) : w.grownBy w1 (some g) :=
  ⟨hg.os.trans h.os, hg.tape.trans h.tape, hg.output.trans h.output, Nat.le_trans h.size hg.size, fun k hk hne => (hg.block k (Nat.lt_of_lt_of_le hk h.size) (fun e => by have := hr k e.symm; omega)).trans (h.block k hk hne)⟩
theorem tk_fr_below {w wr w1 : World} {g : Nat} {B : Nat} (h : w.grownBy wr (some g)) (hb : Below B wr w1) (hB : w.heap.size ≤ B) : w.grownBy w1 (some g) :=
  ⟨hb.os.trans h.os, hb.tape.trans h.tape, hb.output.trans h.output, Nat.le_trans h.size hb.size, fun k hk hne => (hb.block k (Nat.lt_of_lt_of_le hk hB)).trans (h.block k hk hne)⟩
theorem tk_fr_same {w wr w1 : World} {g : Nat} (h : w.grownBy wr (some g)) (hg : wr.grownBy w1 (some g)) : w.grownBy w1 (some g) := World.grownBy.trans h hg
theorem tk_index : ∀ c : UInt8, Lib.indexByte [48, 49, 50, 51, 52, 53, 54, 55, 56, 57, 97, 98, 99, 100, 101, 102] c = (match sc_undig c with | some n => (n : Int) | none => -1) := by
  have h : ∀ i : Fin 256, Lib.indexByte [48, 49, 50, 51, 52, 53, 54, 55, 56, 57, 97, 98, 99, 100, 101, 102] (UInt8.ofNat i.val) = (match sc_undig (UInt8.ofNat i.val) with | some n => (n : Int) | none => -1) := by decide +kernel
  intro c
  have := h ⟨c.toNat, c.toNat_lt⟩
  simpa using this
def sc_ix (c : UInt8) : Int := match sc_undig c with | some n => (n : Int) | none => -1
theorem sc_IndexByte (c : UInt8) (w : World) : Calls Tryd.prog 63 #[.string ⟨#[48, 49, 50, 51, 52, 53, 54, 55, 56, 57, 97, 98, 99, 100, 101, 102]⟩, .int .u8 (c.toNat : Int)] w fun e w' => e = .returned (.int .i64 (sc_ix c)) ∧ w' = w := by
  refine (Go.Proofs.Tryd.strings_IndexByte ⟨#[48, 49, 50, 51, 52, 53, 54, 55, 56, 57, 97, 98, 99, 100, 101, 102]⟩ (c.toNat : Int) w).mono ?_
  rintro e w' ⟨rfl, rfl⟩
  refine ⟨?_, rfl⟩
  have h : ((c.toNat : Int)).toNat.toUInt8 = c := by simp
  rw [h]
  have := tk_index c
  unfold sc_ix
  rw [← this]
theorem sc_conv_nil (W : World) : (convert 43 9 (.slice none 0 0)).run Tryd.prog W = .ok (.string (sc_b [])) W := by
  have h := Kd.C_string (P := Tryd.prog) (src := 43) (dst := 9) (e := 5) (w := W) (A := none) (n := 0) (c := 0) (xs := []) Tryd.underlying43 Tryd.underlying5 Tryd.underlying9 ⟨rfl, by simp, fun h => absurd h (Nat.lt_irrefl 0)⟩
  rw [sc_strOf] at h
  exact h
theorem sc_conv_own {W : World} {base : Nat} {ok : Nat → Prop} {v : Value} {acc : List UInt8} (h : Kd.R (Kd.int .u8) 5 W base ok v (acc.map fun c => (c.toNat : Int))) : (convert 43 9 v).run Tryd.prog W = .ok (.string (sc_b acc)) W := by
  obtain ⟨A, c, rfl, hl, hr⟩ := Kd.R_reads h
  have h := Kd.C_string (P := Tryd.prog) (src := 43) (dst := 9) (e := 5) (c := c) Tryd.underlying43 Tryd.underlying5 Tryd.underlying9 hr
  rw [sc_strOf] at h
  have e : sc_bytes (acc.map fun c => (c.toNat : Int)) = sc_b acc := sc_bytes_ints (sc_b acc)
  rw [e] at h
  exact h
theorem tk_R_set {W : World} {g N : Nat} {t : Tk} {base : Nat} {ok : Nat → Prop} {v : Value} {l : List Int} (hT : TkSt g N t W) (h : Kd.R (Kd.int .u8) 5 W base ok v l) (j : Nat) (u : Value) : Kd.R (Kd.int .u8) 5 (W.setCell ⟨g, j, none⟩ u) base ok v l := by
  obtain ⟨A, c, hb⟩ := TkSt.cells hT
  exact Kd.R_set h hb (by intro q hq; have : q = 5 := by simpa [Kd.int, Kd.scalar] using hq
                          subst this; decide) j u
theorem sc_bits (p q : Nat) (hp : p < 16) (hq : q < 16) : bits BinOp.or IntKind.i64 ((p : Int) * 16) (q : Int) % 256 = ((UInt8.ofNat (16 * p + q)).toNat : Int) := by
  have h : ∀ i j : Fin 16, bits BinOp.or IntKind.i64 ((i.val : Int) * 16) (j.val : Int) % 256 = ((UInt8.ofNat (16 * i.val + j.val)).toNat : Int) := by decide +kernel
  exact h ⟨p, hp⟩ ⟨q, hq⟩
set_option maxHeartbeats 6400000 in
set_option maxRecDepth 100000 in
theorem taker_hex.calls (g N : Nat) (t : Tk) (w : World) (h : TkSt g N t w) :
    Calls Tryd.prog 49 #[.pointer (some ⟨g, 0, none⟩)] w fun e w' => e = .returned (.string (tk_hex t).1) ∧ TkSt g N (tk_hex t).2 w' ∧ w.grownBy w' (some g) := by
  have HS := Aside0.mk h
  have hcn := sc_conv_nil
  have hsz : (tk_word t).1.size ≤ 4294967280 := by
    obtain ⟨_, A, c, _, h1, h2, h3, h4, h5⟩ := h
    obtain ⟨l, b⟩ := t
    cases l with
    | nil => exact Nat.zero_le _
    | cons x r => exact h4 x (by simp)
  have hT : tk_hex t = if (tk_word t).1 = sc_b [45] then (sc_b [], (tk_word t).2)
    else if (tk_word t).2.2 = true ∨ (tk_word t).1.size = 0 ∨ (tk_word t).1.size % 2 ≠ 0 then (sc_b [], ((tk_word t).2.1, true))
    else (sc_b (sc_pairs (tk_word t).1.data.toList).1, ((tk_word t).2.1, !(sc_pairs (tk_word t).1.data.toList).2)) := rfl
  clear h
  have HW := Aside0.mk (taker_word.calls g N t w HS.out)
  obtain ⟨x, hx⟩ : ∃ x, (tk_word t).1 = x := ⟨_, rfl⟩
  obtain ⟨u, hu⟩ : ∃ u, (tk_word t).2 = u := ⟨_, rfl⟩
  rw [hx, hu] at hT HW
  rw [hx] at hsz
  rw [hT]
  clear hT hx hu
  by_cases h45 : x = sc_b [45]
  · rw [if_pos h45]
    have e45 : (x.toList == [45]) = true := by rw [h45]; rw [Lib.toList_data]; rfl
    clear h45
    go_enter Tryd.func49, Tryd.ntmps49
    go_wp2_with (go_at_call 44; refine HW.out.mono ?_; rintro e w1 ⟨rfl, ht, hg⟩; have HT1 := Aside0.mk ht; have HG1 := Aside0.mk hg; clear ht hg)
    go_ret
    exact ⟨rfl, HT1.out, HG1.out⟩
  · rw [if_neg h45]
    have e45 : (x.toList == [45]) = false := beq_false_of_ne (fun e => h45 (sc_data_inj (by rw [Lib.toList_data] at e; exact e)))
    clear h45
    by_cases hbad : u.2 = true ∨ x.size = 0 ∨ x.size % 2 ≠ 0
    · rw [if_pos hbad]
      obtain ⟨u1, u2⟩ := u
      simp only at hbad HW ⊢
      cases u2 with
      | true =>
        clear hbad
        go_enter Tryd.func49, Tryd.ntmps49
        go_wp2_with (go_at_call 44; refine HW.out.mono ?_; rintro e w1 ⟨rfl, ht, hg⟩; have c1 : w1.cell? ⟨g, 1, none⟩ = some (.bool true) := (by obtain ⟨A, c, hb⟩ := (TkSt.cells ht); exact (blk_cell hb 1).trans (by first | rfl | (simp; assumption))); have f1 : w1.frozen? ⟨g, 1, none⟩ = false := (by obtain ⟨A, c, hb⟩ := (TkSt.cells ht); exact blk_frozen hb 1); have HT1 := Aside0.mk ht; have HG1 := Aside0.mk hg; clear ht hg)
        go_loopw [4, 5] (fun v4 v5 wr => v4 = .slice none 0 0 ∧ wr = w1.setCell ⟨g, 1, none⟩ (.bool true)) (fun _ _ _ => 0)
        case atStart => exact ⟨rfl, rfl⟩
        case round =>
          obtain ⟨rfl, rfl⟩ := hrel
          go_wp2_with (fail)
          go_ret
          exact ⟨rfl, HT1.out.bad true, tk_fr_same HG1.out (tk_grown1 _ _ _ _)⟩
      | false =>
        by_cases h0 : x.size = 0
        · have eE : x.toList.isEmpty = true := by
            rw [Lib.toList_data, List.isEmpty_iff]
            exact List.eq_nil_of_length_eq_zero h0
          clear hbad h0
          go_enter Tryd.func49, Tryd.ntmps49
          go_wp2_with (go_at_call 44; refine HW.out.mono ?_; rintro e w1 ⟨rfl, ht, hg⟩; have c1 : w1.cell? ⟨g, 1, none⟩ = some (.bool false) := (by obtain ⟨A, c, hb⟩ := (TkSt.cells ht); exact (blk_cell hb 1).trans (by first | rfl | (simp; assumption))); have f1 : w1.frozen? ⟨g, 1, none⟩ = false := (by obtain ⟨A, c, hb⟩ := (TkSt.cells ht); exact blk_frozen hb 1); have HT1 := Aside0.mk ht; have HG1 := Aside0.mk hg; clear ht hg)
          go_loopw [4, 5] (fun v4 v5 wr => v4 = .slice none 0 0 ∧ wr = w1.setCell ⟨g, 1, none⟩ (.bool true)) (fun _ _ _ => 0)
          case atStart => exact ⟨rfl, rfl⟩
          case round =>
            obtain ⟨rfl, rfl⟩ := hrel
            go_wp2_with (fail)
            go_ret
            exact ⟨rfl, HT1.out.bad true, tk_fr_same HG1.out (tk_grown1 _ _ _ _)⟩
        · have eE : x.toList.isEmpty = false := by
            rw [Lib.toList_data]
            cases hx : x.data.toList with
            | nil => exact absurd (show x.size = 0 by show x.data.toList.length = 0; rw [hx]; rfl) h0
            | cons => rfl
          have hodd : x.size % 2 ≠ 0 := by
            rcases hbad with h | h | h
            · cases h
            · exact absurd h h0
            · exact h
          have em : ((x.size : Int) % 2 != 0) = true := by simp; omega
          clear hbad
          go_enter Tryd.func49, Tryd.ntmps49
          go_wp2_with (go_at_call 44; refine HW.out.mono ?_; rintro e w1 ⟨rfl, ht, hg⟩; have c1 : w1.cell? ⟨g, 1, none⟩ = some (.bool false) := (by obtain ⟨A, c, hb⟩ := (TkSt.cells ht); exact (blk_cell hb 1).trans (by first | rfl | (simp; assumption))); have f1 : w1.frozen? ⟨g, 1, none⟩ = false := (by obtain ⟨A, c, hb⟩ := (TkSt.cells ht); exact blk_frozen hb 1); have HT1 := Aside0.mk ht; have HG1 := Aside0.mk hg; clear ht hg)
          go_loopw [4, 5] (fun v4 v5 wr => v4 = .slice none 0 0 ∧ wr = w1.setCell ⟨g, 1, none⟩ (.bool true)) (fun _ _ _ => 0)
          case atStart => exact ⟨rfl, rfl⟩
          case round =>
            obtain ⟨rfl, rfl⟩ := hrel
            go_wp2_with (fail)
            go_ret
            exact ⟨rfl, HT1.out.bad true, tk_fr_same HG1.out (tk_grown1 _ _ _ _)⟩
    · rw [if_neg hbad]
      simp only [not_or, Bool.not_eq_true, ne_eq, Classical.not_not] at hbad
      obtain ⟨hb1, hb2, hb3⟩ := hbad
      obtain ⟨u1, u2⟩ := u
      simp only at hb1 HW ⊢
      subst hb1
      have eE : x.toList.isEmpty = false := by
        rw [Lib.toList_data]
        cases hx : x.data.toList with
        | nil => exact absurd (show x.size = 0 by show x.data.toList.length = 0; rw [hx]; rfl) hb2
        | cons => rfl
      have em : ((x.size : Int) % 2 != 0) = false := by simp; omega
      have HX2 := Aside0.mk hb3
      clear hb2 hb3 hcn
      go_enter Tryd.func49, Tryd.ntmps49
      go_wp2_with (go_at_call 44; refine HW.out.mono ?_; rintro e w1 ⟨rfl, ht, hg⟩; have c1 : w1.cell? ⟨g, 1, none⟩ = some (.bool false) := (by obtain ⟨A, c, hb⟩ := (TkSt.cells ht); exact (blk_cell hb 1).trans (by first | rfl | (simp; assumption))); have f1 : w1.frozen? ⟨g, 1, none⟩ = false := (by obtain ⟨A, c, hb⟩ := (TkSt.cells ht); exact blk_frozen hb 1); have HT1 := Aside0.mk ht; have HG1 := Aside0.mk hg; clear ht hg)
      have HT2 := Aside0.mk (HT1.out.bad false)
      have HG2 := Aside0.mk (tk_fr_same HG1.out (tk_grown1 w1 g 1 (.bool false)))
      obtain ⟨W2, hW2⟩ : ∃ W, w1.setCell ⟨g, 1, none⟩ (.bool false) = W := ⟨_, rfl⟩
      rw [hW2] at HT2 HG2 ⊢
      clear hW2 c1 f1 HT1 HG1
      go_loopw [4, 5] (fun v4 v5 wr => ∃ (m : Nat) (acc : List UInt8), m ≤ x.size ∧ v5 = .int .i64 (m : Int) ∧ Aside0 (sc_pairs x.data.toList = (acc ++ (sc_pairs (x.data.toList.drop m)).1, (sc_pairs (x.data.toList.drop m)).2)) ∧ Aside0 (m = 2 * acc.length) ∧ Aside0 (Kd.R (Kd.int .u8) 5 wr w.heap.size (fun _ => True) v4 (acc.map fun c => (c.toNat : Int))) ∧ Aside0 (TkSt g N (u1, false) wr) ∧ Aside0 (w.grownBy wr (some g))) (fun _ v5 _ => x.size - (intOf v5).toNat)
      case atStart => exact ⟨0, [], by omega, rfl, ⟨rfl⟩, ⟨rfl⟩, ⟨Kd.R_nil _ _ _ _ _⟩, HT2, HG2⟩
      case round =>
        obtain ⟨m, acc, hk, rfl, HP, HM, HR, HTr, HGr⟩ := hrel
        have c1 : wr.cell? ⟨g, 1, none⟩ = some (.bool false) := (by obtain ⟨A, c, hb⟩ := (TkSt.cells HTr.out); exact (blk_cell hb 1).trans rfl)
        have f1 : wr.frozen? ⟨g, 1, none⟩ = false := (by obtain ⟨A, c, hb⟩ := (TkSt.cells HTr.out); exact blk_frozen hb 1)
        by_cases hk2 : m < x.size
        · have hk3 : m + 1 < x.size := by have := HM.out; have := HX2.out; omega
          obtain ⟨a, ha⟩ : ∃ a, x[m] = a := ⟨_, rfl⟩
          obtain ⟨b, hb⟩ : ∃ b, x[m + 1] = b := ⟨_, rfl⟩
          have hd : x.data.toList.drop m = a :: b :: x.data.toList.drop (m + 2) := by
            rw [List.drop_eq_getElem_cons (show m < x.data.toList.length from hk2), List.drop_eq_getElem_cons (show m + 1 < x.data.toList.length from hk3)]
            congr 1
            congr 1
          have HD := Aside0.mk hd
          have hi1 : (m : Int) < (x.size : Int) := by omega
          have hi2 : (m : Int) + 1 < (x.size : Int) := by omega
          have hi3 : (0 : Int) ≤ (m : Int) + 1 := by omega
          have hi4 : IntKind.i64.wrap ((m : Int) + 1) = (m : Int) + 1 := by unfold IntKind.wrap; simp [IntKind.signed, IntKind.bits]; omega
          clear hd
          go_upto_region 9 with (fail)
          have hQa : ∀ q, Calls Tryd.prog 63 #[.string ⟨#[48, 49, 50, 51, 52, 53, 54, 55, 56, 57, 97, 98, 99, 100, 101, 102]⟩, .int .u8 (a.toNat : Int)] (wr.drewN q) fun e w' => e = .returned (.int .i64 (sc_ix a)) ∧ ∃ n, w' = (wr.drewN q).drewN n := fun q => (sc_IndexByte a _).mono fun e w' h => ⟨h.1, 0, h.2⟩
          have hQb : ∀ q, Calls Tryd.prog 63 #[.string ⟨#[48, 49, 50, 51, 52, 53, 54, 55, 56, 57, 97, 98, 99, 100, 101, 102]⟩, .int .u8 (b.toNat : Int)] (wr.drewN q) fun e w' => e = .returned (.int .i64 (sc_ix b)) ∧ ∃ n, w' = (wr.drewN q).drewN n := fun q => (sc_IndexByte b _).mono fun e w' h => ⟨h.1, 0, h.2⟩
          go_quiet (first | (go_at_call 63; exact Calls.quiet_of (hQa _)) | (go_at_call 63; exact Calls.quiet_of (hQb _)))
          obtain ⟨W3, hW3⟩ : ∃ W, wr.drewN nq = W := ⟨_, rfl⟩
          have hb3 : Below wr.heap.size wr W3 := by rw [← hW3]; exact pw_below_drewN (Below.refl _ _) _
          have HT3 := Aside0.mk (HTr.out.below hb3)
          have HR3 := Aside0.mk (Kd.R_below HR.out hb3)
          have HG3 := Aside0.mk (tk_fr_below HGr.out hb3 HGr.out.size)
          have f3 : W3.frozen? ⟨g, 1, none⟩ = false := (by obtain ⟨A, c, hb⟩ := (TkSt.cells HT3.out); exact blk_frozen hb 1)
          rw [hW3]
          clear hW3 hb3 hQa hQb c1 f1 HTr HR HGr
          have c3 : W3.cell? ⟨g, 1, none⟩ = some (.bool false) := (by obtain ⟨A, c, hb⟩ := (TkSt.cells HT3.out); exact (blk_cell hb 1).trans rfl)
          cases hua : sc_undig a with
          | none =>
            have e1 : sc_ix a = -1 := by unfold sc_ix; rw [hua]
            have hcv := sc_conv_own (tk_R_set HT3.out HR3.out 1 (.bool true))
            have HX := Aside0.mk (show sc_pairs x.data.toList = (acc, false) by rw [HP.out, HD.out, sc_pairs, hua]; simp)
            clear hua
            go_wp2_with (fail)
            go_ret
            rw [HX.out]
            exact ⟨rfl, HT3.out.bad true, tk_fr_same HG3.out (tk_grown1 _ _ _ _)⟩
          | some p =>
            have e1 : sc_ix a = (p : Int) := by unfold sc_ix; rw [hua]
            have hp := (sc_dig_undig a p hua).1
            have hp0 : ((p : Int) < 0) = False := eq_false (by omega)
            cases hub : sc_undig b with
            | none =>
              have e2 : sc_ix b = -1 := by unfold sc_ix; rw [hub]
              have hcv := sc_conv_own (tk_R_set HT3.out HR3.out 1 (.bool true))
              have HX := Aside0.mk (show sc_pairs x.data.toList = (acc, false) by rw [HP.out, HD.out, sc_pairs, hua, hub]; simp)
              clear hua hub
              go_wp2_with (fail)
              go_ret
              rw [HX.out]
              exact ⟨rfl, HT3.out.bad true, tk_fr_same HG3.out (tk_grown1 _ _ _ _)⟩
            | some q =>
              have e2 : sc_ix b = (q : Int) := by unfold sc_ix; rw [hub]
              have hq := (sc_dig_undig b q hub).1
              have hq0 : ((q : Int) < 0) = False := eq_false (by omega)
              have HX := Aside0.mk (show sc_pairs x.data.toList = ((acc ++ [UInt8.ofNat (16 * p + q)]) ++ (sc_pairs (x.data.toList.drop (m + 2))).1, (sc_pairs (x.data.toList.drop (m + 2))).2) by rw [HP.out, HD.out, sc_pairs, hua, hub]; simp)
              clear hua hub
              have hbits := sc_bits p q hp hq
              obtain ⟨c, hc⟩ : ∃ c, UInt8.ofNat (16 * p + q) = c := ⟨_, rfl⟩
              rw [hc] at hbits HX
              have hle : acc.length + 1 ≤ 140737488355328 := by have := HM.out; omega
              have HLE := Aside0.mk hle
              clear hc hle
              have hwm : IntKind.i64.wrap ((m : Int) + 2) = (m : Int) + 2 := by unfold IntKind.wrap; simp [IntKind.signed, IntKind.bits]; omega
              go_wp2_with (first | ((with_reducible refine gate_builtin (b := .append) (xs := #[.tmp 60, .tmp 66]) rfl ?_); (try (refine gate_guard (by rfl) ?_; dsimp only)); at_builtin; refine Kd.R_append (Kd.int .u8) (w0 := W3) w.heap.size rfl (.tmp 60) (.tmp 66) 43 5 (.int .u8 0) 1 rfl Tryd.underlying43 bld_info5 rfl (by decide) (by omega) u4 (acc.map fun c => (c.toNat : Int)) (c.toNat : Int) [.int .u8 (c.toNat : Int)] (fun _ => True) (fun _ => False) rfl ?aX ?aP (fun _ hk => hk.elim) (fun _ _ => trivial) HR3.out ?aB ?aS ?aL ?_; (case aX => first | rfl | (simp only [hbits]; rfl)); (case aP => rfl); (case aB => exact (Below.refl w.heap.size W3)); (case aS => exact HG3.out.size); (case aL => (rw [List.length_map]; have := HLE.out; omega)); intro v1 w1 ho hb hg hat; have HO1 := Aside0.mk ho; have HB1 := Aside0.mk hb; have HGG := Aside0.mk hg; clear ho hb hg hat))
              have hob : ∀ k, u4.ownBlock = some k → w.heap.size ≤ k := fun k hk => own_base (Kd.R_own HR3.out).choose_spec k hk
              have hT4 := HT3.out.grown HGG.out (fun k hk => Nat.le_trans HS.out.1.2 (hob k hk))
              have hG4 := tk_fr_new HG3.out HGG.out hob
              exact ⟨⟨m + 2, acc ++ [c], by omega, by go_num, HX, ⟨by have := HM.out; simp; omega⟩, ⟨by rw [List.map_append]; exact HO1.out⟩, ⟨hT4⟩, ⟨hG4⟩⟩, by simp [intOf]; omega⟩
        · have hd : x.data.toList.drop m = [] := List.drop_eq_nil_of_le (by have : x.data.toList.length = x.size := rfl; omega)
          have hcv := sc_conv_own HR.out
          have HX := Aside0.mk (show sc_pairs x.data.toList = (acc, true) by rw [HP.out, hd]; simp [sc_pairs])
          clear hd
          go_wp2_with (fail)
          go_ret
          rw [HX.out]
          exact ⟨rfl, HTr.out, HGr.out⟩
end Go.Proofs.YtegmbihjjhhpmaaDoor.T
namespace Go.Proofs.YtegmbihjjhhpmaaDoor.T
open Go.RowKit Go.Proofs.YtegmbihjjhhpmaaDoorW.PrintWords Go.Proofs.YtegmbihjjhhpmaaDoorW.PrintLast Go.Proofs.YtegmbihjjhhpmaaDoorW.PrintMore
open Go.Proofs.YtegmbihjjhhpmaaDoor.PSC
set_option linter.unusedVariables false
set_option linter.unusedSimpArgs false
/-! ### the tables; (*taker).number -/
def ScVar (w : World) (n : String) : Prop := ∃ tp p, w.var? Tryd.prog n = some #[.iface tp p]
def ScTab (w : World) : Prop := Lib.TabIs Tryd.prog w "internal/strconv.uint64pow10" .u64 Lib.pow10Tab ∧ ScVar w "strconv.ErrSyntax" ∧ ScVar w "strconv.ErrRange" ∧ ∃ m, w.cell? ⟨1, 0, none⟩ = some (.int .i64 m)
theorem ScVar.below {w w' : World} {n : String} (h : ScVar w n) (hb : Below w.heap.size w w') : ScVar w' n := by
  obtain ⟨tp, p, h⟩ := h
  refine ⟨tp, p, ?_⟩
  unfold World.var? at *
  obtain ⟨g, hg, h⟩ := Option.bind_eq_some_iff.mp h
  rw [hg, Option.bind_some]
  have hlt : g < w.heap.size := by
    by_cases hh : g < w.heap.size
    · exact hh
    · rw [Array.getElem?_eq_none (by omega)] at h; cases h
  rw [hb.block g hlt]
  exact h
theorem ScTab.below {w w' : World} (h0 : ScTab w) (hb : Below w.heap.size w w') : ScTab w' := by
  obtain ⟨h, v1, v2, m, hm⟩ := h0
  refine ⟨?_, v1.below hb, v2.below hb, m, pw_cell_below hb hm⟩
  unfold Lib.TabIs World.var? at *
  obtain ⟨g, hg, h⟩ := Option.bind_eq_some_iff.mp h
  rw [hg, Option.bind_some]
  have hlt : g < w.heap.size := by
    by_cases hh : g < w.heap.size
    · exact hh
    · rw [Array.getElem?_eq_none (by omega)] at h; cases h
  rw [hb.block g hlt]
  exact h
theorem sc_grow (w : World) (k : Nat) (os : Array Obj) : Below w.heap.size w (Go.Sort.grow (w.drewN k) os) := by
  refine ⟨rfl, rfl, rfl, ?_, fun g hg => ?_⟩
  · show w.heap.size ≤ (w.heap ++ os).size
    rw [Array.size_append]; omega
  · show (w.heap ++ os)[g]? = w.heap[g]?
    rw [Array.getElem?_append_left hg]
theorem sc_Itoa (n : Int) (w : World) (h : sc_ok64 n) (hT : ScTab w) :
    Calls Tryd.prog 23 #[.int .i64 n] w fun e w' => e = .returned (.string (sc_b (Lib.itoa n))) ∧ Below w.heap.size w w' :=
  (Go.Proofs.Tryd.strconv_Itoa n h.1 h.2 w hT.1).mono fun e w' ⟨he, k, os, hw⟩ => ⟨he, by rw [hw]; exact sc_grow w k os⟩
theorem sc_FormatInt (n : Int) (w : World) (h : sc_ok64 n) (hT : ScTab w) :
    Calls Tryd.prog 62 #[.int .i64 n, .int .i64 10] w fun e w' => e = .returned (.string (sc_b (Lib.itoa n))) ∧ Below w.heap.size w w' :=
  (Go.Proofs.Tryd.strconv_FormatInt_10 n h.1 h.2 w hT.1).mono fun e w' ⟨he, k, os, hw⟩ => ⟨he, by rw [hw]; exact sc_grow w k os⟩
/-- ParseInt: a number and no error, or the number that it hands back beside an error. -/
theorem sc_ParseInt (s : ByteArray) (w : World) (hs : s.size ≤ 4294967280) (hT : ScTab w) :
    Calls Tryd.prog 61 #[.string s, .int .i64 10, .int .i64 64] w fun e w' => ∃ v, e = .returned (.tuple #[.int .i64 (sc_num s), v]) ∧ (((∃ n, Lib.parseIntB 64 s.data.toList = .ok n ∧ sc_num s = n) ∧ v = .nilIface) ∨ (sc_isNum s = false ∧ ∃ tp p, v = .iface tp p)) ∧ Below w.heap.size w w' := by
  cases hp : Lib.parseIntB 64 s.data.toList with
  | ok n =>
    have hn : sc_num s = n := by unfold sc_num; rw [hp]
    refine (Go.Proofs.Tryd.strconv_ParseInt_10_at64_ok s (by omega) n hp w).mono ?_
    rintro e w' ⟨rfl, h⟩
    refine ⟨_, by rw [hn], .inl ⟨⟨n, rfl, hn⟩, rfl⟩, ?_⟩
    rcases h with rfl | ⟨t, rfl⟩
    · exact Below.refl _ _
    · exact Lib.bytesWorld_below _ _ _
  | range =>
    have hn : sc_num s = Lib.intSat 64 s.data.toList := by unfold sc_num; rw [hp]
    have hi : sc_isNum s = false := by unfold sc_isNum; rw [hp]
    obtain ⟨_, _, ⟨tp, p, hv⟩, _⟩ := hT
    refine (Go.Proofs.Tryd.strconv_ParseInt_10_at64_range_var s (by omega) hp tp p w hv).mono ?_
    rintro e w' ⟨N, rfl, _, _, hb⟩
    exact ⟨_, by rw [hn], .inr ⟨hi, _, _, rfl⟩, hb⟩
  | _ =>
    have hn : sc_num s = 0 := by unfold sc_num; rw [hp]
    have hi : sc_isNum s = false := by unfold sc_isNum; rw [hp]
    obtain ⟨_, ⟨tp, p, hv⟩, _, _⟩ := hT
    refine (Go.Proofs.Tryd.strconv_ParseInt_10_at64_syntax_var s (by omega) hp tp p w hv).mono ?_
    rintro e w' ⟨N, rfl, _, _, hb⟩
    exact ⟨_, by rw [hn], .inr ⟨hi, _, _, rfl⟩, hb⟩
set_option maxHeartbeats 3200000 in
set_option maxRecDepth 100000 in
theorem taker_number.calls (g N : Nat) (t : Tk) (w w0 : World) (h : TkSt g N t w) (hT : ScTab w0) (hw0 : Below w0.heap.size w0 w) (hg : w0.heap.size ≤ g) :
    Calls Tryd.prog 47 #[.pointer (some ⟨g, 0, none⟩)] w fun e w' => e = .returned (.int .i64 (tk_number t).1) ∧ TkSt g N (tk_number t).2 w' ∧ w.grownBy w' (some g) := by
  have HS := Aside0.mk h
  have HT := Aside0.mk hT
  have H0 := Aside0.mk hw0
  have hsz : (tk_word t).1.size ≤ 4294967280 := by
    obtain ⟨_, A, c, _, h1, h2, h3, h4, h5⟩ := h
    obtain ⟨l, b⟩ := t
    cases l with
    | nil => exact Nat.zero_le _
    | cons x r => exact h4 x (by simp)
  have hN : tk_number t = (sc_num (tk_word t).1, ((tk_word t).2.1, (tk_word t).2.2 || !sc_isNum (tk_word t).1)) := rfl
  clear h hT hw0
  have HW := Aside0.mk (taker_word.calls g N t w HS.out)
  obtain ⟨x, hx⟩ : ∃ x, (tk_word t).1 = x := ⟨_, rfl⟩
  obtain ⟨u, hu⟩ : ∃ u, (tk_word t).2 = u := ⟨_, rfl⟩
  rw [hx, hu] at hN HW
  rw [hx] at hsz
  rw [hN]
  clear hN hx hu
  obtain ⟨u1, u2⟩ := u
  simp only at HW ⊢
  go_enter Tryd.func47, Tryd.ntmps47
  go_upto_region 2 with (go_at_call 44; refine HW.out.mono ?_; rintro e w1 ⟨rfl, ht, hgr⟩; have HT1 := Aside0.mk ht; have HG1 := Aside0.mk hgr; have HB1 := Aside0.mk (show Below w0.heap.size w0 w1 from H0.out.grown hgr H0.out.size (fun k hk => by injection hk with hk; omega)); clear ht hgr)
  go_upto_region 3 with (go_at_call 61; refine (sc_ParseInt x _ hsz (HT.out.below HB1.out)).mono ?_; rintro e w2 ⟨v, rfl, hv, hz⟩; have HT2 := Aside0.mk (HT1.out.below hz); have HB2 := Aside0.mk (below_step HB1.out hz); have HG2 := Aside0.mk (tk_fr_below HG1.out hz HG1.out.size); have HV := Aside0.mk hv; clear hz hv)
  have c1 : w2.cell? ⟨g, 1, none⟩ = some (.bool u2) := (by obtain ⟨A, c, hb⟩ := (TkSt.cells HT2.out); exact (blk_cell hb 1).trans rfl)
  have f1 : w2.frozen? ⟨g, 1, none⟩ = false := (by obtain ⟨A, c, hb⟩ := (TkSt.cells HT2.out); exact blk_frozen hb 1)
  rcases HV.out with ⟨⟨n, hp, hn⟩, rfl⟩ | ⟨hi, tp, p, rfl⟩
  · clear HV
    cases u2 with
    | true =>
      clear hp hn
      go_wp2_with (fail)
      go_ret
      exact ⟨rfl, HT2.out.bad true, tk_fr_same HG2.out (tk_grown1 _ _ _ _)⟩
    | false =>
      have hI : sc_isNum x = (Lib.itoa n == x.data.toList) := by unfold sc_isNum; rw [hp]
      have hR := sc_num_ok x
      have HR := Aside0.mk hR
      cases hE : sc_isNum x with
      | true =>
        have e1 : ((sc_b (Lib.itoa (sc_num x))).toList == x.toList) = true := by rw [Lib.toList_data, Lib.toList_data, sc_b_data, hn, ← hI]; exact hE
        have HE := Aside0.mk hE
        clear hI hE hp hn hR
        go_wp2_with (go_at_call 62; refine (sc_FormatInt _ _ HR.out (HT.out.below HB2.out)).mono ?_; rintro e w3 ⟨rfl, hz⟩; have c3 := pw_cell_below hz c1; have HT3 := Aside0.mk (HT2.out.below hz); have HG3 := Aside0.mk (tk_fr_below HG2.out hz HG2.out.size); have f3 : w3.frozen? ⟨g, 1, none⟩ = false := (by obtain ⟨A, c, hb⟩ := (TkSt.cells HT3.out); exact blk_frozen hb 1); clear hz)
        go_ret
        exact ⟨rfl, by rw [HE.out]; exact HT3.out.bad false, tk_fr_same HG3.out (tk_grown1 _ _ _ _)⟩
      | false =>
        have e1 : ((sc_b (Lib.itoa (sc_num x))).toList == x.toList) = false := by rw [Lib.toList_data, Lib.toList_data, sc_b_data, hn, ← hI]; exact hE
        have HE := Aside0.mk hE
        clear hI hE hp hn hR
        go_wp2_with (go_at_call 62; refine (sc_FormatInt _ _ HR.out (HT.out.below HB2.out)).mono ?_; rintro e w3 ⟨rfl, hz⟩; have c3 := pw_cell_below hz c1; have HT3 := Aside0.mk (HT2.out.below hz); have HG3 := Aside0.mk (tk_fr_below HG2.out hz HG2.out.size); have f3 : w3.frozen? ⟨g, 1, none⟩ = false := (by obtain ⟨A, c, hb⟩ := (TkSt.cells HT3.out); exact blk_frozen hb 1); clear hz)
        go_ret
        exact ⟨rfl, by rw [HE.out]; exact HT3.out.bad true, tk_fr_same HG3.out (tk_grown1 _ _ _ _)⟩
  · clear HV
    have HI := Aside0.mk hi
    clear hi
    cases u2 with
    | true =>
      go_wp2_with (fail)
      go_ret
      exact ⟨rfl, by rw [HI.out]; exact HT2.out.bad true, tk_fr_same HG2.out (tk_grown1 _ _ _ _)⟩
    | false =>
      go_wp2_with (fail)
      go_ret
      exact ⟨rfl, by rw [HI.out]; exact HT2.out.bad true, tk_fr_same HG2.out (tk_grown1 _ _ _ _)⟩
end Go.Proofs.YtegmbihjjhhpmaaDoor.T
namespace Go.Proofs.YtegmbihjjhhpmaaDoor.T
open Go.RowKit Go.Proofs.YtegmbihjjhhpmaaDoorW.PrintWords Go.Proofs.YtegmbihjjhhpmaaDoorW.PrintLast Go.Proofs.YtegmbihjjhhpmaaDoorW.PrintMore
open Go.Proofs.YtegmbihjjhhpmaaDoor.PSC
set_option linter.unusedVariables false
set_option linter.unusedSimpArgs false
/-! ### slices.Clip; rows with the spare room cut off -/
theorem clip_fields.calls (A : Option Addr) (n c : Nat) (w : World) (hn : n ≤ c) (hm : n ≤ 9223372036854775807) :
    Calls Tryd.prog 60 #[.slice A n c] w fun e w' => e = .returned (.slice A n n) ∧ w' = w := by
  go_enter Tryd.func60, Tryd.ntmps60
  go_wp2_with (fail)
  go_ret
  exact ⟨rfl, rfl⟩
theorem clip_bytes.calls (A : Option Addr) (n c : Nat) (w : World) (hn : n ≤ c) (hm : n ≤ 9223372036854775807) :
    Calls Tryd.prog 48 #[.slice A n c] w fun e w' => e = .returned (.slice A n n) ∧ w' = w := by
  go_enter Tryd.func48, Tryd.ntmps48
  go_wp2_with (fail)
  go_ret
  exact ⟨rfl, rfl⟩
theorem clip_events.calls (A : Option Addr) (n c : Nat) (w : World) (hn : n ≤ c) (hm : n ≤ 9223372036854775807) :
    Calls Tryd.prog 43 #[.slice A n c] w fun e w' => e = .returned (.slice A n n) ∧ w' = w := by
  go_enter Tryd.func43, Tryd.ntmps43
  go_wp2_with (fail)
  go_ret
  exact ⟨rfl, rfl⟩
theorem clip_rules.calls (A : Option Addr) (n c : Nat) (w : World) (hn : n ≤ c) (hm : n ≤ 9223372036854775807) :
    Calls Tryd.prog 53 #[.slice A n c] w fun e w' => e = .returned (.slice A n n) ∧ w' = w := by
  go_enter Tryd.func53, Tryd.ntmps53
  go_wp2_with (fail)
  go_ret
  exact ⟨rfl, rfl⟩
/-- A row of one's own whose spare room was cut off. -/
def ClipR {α : Type} (d : Kd α) (e : Nat) (w : World) (base : Nat) (ok : Nat → Prop) (A : Option Addr) (xs : List α) : Prop := ∃ c, xs.length ≤ c ∧ d.R e w base ok (.slice A xs.length c) xs
def Kd.cl {α : Type} (e : Nat) (d : Kd α) : Kd (List α) :=
  { Kd.slice e d with
    M := fun w base ok xs cs => ∃ A, cs = [.slice A xs.length xs.length] ∧ ClipR d e w base ok A xs
    K_of_M := by
      rintro w base ok x cs ⟨A, rfl, c, hl, h⟩
      obtain ⟨A2, c2, e2, hl2, hr⟩ := Kd.R_reads h
      injection e2 with e2 _ _
      subst e2
      exact ⟨A, x.length, rfl, Nat.le_refl _, hr⟩
    M_mono := by
      rintro w base ok ok' x cs hok ⟨A, rfl, c, hl, h⟩
      exact ⟨A, rfl, c, hl, Kd.R_mono h hok⟩
    M_bound := by
      rintro w base ok x cs ⟨A, rfl, c, hl, h⟩
      exact ⟨A, rfl, c, hl, Kd.R_bound h⟩
    M_move := by
      rintro w w1 base ok x cs hm ⟨A, rfl, c, hl, h⟩
      exact ⟨A, rfl, c, hl, Kd.R_move h hm⟩
    M_lower := by
      rintro w base base' ok x cs hb ⟨A, rfl, c, hl, h⟩
      exact ⟨A, rfl, c, hl, Kd.R_lower h hb⟩ }
theorem Kd.cl_K {α : Type} (e : Nat) (d : Kd α) : (Kd.cl e d).K = (Kd.slice e d).K := rfl
theorem Kd.cl_sz {α : Type} (e : Nat) (d : Kd α) : (Kd.cl e d).sz = 1 := rfl
section
variable {α : Type} {d : Kd α} {e : Nat} {w w1 : World} {base : Nat} {ok ok' : Nat → Prop} {A : Option Addr} {xs : List α}
theorem ClipR.reads (h : ClipR d e w base ok A xs) : d.C w A xs.length xs := by
  obtain ⟨c, hl, h⟩ := h
  obtain ⟨A2, c2, e2, hl2, hr⟩ := Kd.R_reads h
  injection e2 with e2 _ _
  subst e2
  exact hr
theorem ClipR.mono (h : ClipR d e w base ok A xs) (hok : ∀ k, ok k → ok' k) : ClipR d e w base ok' A xs := by
  obtain ⟨c, hl, h⟩ := h
  exact ⟨c, hl, Kd.R_mono h hok⟩
theorem ClipR.below (h : ClipR d e w base ok A xs) (hb : Below w.heap.size w w1) : ClipR d e w1 base ok A xs := by
  obtain ⟨c, hl, h⟩ := h
  exact ⟨c, hl, Kd.R_below h hb⟩
theorem ClipR.lower {base' : Nat} (h : ClipR d e w base ok A xs) (hb : base' ≤ base) : ClipR d e w base' ok A xs := by
  obtain ⟨c, hl, h⟩ := h
  exact ⟨c, hl, Kd.R_lower h hb⟩
theorem ClipR.grown (h : ClipR d e w base ok A xs) {row : Option Nat} (hg : w.grownBy w1 row) (hr : ∀ k, row = some k → k < base) : ClipR d e w1 base ok A xs := by
  obtain ⟨c, hl, h⟩ := h
  have h2 := Kd.R_bound h
  exact ⟨c, hl, Kd.R_mono (Kd.R_grown h2 hg (fun k hk e => by have := hr k e.symm; omega)) (fun k hk => hk.1)⟩
theorem ClipR.nil (d : Kd α) (e : Nat) (w : World) (base : Nat) (ok : Nat → Prop) : ClipR d e w base ok none [] := ⟨0, Nat.le_refl _, Kd.R_nil d e w base ok⟩
end
/-! ### (*taker).fields -/
theorem tk_R_grown {α : Type} {d : Kd α} {e : Nat} {w w1 : World} {base : Nat} {ok : Nat → Prop} {v : Value} {xs : List α} {row : Option Nat} (h : d.R e w base ok v xs) (hg : w.grownBy w1 row) (hr : ∀ k, row = some k → k < base) : d.R e w1 base ok v xs :=
  Kd.R_mono (Kd.R_grown (Kd.R_bound h) hg (fun k hk e => by have := hr k e.symm; omega)) (fun _ hk => hk.1)
def tkLen (w : World) (g : Nat) : Nat := match w.cell? ⟨g, 0, none⟩ with | some (.slice _ n _) => n | _ => 0
theorem TkSt.len {g N : Nat} {t : Tk} {w : World} (h : TkSt g N t w) : tkLen w g = t.1.length := by
  obtain ⟨A, c, hb⟩ := h.cells
  have : w.cell? ⟨g, 0, none⟩ = some (.slice A t.1.length c) := (blk_cell hb 0).trans rfl
  unfold tkLen
  rw [this]
theorem tk_fields_bad (sign : ByteArray) (k : Nat) (u : Tk) (acc : List S49) (h : u.2 = true) : tk_fields sign k u acc = (acc, u) := by
  cases k with
  | zero => rfl
  | succ k => rw [tk_fields, if_pos h]
theorem tk_fields_stop (sign : ByteArray) (k : Nat) (u : Tk) (acc : List S49) (h : tk_is sign u = (false, u)) : tk_fields sign k u acc = (acc, u) := by
  cases k with
  | zero => rfl
  | succ k =>
    rw [tk_fields, h]
    by_cases hb : u.2 = true
    · rw [if_pos hb]
    · rw [if_neg hb]; rfl
theorem tk_hex_len (u : Tk) : (tk_hex u).2.1.length ≤ u.1.length := by
  obtain ⟨u, c⟩ := u
  cases u with
  | nil => rw [tk_hex_nil]; simp
  | cons a u =>
    rw [tk_hex_cons]
    split <;> (try split) <;> simp
theorem tk_info_field : (Tryd.prog.info? 49).map (fun i => (i.zero, i.size, i.bytes)) = some (some (.agg #[.string ⟨#[]⟩, .string ⟨#[]⟩]), 2, 32) := by kernel_rfl
set_option maxHeartbeats 6400000 in
set_option maxRecDepth 100000 in
theorem taker_fields.calls (g N : Nat) (sign : ByteArray) (t : Tk) (w : World) (h : TkSt g N t w) :
    Calls Tryd.prog 45 #[.pointer (some ⟨g, 0, none⟩), .string sign] w fun e w' => (∃ A, e = .returned (.slice A (tk_fields sign t.1.length t []).1.length (tk_fields sign t.1.length t []).1.length) ∧ ClipR k49 49 w' w.heap.size (fun _ => True) A (tk_fields sign t.1.length t []).1) ∧ TkSt g N (tk_fields sign t.1.length t []).2 w' ∧ w.grownBy w' (some g) := by
  have HS := Aside0.mk h
  have htl : t.1.length ≤ 4294967280 := by obtain ⟨_, A, c, _, h1, h2, h3, h4, h5⟩ := h; exact h5
  obtain ⟨F, hF⟩ : ∃ F, tk_fields sign t.1.length t [] = F := ⟨_, rfl⟩
  rw [hF]
  have HFF := Aside0.mk hF
  clear h hF
  go_enter Tryd.func45, Tryd.ntmps45
  go_wp2_with (fail)
  go_loopw [4] (fun v4 wr => ∃ (k : Nat) (u : Tk) (acc : List S49), Aside0 (tk_fields sign k u acc = F) ∧ Aside0 (u.1.length ≤ k) ∧ Aside0 (acc.length + k = t.1.length) ∧ Aside0 (Kd.R k49 49 wr w.heap.size (fun _ => True) v4 acc) ∧ Aside0 (TkSt g N u wr) ∧ Aside0 (w.grownBy wr (some g))) (fun _ wr => tkLen wr g)
  case atStart => exact ⟨t.1.length, t, [], HFF, ⟨Nat.le_refl _⟩, ⟨by simp⟩, ⟨Kd.R_nil _ _ _ _ _⟩, HS, ⟨World.grownBy.refl _ _⟩⟩
  case round =>
    obtain ⟨k, u, acc, HFk, HUk, HAk, HR, HT, HG⟩ := hrel
    have c1 : wr.cell? ⟨g, 1, none⟩ = some (.bool u.2) := (by obtain ⟨A, c, hb⟩ := (TkSt.cells HT.out); exact (blk_cell hb 1).trans rfl)
    obtain ⟨ub, hub⟩ : ∃ b, u.2 = b := ⟨_, rfl⟩
    rw [hub] at c1
    have HUB := Aside0.mk hub
    clear hub
    obtain ⟨A4, c4, rfl, hc4, _⟩ := Kd.R_reads HR.out
    cases ub with
    | true =>
      have HE := Aside0.mk (show (acc, u) = F by rw [← HFk.out, tk_fields_bad sign k u acc HUB.out])
      have hal : acc.length ≤ 9223372036854775807 := by have := HAk.out; omega
      go_wp2_with (go_at_call 60; refine (clip_fields.calls A4 acc.length c4 _ hc4 hal).mono ?_; rintro e w1 ⟨rfl, rfl⟩)
      go_ret
      rw [← HE.out]
      exact ⟨⟨A4, rfl, c4, hc4, HR.out⟩, HT.out, HG.out⟩
    | false =>
      rcases tk_is_cases sign u with ⟨r, hu, his⟩ | ⟨hh, his⟩
      · have hlen : 0 < k := by have := HUk.out; rw [hu] at this; simp at this; omega
        obtain ⟨k2, rfl⟩ : ∃ k2, k = k2 + 1 := ⟨k - 1, by omega⟩
        have HE := Aside0.mk (show tk_fields sign k2 (tk_hex (tk_hex (r, false)).2).2 (acc ++ [⟨(tk_hex (r, false)).1, (tk_hex (tk_hex (r, false)).2).1⟩]) = F by
          rw [← HFk.out, tk_fields, his, HUB.out]
          simp)
        have HIS := Aside0.mk (show tk_is sign u = (true, (r, false)) by rw [his, HUB.out])
        have HL := Aside0.mk (show r.length + 1 = u.1.length by rw [hu]; rfl)
        have HW := Aside0.mk (taker_is.calls g N sign u wr HT.out)
        rw [HIS.out] at HW
        have HBASE := Aside0.mk HS.out.1
        obtain ⟨u1, hu1⟩ : ∃ x, (tk_hex (r, false)).2 = x := ⟨_, rfl⟩
        obtain ⟨n1, hn1⟩ : ∃ x, (tk_hex (r, false)).1 = x := ⟨_, rfl⟩
        obtain ⟨u2, hu2⟩ : ∃ x, (tk_hex u1).2 = x := ⟨_, rfl⟩
        obtain ⟨n2, hn2⟩ : ∃ x, (tk_hex u1).1 = x := ⟨_, rfl⟩
        rw [hu1, hn1, hu2, hn2] at HE
        have l1 := tk_hex_len (r, false)
        have l2 := tk_hex_len u1
        rw [hu1] at l1
        rw [hu2] at l2
        have HL2 := Aside0.mk (show u2.1.length < u.1.length by have := HL.out; simp only at l1; omega)
        have HH1 := Aside0.mk (show ∀ W, TkSt g N (r, false) W → Calls Tryd.prog 49 #[.pointer (some ⟨g, 0, none⟩)] W fun e w' => e = .returned (.string n1) ∧ TkSt g N u1 w' ∧ W.grownBy w' (some g) from fun W hW => by rw [← hn1, ← hu1]; exact taker_hex.calls g N (r, false) W hW)
        have HH2 := Aside0.mk (show ∀ W, TkSt g N u1 W → Calls Tryd.prog 49 #[.pointer (some ⟨g, 0, none⟩)] W fun e w' => e = .returned (.string n2) ∧ TkSt g N u2 w' ∧ W.grownBy w' (some g) from fun W hW => by rw [← hn2, ← hu2]; exact taker_hex.calls g N u1 W hW)
        have HLT := Aside0.mk (show ∀ k : Nat, some g = some k → k < w.heap.size from fun k e => by injection e with e; have := HBASE.out; omega)
        have hall : (acc.length + 1) * 32 ≤ 140737488355328 := by have := HAk.out; omega
        have HALL := Aside0.mk hall
        clear hu his hlen hu1 hn1 hu2 hn2 l1 l2 hall
        go_wp2_with (first | ((with_reducible refine gate_builtin (b := .append) (xs := #[.tmp 18, .tmp 23]) rfl ?_); (try (refine gate_guard (by rfl) ?_; dsimp only)); at_builtin; refine Kd.R_append k49 (w0 := w3) w.heap.size rfl (.tmp 18) (.tmp 23) 42 49 (.agg #[.string ⟨#[]⟩, .string ⟨#[]⟩]) 32 rfl Tryd.underlying42 tk_info_field rfl (by decide) (by omega) (.slice A4 acc.length c4) acc ⟨n1, n2⟩ [.string n1, .string n2] (fun _ => True) (fun _ => False) rfl rfl ?aP (fun _ hk => hk.elim) (fun _ _ => trivial) HR3.out ?aB ?aS ?aL ?_; (case aP => exact k49_mkM _ _ _ ⟨n1, n2⟩); (case aB => exact (Below.refl w.heap.size w3)); (case aS => exact HG3.out.size); (case aL => exact HALL.out); intro v1 w4 ho hb hg hat; have HO1 := Aside0.mk ho; have HGG := Aside0.mk hg; clear ho hb hg hat) | (go_at_call 54; refine HW.out.mono ?_; rintro e w1 ⟨rfl, ht, hg⟩; have HT1 := Aside0.mk ht; have HG1 := Aside0.mk (tk_fr_same HG.out hg); have HR1 := Aside0.mk (tk_R_grown HR.out hg HLT.out); clear ht hg) | (go_at_call 49; refine (HH1.out _ HT1.out).mono ?_; rintro e w2 ⟨rfl, ht, hg⟩; have HT2 := Aside0.mk ht; have HG2 := Aside0.mk (tk_fr_same HG1.out hg); have HR2 := Aside0.mk (tk_R_grown HR1.out hg HLT.out); clear ht hg) | (go_at_call 49; refine (HH2.out _ HT2.out).mono ?_; rintro e w3 ⟨rfl, ht, hg⟩; have HT3 := Aside0.mk ht; have HG3 := Aside0.mk (tk_fr_same HG2.out hg); have HR3 := Aside0.mk (tk_R_grown HR2.out hg HLT.out); clear ht hg))
        go_roundw
        case rel =>
          have hob : ∀ k, (Value.slice A4 acc.length c4).ownBlock = some k → w.heap.size ≤ k := fun k hk => own_base (Kd.R_own HR3.out).choose_spec k hk
          exact ⟨k2, u2, _, HE, ⟨by have := HL2.out; have := HUk.out; omega⟩, ⟨by have := HAk.out; simp; omega⟩, HO1, ⟨HT3.out.grown HGG.out (fun k hk => Nat.le_trans HBASE.out.2 (hob k hk))⟩, ⟨tk_fr_new HG3.out HGG.out hob⟩⟩
        case measure =>
          have hob : ∀ k, (Value.slice A4 acc.length c4).ownBlock = some k → w.heap.size ≤ k := fun k hk => own_base (Kd.R_own HR3.out).choose_spec k hk
          rw [(HT3.out.grown HGG.out (fun k hk => Nat.le_trans HBASE.out.2 (hob k hk))).len, HT.out.len]
          exact HL2.out
      · have HE := Aside0.mk (show (acc, u) = F by rw [← HFk.out, tk_fields_stop sign k u acc his])
        have HW := Aside0.mk (taker_is.calls g N sign u wr HT.out)
        rw [his] at HW
        have hal : acc.length ≤ 9223372036854775807 := by have := HAk.out; omega
        have HBASE := Aside0.mk HS.out.1
        have HLT := Aside0.mk (show ∀ k : Nat, some g = some k → k < w.heap.size from fun k e => by injection e with e; have := HBASE.out; omega)
        clear his hh
        go_wp2_with (first | (go_at_call 54; refine HW.out.mono ?_; rintro e w1 ⟨rfl, ht, hg⟩; have HT1 := Aside0.mk ht; have HG1 := Aside0.mk (tk_fr_same HG.out hg); have HR1 := Aside0.mk (tk_R_grown HR.out hg HLT.out); clear ht hg))
        go_wp2_with (go_at_call 60; refine (clip_fields.calls A4 acc.length c4 _ hc4 hal).mono ?_; rintro e w2 ⟨rfl, rfl⟩)
        go_ret
        rw [← HE.out]
        exact ⟨⟨A4, rfl, c4, hc4, HR1.out⟩, HT1.out, HG1.out⟩
end Go.Proofs.YtegmbihjjhhpmaaDoor.T
namespace Go.Proofs.YtegmbihjjhhpmaaDoor.T
open Go.RowKit Go.Proofs.YtegmbihjjhhpmaaDoorW.PrintWords Go.Proofs.YtegmbihjjhhpmaaDoorW.PrintLast Go.Proofs.YtegmbihjjhhpmaaDoorW.PrintMore
open Go.Proofs.YtegmbihjjhhpmaaDoor.PSC
set_option linter.unusedVariables false
set_option linter.unusedSimpArgs false
/-! ### rows of one's own, in blocks lo .. hi -/
def RowAt {α : Type} (d : Kd α) (e : Nat) (w : World) (lo hi : Nat) (A : Option Addr) (xs : List α) : Prop :=
  d.C w A xs.length xs ∧ ∀ ad, A = some ad → ∃ g cells fz, ad = ⟨g, 0, none⟩ ∧ lo ≤ g ∧ g < hi ∧ w.heap[g]? = some (.cells cells e fz) ∧ xs.length * d.sz ≤ cells.size ∧ (fz = (0, 0) ∨ xs.length * d.sz ≤ fz.1)
theorem RowAt.keep {α : Type} {d : Kd α} {e : Nat} {w w' : World} {lo hi : Nat} {A : Option Addr} {xs : List α} (h : RowAt d e w lo hi A xs) (hK : ∀ p c, d.K w p c → d.K w' p c) (ho : ∀ k, lo ≤ k → k < hi → w'.heap[k]? = w.heap[k]?) : RowAt d e w' lo hi A xs := by
  obtain ⟨h1, h2⟩ := h
  refine ⟨tk_row_block h1 hK (fun ad e => ?_), fun ad e => ?_⟩
  · obtain ⟨g, cells, fz, rfl, h3, h4, _⟩ := h2 ad e
    exact ho g h3 h4
  · obtain ⟨g, cells, fz, rfl, h3, h4, h5, h6⟩ := h2 ad e
    exact ⟨g, cells, fz, rfl, h3, h4, (ho g h3 h4).trans h5, h6⟩
theorem RowAt.wide {α : Type} {d : Kd α} {e : Nat} {w : World} {lo hi lo' hi' : Nat} {A : Option Addr} {xs : List α} (h : RowAt d e w lo hi A xs) (hl : lo' ≤ lo) (hh : hi ≤ hi') : RowAt d e w lo' hi' A xs := by
  obtain ⟨h1, h2⟩ := h
  refine ⟨h1, fun ad e => ?_⟩
  obtain ⟨g, cells, fz, e1, h3, h4, h5⟩ := h2 ad e
  exact ⟨g, cells, fz, e1, Nat.le_trans hl h3, Nat.lt_of_lt_of_le h4 hh, h5⟩
theorem RowAt.nil {α : Type} (d : Kd α) (e : Nat) (w : World) (lo hi : Nat) : RowAt d e w lo hi none [] := ⟨⟨rfl, by simp, fun h => by simp at h⟩, fun ad h => by cases h⟩
theorem RowAt.of_R {α : Type} {d : Kd α} {e : Nat} {w : World} {base : Nat} {ok : Nat → Prop} {A : Option Addr} {c : Nat} {xs : List α} (h : d.R e w base ok (.slice A xs.length c) xs) : RowAt d e w base w.heap.size A xs := by
  obtain ⟨A2, c2, e2, hl2, hr⟩ := Kd.R_reads h
  injection e2 with e2 _ _
  subst e2
  refine ⟨hr, fun ad e3 => ?_⟩
  obtain ⟨inner, ho⟩ := Kd.R_own h
  subst e3
  rcases ho.2 with ⟨hv, _⟩ | ⟨g, cap, cur, hv, hb, hg, hn, _, hcs, _⟩
  · cases hv
  · injection hv with hv _ _
    injection hv with hv
    exact ⟨g, cur, (0, 0), hv, hb, tk_lt hg, hg, by rw [hcs]; exact Nat.mul_le_mul_right _ hn, .inl rfl⟩
theorem RowAt.of_clip {α : Type} {d : Kd α} {e : Nat} {w : World} {base : Nat} {ok : Nat → Prop} {A : Option Addr} {xs : List α} (h : ClipR d e w base ok A xs) : RowAt d e w base w.heap.size A xs := by
  obtain ⟨c, _, h⟩ := h
  exact RowAt.of_R h
theorem RowAt.of_bytes (W : World) (s : ByteArray) (hs : s.size ≤ 4294967280) : RowAt (Kd.int .u8) 5 (Lib.bytesWorld W 5 s) W.heap.size (Lib.bytesWorld W 5 s).heap.size (some ⟨W.heap.size, 0, none⟩) (sc_ints s) := by
  have hl : (sc_ints s).length = s.size := bytesOf_length s
  refine ⟨?_, fun ad e => ?_⟩
  · have h := Kd.C_of_reads (enc := Value.int .u8) (d := (0 : Int)) (h1 := fun _ => rfl) (bytes_reads W 5 s (by omega))
    rw [hl]
    exact h
  · injection e with e
    subst e
    refine ⟨W.heap.size, _, _, rfl, Nat.le_refl _, ?_, Lib.bytesWorld_at_new W 5 s, ?_, .inr ?_⟩
    · rw [Lib.bytesWorld_size]; omega
    · rw [hl]
      show s.size * 1 ≤ _
      rw [Nat.mul_one, Lib.bytesCells, Array.size_append, Array.size_map]
      exact Nat.le_add_right _ _
    · rw [hl]
      show s.size * 1 ≤ _
      rw [Nat.mul_one, Lib.bytesCells, Array.size_append, Array.size_map]
      exact Nat.le_add_right _ _
theorem RowAt.len {α : Type} {d : Kd α} {e : Nat} {w : World} {lo hi : Nat} {A : Option Addr} {xs : List α} (h : RowAt d e w lo hi A xs) : xs.length ≤ 9223372036854775807 := h.1.2.1
def FieldsAt (w : World) (lo hi : Nat) (A : Option Addr) (xs : List S49) : Prop := RowAt k49 49 w lo hi A xs
def BytesAt (w : World) (lo hi : Nat) (A : Option Addr) (xs : List Int) : Prop := RowAt (Kd.int .u8) 5 w lo hi A xs
theorem FieldsAt.keep {w w' : World} {lo hi : Nat} {A : Option Addr} {xs : List S49} (h : FieldsAt w lo hi A xs) (ho : ∀ k, lo ≤ k → k < hi → w'.heap[k]? = w.heap[k]?) : FieldsAt w' lo hi A xs :=
  RowAt.keep h (fun p c hp => by obtain rfl := k49_open hp; exact k49_mk w' p) ho
theorem BytesAt.keep {w w' : World} {lo hi : Nat} {A : Option Addr} {xs : List Int} (h : BytesAt w lo hi A xs) (ho : ∀ k, lo ≤ k → k < hi → w'.heap[k]? = w.heap[k]?) : BytesAt w' lo hi A xs :=
  RowAt.keep h (fun p c (hp : c = [Value.int .u8 p]) => hp) ho
/-! ### (*taker).body -/
theorem sc_cap_le (w : World) (n : Nat) : n ≤ grownCap w n 0 5 := grownCap_ge w n 0 _
theorem tk_conv (s : ByteArray) (W : World) : (convert 9 43 (.string s)).run Tryd.prog W = .ok (.slice (some ⟨W.heap.size, 0, none⟩) s.size (grownCap W s.size 0 5)) (Lib.bytesWorld W 5 s) :=
  print_bytes (P := Tryd.prog) 9 43 5 Tryd.underlying9 Tryd.underlying43 Tryd.underlying5 s W
theorem tk_hex_size (g N : Nat) (t : Tk) (w : World) (h : TkSt g N t w) : (tk_hex t).1.size ≤ 4294967280 := by
  obtain ⟨_, A, c, _, h1, h2, h3, h4, h5⟩ := h
  obtain ⟨l, b⟩ := t
  cases l with
  | nil => rw [tk_hex_nil]; exact Nat.zero_le _
  | cons x r =>
    have hx := h4 x (by simp)
    rw [tk_hex_cons]
    split
    · exact Nat.zero_le _
    · split
      · exact Nat.zero_le _
      · have hp : ∀ l : List UInt8, (sc_pairs l).1.length ≤ l.length := by
          intro l
          induction l using sc_pairs.induct with
          | case1 a b r h l ha hb ih => rw [sc_pairs, ha, hb]; simp only [List.length_cons]; omega
          | case2 a b r hn => rw [sc_pairs]; split <;> simp_all
          | case3 l hn => rw [sc_pairs]; simp; exact hn
        exact Nat.le_trans (hp x.data.toList) hx
set_option maxHeartbeats 3200000 in
set_option maxRecDepth 100000 in
theorem taker_body.calls (g N : Nat) (t : Tk) (w : World) (h : TkSt g N t w) :
    Calls Tryd.prog 46 #[.pointer (some ⟨g, 0, none⟩)] w fun e w' => (∃ A, e = .returned (.slice A (tk_body t).1.length (tk_body t).1.length) ∧ BytesAt w' w.heap.size w'.heap.size A (tk_body t).1) ∧ TkSt g N (tk_body t).2 w' ∧ w.grownBy w' (some g) := by
  have HS := Aside0.mk h
  rcases tk_is_cases (sc_b [98]) t with ⟨r, ht, his⟩ | ⟨hh, his⟩
  · have HW := Aside0.mk (taker_is.calls g N (sc_b [98]) t w h)
    rw [his] at HW
    have hT : tk_body t = (sc_ints (tk_hex (r, t.2)).1, ((tk_hex (r, t.2)).2.1, (tk_hex (r, t.2)).2.2 || decide ((tk_hex (r, t.2)).1 = sc_b []))) := by unfold tk_body; rw [his]; rfl
    rw [hT]
    obtain ⟨u, hu⟩ : ∃ u, ((r, t.2) : Tk) = u := ⟨_, rfl⟩
    rw [hu] at HW ⊢
    have HH := Aside0.mk (fun W (hW : TkSt g N u W) => taker_hex.calls g N u W hW)
    have HZ := Aside0.mk (fun W (hW : TkSt g N u W) => tk_hex_size g N u W hW)
    obtain ⟨s, hs⟩ : ∃ s, (tk_hex u).1 = s := ⟨_, rfl⟩
    obtain ⟨v, hv⟩ : ∃ v, (tk_hex u).2 = v := ⟨_, rfl⟩
    rw [hs] at HZ
    rw [hs, hv] at HH ⊢
    obtain ⟨v1, v2⟩ := v
    simp only at HH ⊢
    have hcv := tk_conv s
    have hil : (sc_ints s).length = s.size := bytesOf_length s
    rw [hil]
    clear hT hu hs hv ht his h hil
    have e98 : (⟨#[98]⟩ : ByteArray) = sc_b [98] := rfl
    have TAIL : ∀ (b : Bool) (w2 w3 : World), w.grownBy w2 (some g) → TkSt g N (v1, v2) w2 → w3 = w2.setCell ⟨g, 1, none⟩ (.bool b) → s.size ≤ 4294967280 → BytesAt (Lib.bytesWorld w3 5 s) w.heap.size (Lib.bytesWorld w3 5 s).heap.size (some ⟨w2.heap.size, 0, none⟩) (sc_ints s) ∧ TkSt g N (v1, b) (Lib.bytesWorld w3 5 s) ∧ w.grownBy (Lib.bytesWorld w3 5 s) (some g) := by
      rintro b w2 w3 hg2 ht2 rfl hsz
      have hs3 : w.heap.size ≤ (w2.setCell ⟨g, 1, none⟩ (.bool b)).heap.size := by simpa [World.setCell] using hg2.size
      have hb := Lib.bytesWorld_below (w2.setCell ⟨g, 1, none⟩ (.bool b)) 5 s
      have e3 : (w2.setCell ⟨g, 1, none⟩ (.bool b)).heap.size = w2.heap.size := by simp [World.setCell]
      have hrow := (RowAt.of_bytes (w2.setCell ⟨g, 1, none⟩ (.bool b)) s hsz).wide hs3 (Nat.le_refl _)
      rw [e3] at hrow
      exact ⟨hrow, (ht2.bad b).below hb, tk_fr_below (tk_fr_same hg2 (tk_grown1 w2 g 1 (.bool b))) hb hs3⟩
    have HTAIL := Aside0.mk TAIL
    clear TAIL
    go_enter Tryd.func46, Tryd.ntmps46
    go_upto_region 4 with (first | (go_at_call 54; refine HW.out.mono ?_; rintro e w1 ⟨rfl, ht, hg⟩; have HT1 := Aside0.mk ht; have HG1 := Aside0.mk hg; clear ht hg) | (go_at_call 49; refine (HH.out _ HT1.out).mono ?_; rintro e w2 ⟨rfl, ht, hg⟩; have HT2 := Aside0.mk ht; have HG2 := Aside0.mk (tk_fr_same HG1.out hg); clear ht hg))
    have hsz : s.size ≤ 4294967280 := HZ.out _ HT1.out
    have c1 : w2.cell? ⟨g, 1, none⟩ = some (.bool v2) := (by obtain ⟨A, c, hb⟩ := (TkSt.cells HT2.out); exact (blk_cell hb 1).trans rfl)
    have f1 : w2.frozen? ⟨g, 1, none⟩ = false := (by obtain ⟨A, c, hb⟩ := (TkSt.cells HT2.out); exact blk_frozen hb 1)
    cases v2 with
    | true =>
      have HX := Aside0.mk (HTAIL.out true w2 _ HG2.out HT2.out rfl hsz)
      go_wp2_with (go_at_call 48; refine (clip_bytes.calls _ s.size _ _ (sc_cap_le _ _) (by omega)).mono ?_; rintro e w4 ⟨rfl, rfl⟩)
      go_ret
      exact ⟨⟨_, rfl, HX.out.1⟩, HX.out.2.1, HX.out.2.2⟩
    | false =>
      by_cases h0 : s = sc_b []
      · have eE : s.toList.isEmpty = true := by rw [Lib.toList_data, h0]; rfl
        have HD := Aside0.mk (show (false || decide (s = sc_b [])) = true by simp [h0])
        clear h0
        have HX := Aside0.mk (HTAIL.out true w2 _ HG2.out HT2.out rfl hsz)
        go_wp2_with (go_at_call 48; refine (clip_bytes.calls _ s.size _ _ (sc_cap_le _ _) (by omega)).mono ?_; rintro e w4 ⟨rfl, rfl⟩)
        go_ret
        exact ⟨⟨_, rfl, HX.out.1⟩, by rw [HD.out]; exact HX.out.2.1, HX.out.2.2⟩
      · have eE : s.toList.isEmpty = false := by
          rw [Lib.toList_data]
          cases hx : s.data.toList with
          | nil => exact absurd (sc_data_inj (by rw [hx]; rfl)) h0
          | cons => rfl
        have HD := Aside0.mk (show (false || decide (s = sc_b [])) = false by simp [h0])
        clear h0
        have HX := Aside0.mk (HTAIL.out false w2 _ HG2.out HT2.out rfl hsz)
        go_wp2_with (go_at_call 48; refine (clip_bytes.calls _ s.size _ _ (sc_cap_le _ _) (by omega)).mono ?_; rintro e w4 ⟨rfl, rfl⟩)
        go_ret
        exact ⟨⟨_, rfl, HX.out.1⟩, by rw [HD.out]; exact HX.out.2.1, HX.out.2.2⟩
  · have HW := Aside0.mk (taker_is.calls g N (sc_b [98]) t w h)
    rw [his] at HW
    have hT : tk_body t = ([], t) := by unfold tk_body; rw [his]; rfl
    rw [hT]
    clear hT his h
    go_enter Tryd.func46, Tryd.ntmps46
    go_wp2_with (go_at_call 54; refine HW.out.mono ?_; rintro e w1 ⟨rfl, ht, hg⟩; have HT1 := Aside0.mk ht; have HG1 := Aside0.mk hg; clear ht hg)
    go_ret
    exact ⟨⟨none, rfl, RowAt.nil _ _ _ _ _⟩, HT1.out, HG1.out⟩
end Go.Proofs.YtegmbihjjhhpmaaDoor.T
namespace Go.Proofs.YtegmbihjjhhpmaaDoor.T
open Go.RowKit Go.Proofs.YtegmbihjjhhpmaaDoorW.PrintWords Go.Proofs.YtegmbihjjhhpmaaDoorW.PrintLast Go.Proofs.YtegmbihjjhhpmaaDoorW.PrintMore
open Go.Proofs.YtegmbihjjhhpmaaDoor.PSC
set_option linter.unusedVariables false
set_option linter.unusedSimpArgs false
/-! ### script.rows (made by a program) -/
def sc_rowC (r : ByteArray × Int × Bool × Bool) : List Value := [.string r.1, .int .u8 r.2.1, .bool r.2.2.1, .bool r.2.2.2]
def sc_rowsC : Array Value := (sc_rows.flatMap sc_rowC).toArray
theorem sc_rowsC_size : sc_rowsC.size = 36 := by kernel_rfl
theorem sc_info54 : (Tryd.prog.info? 54).map (fun i => i.size) = some 36 := by kernel_rfl
set_option maxHeartbeats 3200000 in
set_option maxRecDepth 100000 in
theorem script_rows.calls (w : World) : Calls Tryd.prog 17 #[] w fun e w' => e = .returned (.agg sc_rowsC) ∧ Below w.heap.size w w' := by
  go_enter Tryd.func17, Tryd.ntmps17
  go_upto_region 1 with (fail)
  rename_i Q' K hK
  obtain ⟨W, hW⟩ : ∃ W, w.alloc (.cells #[.string ⟨#[]⟩, .int .u8 0, .bool false, .bool false, .string ⟨#[]⟩, .int .u8 0, .bool false, .bool false, .string ⟨#[]⟩, .int .u8 0, .bool false, .bool false, .string ⟨#[]⟩, .int .u8 0, .bool false, .bool false, .string ⟨#[]⟩, .int .u8 0, .bool false, .bool false, .string ⟨#[]⟩, .int .u8 0, .bool false, .bool false, .string ⟨#[]⟩, .int .u8 0, .bool false, .bool false, .string ⟨#[]⟩, .int .u8 0, .bool false, .bool false, .string ⟨#[]⟩, .int .u8 0, .bool false, .bool false] 54) = W := ⟨_, rfl⟩
  have hb0 : W.heap[w.heap.size]? = some (.cells #[.string ⟨#[]⟩, .int .u8 0, .bool false, .bool false, .string ⟨#[]⟩, .int .u8 0, .bool false, .bool false, .string ⟨#[]⟩, .int .u8 0, .bool false, .bool false, .string ⟨#[]⟩, .int .u8 0, .bool false, .bool false, .string ⟨#[]⟩, .int .u8 0, .bool false, .bool false, .string ⟨#[]⟩, .int .u8 0, .bool false, .bool false, .string ⟨#[]⟩, .int .u8 0, .bool false, .bool false, .string ⟨#[]⟩, .int .u8 0, .bool false, .bool false, .string ⟨#[]⟩, .int .u8 0, .bool false, .bool false] 54 (0, 0)) := by rw [← hW]; exact heap_alloc_new _ _
  have hbw : Below w.heap.size w W := by rw [← hW]; exact below_alloc (Below.refl _ _) _
  rw [hW]
  clear hW
  refine wp_region_list ?_
  refine wpList_buildTo rfl 53 _ rfl (some 1) rfl #[.string ⟨#[97, 115, 107]⟩, .int .u8 1, .bool false, .bool false] (by kernel_rfl) ?_
  refine wpList_buildTo rfl 53 _ rfl (some 2) rfl #[.string ⟨#[99, 97, 110, 99, 101, 108]⟩, .int .u8 2, .bool true, .bool false] (by kernel_rfl) ?_
  refine wpList_buildTo rfl 53 _ rfl (some 3) rfl #[.string ⟨#[103, 111, 97, 119, 97, 121]⟩, .int .u8 3, .bool false, .bool false] (by kernel_rfl) ?_
  refine wpList_buildTo rfl 53 _ rfl (some 4) rfl #[.string ⟨#[116, 105, 99, 107]⟩, .int .u8 4, .bool true, .bool false] (by kernel_rfl) ?_
  refine wpList_buildTo rfl 53 _ rfl (some 5) rfl #[.string ⟨#[115, 101, 110, 100]⟩, .int .u8 5, .bool true, .bool false] (by kernel_rfl) ?_
  refine wpList_buildTo rfl 53 _ rfl (some 6) rfl #[.string ⟨#[112, 97, 115, 115]⟩, .int .u8 6, .bool true, .bool false] (by kernel_rfl) ?_
  refine wpList_buildTo rfl 53 _ rfl (some 7) rfl #[.string ⟨#[100, 114, 111, 112]⟩, .int .u8 7, .bool true, .bool false] (by kernel_rfl) ?_
  refine wpList_buildTo rfl 53 _ rfl (some 8) rfl #[.string ⟨#[116, 119, 105, 99, 101]⟩, .int .u8 8, .bool true, .bool false] (by kernel_rfl) ?_
  refine wpList_buildTo rfl 53 _ rfl (some 9) rfl #[.string ⟨#[102, 111, 114, 103, 101]⟩, .int .u8 9, .bool true, .bool true] (by kernel_rfl) ?_
  refine wpList_buildTo rfl 54 _ rfl (some 10) rfl sc_rowsC (by kernel_rfl) ?_
  refine wpList_store_rowTo rfl 54 _ _ rfl rfl w.heap.size sc_rowsC (by kernel_rfl) (by kernel_rfl) 54 _ hb0 (by rw [sc_rowsC_size]; exact sc_info54) (by rw [sc_rowsC_size]; rfl) (by kernel_rfl) ?_
  have hb1 := setRow_heap _ w.heap.size _ sc_rowsC _ _ hb0
  have hl := run_loadVar_row (P := Tryd.prog) _ w.heap.size 54 54 sc_rowsC (0, 0) _ hb1 Tryd.underlying54 rfl (by rw [sc_rowsC_size]; exact sc_info54)
  refine hK _ _ (wp_ret (bodyPost_ret (v := .agg sc_rowsC) (results_cell_row (p := 0) (by kernel_rfl) _ _ w.heap.size 54 sc_rowsC (0, 0) _ (by kernel_rfl) hb1 Tryd.underlying54 rfl (by rw [sc_rowsC_size]; exact sc_info54)) (by kernel_rfl) ?_))
  exact ⟨rfl, ⟨hbw.os, hbw.tape, hbw.output, by rw [setRow_size]; exact hbw.size, fun k hk => by rw [setRow_other _ _ _ _ (by omega)]; exact hbw.block k hk⟩⟩
end Go.Proofs.YtegmbihjjhhpmaaDoor.T
