-- Written by wip/mprint.py (the kit's printer, and texts of this claim's own for what it does not take). Not trusted: Lean checks it.
import Derived.Test.YtmkmefdajbdceaaGreatDoorPTQx0
import Derived.Test.YtmkmefdajbdceaaGreatDoorPTQx2
import Derived.Test.YtmkmefdajbdceaaGreatDoorPTQx9
import Derived.Test.YtmkmefdajbdceaaGreatDoorPTQx10
namespace Go.Proofs.YtmkmefdajbdceaaGreatDoor.PTQ
open Go.RowKit Go.Proofs.YtmkmefdajbdceaaGreatDoorW.PrintWords Go.Proofs.YtmkmefdajbdceaaGreatDoorW.PrintLast Go.Proofs.YtmkmefdajbdceaaGreatDoorW.PrintMore
attribute [local go_sem] max2_int min2_int max_two min_two max_three min_three max_four min_four   -- for this text's walks alone
set_option linter.unusedVariables false
set_option linter.unusedSimpArgs false

/-! ### mailcoachlaw01_Book_growByte: function 32, by hand -/
section
variable {P : Program}
theorem book_run_append (W : World) (base : Nat) (t ty e : TypeId) (i0 : TypeInfo) (z : Value) (size bytes : Nat) (ht : P.underlying t = some (.slice e)) (hi : P.info? e = some i0) (hz0 : i0.zero = some z) (hz1 : i0.size = size) (hz2 : i0.bytes = bytes) (hzs : z.cells.size = size) (hsz : 0 < size)
    (v : Value) (n : Nat) (xs : List Value) (HO : W.ownsRow base e size v n xs) (ad : Addr) (m c : Nat) (news : List Value) (hl : news.length = m * size) (hnews : ∀ j u, news[j]? = some u → W.cell? (ad.add j) = some u) (h1 : ∀ u ∈ news, u.oneCell' = true) (hm : n + m ≤ maxLen) (hb : (n + m) * bytes ≤ 140737488355328) (hbase : base ≤ W.heap.size) :
    ∃ v1 w1, (Builtin.append_ #[t, t] ty #[v, .slice (some ad) m c]).run P W = .ok v1 w1 ∧ w1.ownsRow base e size v1 (n + m) (xs ++ news) ∧ W.grownBy w1 v.ownBlock ∧ (v1.ownBlock = v.ownBlock ∨ (v1.ownBlock = some W.heap.size ∧ W.grownBy w1 none)) := by
  obtain ⟨v1, w1, hr, h2, h3, _, h5⟩ := run_append_own_at (P := P) W base t ty e i0 z size bytes ht hi hz0 hz1 hz2 hzs hsz v n xs HO ad m c news hl hnews h1 hm hb hbase
  refine ⟨v1, w1, hr, h2, h3, ?_⟩
  rcases h5 with h5 | h5
  · exact .inl h5
  · rcases HO.2 with ⟨rfl, hn⟩ | ⟨g, cap, cur, rfl, _, hg, hnc, hcm, hcs, htk⟩
    · exact .inr ⟨h5, h3⟩
    · by_cases hroom : n + m ≤ cap
      · have hfit : n * i0.size + news.length ≤ cur.size := by rw [hl, hz1, hcs, ← Nat.add_mul]; exact Nat.mul_le_mul_right _ hroom
        have hr2 := run_append_room (P := P) W t ty e i0 ht hi g n cap cur hg ad m c news (by rw [hl, hz1]) hnews h1 hroom hfit
        have := hr.symm.trans hr2
        injection this with e1 _
        subst e1
        exact .inl rfl
      · have holds : ∀ j u, xs[j]? = some u → W.cell? ((⟨g, 0, none⟩ : Addr).add j) = some u := HO.cells (g := g) rfl
        obtain ⟨v2, w2, hr2, _, hg2⟩ := run_append_arg_grows (P := P) W t ty e i0 z size bytes ht hi hz0 hz1 hz2 hzs hsz ⟨g, 0, none⟩ n cap xs HO.1 holds ad m c news hl hnews (by omega) hm hb
        have := hr.symm.trans hr2
        injection this with e1 e2
        subst e1 e2
        exact .inr ⟨h5, hg2⟩
variable {ops : Array Oper} {rest : List Oper} {o : Oper} {a : Act} {Q : Exit → Act → World → Prop}
theorem book_append {w0 W : World} (base : Nat) (hgd : o.guard = none) (s x : Operand) (t e : TypeId) (k : IntKind) (bytes : Nat)
    (ho : o.op = .call { callee := .builtin .append, args := #[s, x], argTypes := #[t, t] })
    (ht : P.underlying t = some (.slice e)) (hinfo : (P.info? e).map (fun i => (i.zero, i.size, i.bytes)) = some (some (.int k 0), 1, bytes)) (hb0 : 0 < bytes)
    (v : Value) (n : Nat) (xs : List Int) (y : Int) (hs : a.eval s = v) (hx : a.eval x = .slice (some ⟨W.heap.size, 0, none⟩) 1 1)
    (HO : W.ownsRow base e 1 v n (nums k xs)) (HB : Below base w0 W) (hbase : base ≤ W.heap.size) (hl : (n + 1) * bytes ≤ 140737488355328)
    (h : ∀ v1 w1, w1.ownsRow base e 1 v1 (n + 1) (nums k (xs ++ [y])) → Below base w0 w1 → W.grownBy w1 v.ownBlock → (v1.ownBlock = v.ownBlock ∨ ((∃ b, v1.ownBlock = some b ∧ W.heap.size ≤ b) ∧ W.grownBy w1 none)) → wpList P ops Q rest (a.put o.dst v1) w1) :
    wpList P ops Q (o :: rest) a (W.alloc (.cells #[.int k y] e)) := by
  obtain ⟨i0, hi, hzz⟩ := Option.map_eq_some_iff.1 hinfo
  simp only [Prod.mk.injEq] at hzz
  obtain ⟨hz0, hz1, hz2⟩ := hzz
  have hlen : n + 1 ≤ 140737488355328 := Nat.le_trans (Nat.le_mul_of_pos_right _ hb0) hl
  obtain ⟨v1, w1, hr, h2, h3, h5⟩ := book_run_append (P := P) (W.alloc (.cells #[.int k y] e)) base t o.type e i0 (.int k 0) 1 bytes ht hi hz0 hz1 hz2 rfl (by omega) v n (nums k xs) (HO.alloc _) ⟨W.heap.size, 0, none⟩ 1 1 [.int k y] rfl
    (World.news_of_block (cs := #[.int k y]) (t := e) (fr := (0, 0)) (heap_alloc_new W _)) (by simp [Value.oneCell']) (by simp only [maxLen]; omega) hl (by simp; omega)
  refine wpList_plain hgd fun K hK => ?_
  unfold Oper.wp execOp
  simp only [ho, resolve, invoke, builtin, Sem.run_bind, Sem.run_pure, Result.andThen_ok, List.map_toArray, List.map_cons, List.map_nil, hs, hx, hr]
  refine hK _ _ (h v1 w1 (by simpa [nums] using h2) ((HB.alloc hbase _).grown h3 (by simp; omega) (own_base HO)) (World.grownBy.trans (World.grownBy_alloc W _ _) h3) ?_)
  rcases h5 with h5 | ⟨h5, h6⟩
  · exact .inl h5
  · exact .inr ⟨⟨_, h5, by simp⟩, World.grownBy.trans (World.grownBy_alloc W _ _) h6⟩
end
/-- A list that is read: its block and its first cells. -/
def BookRd (w : World) (A : Option Addr) (n : Nat) (F : List Int) : Prop := n = 0 ∨ ∃ g cur, A = some ⟨g, 0, none⟩ ∧ w.heap[g]? = some (.cells cur 5 (0, 0)) ∧ n ≤ cur.size ∧ cur.toList.take n = nums .u8 F
theorem BookRd.of_own {w : World} {base n c : Nat} {A : Option Addr} {F : List Int} (h : w.ownsRow base 5 1 (.slice A n c) n (nums .u8 F)) : BookRd w A n F := by
  rcases h.2 with ⟨_, h0⟩ | ⟨g, cap, cur, hv, _, hg, hn, _, hcs, htk⟩
  · exact .inl h0
  · simp only [Value.slice.injEq, true_and] at hv
    obtain ⟨rfl, rfl⟩ := hv
    rw [Nat.mul_one] at hcs htk
    exact .inr ⟨g, cur, rfl, hg, by omega, htk⟩
theorem BookRd.kept {w w' : World} {A : Option Addr} {n : Nat} {F : List Int} {row : Option Nat} (h : BookRd w A n F) (hg : w.grownBy w' row) (hne : n = 0 ∨ ∀ g, A = some ⟨g, 0, none⟩ → some g ≠ row) : BookRd w' A n F := by
  rcases h with h | ⟨g, cur, hA, hh, hn, ht⟩
  · exact .inl h
  · rcases hne with h0 | hne
    · exact .inl h0
    · exact .inr ⟨g, cur, hA, (hg.block g (book_lt hh) (hne g hA)).trans hh, hn, ht⟩
theorem BookRd.below {w w' : World} {A : Option Addr} {n : Nat} {F : List Int} (h : BookRd w A n F) (hb : Below w.heap.size w w') : BookRd w' A n F := by
  rcases h with h | ⟨g, cur, hA, hh, hn, ht⟩
  · exact .inl h
  · exact .inr ⟨g, cur, hA, (hb.block g (book_lt hh)).trans hh, hn, ht⟩
/-- An append to a row that began as this list leaves it as it was. -/
theorem BookRd.append {w w' : World} {base n p : Nat} {A : Option Addr} {mk : Int} {v v1 : Value} (h : BookRd w A n (List.replicate n mk)) (hnp : n ≤ p) (hg : w.grownBy w' v.ownBlock) (ho1 : w'.ownsRow base 5 1 v1 p (nums .u8 (List.replicate p mk)))
    (hat : v1.ownBlock = v.ownBlock ∨ ((∃ b, v1.ownBlock = some b ∧ w.heap.size ≤ b) ∧ w.grownBy w' none)) : BookRd w' A n (List.replicate n mk) := by
  rcases h with h | ⟨g, cur, hA, hh, hn, ht⟩
  · exact .inl h
  · rcases hat with hat | ⟨_, hgn⟩
    · by_cases hv : v.ownBlock = some g
      · rw [hv] at hat
        rcases ho1.2 with ⟨rfl, _⟩ | ⟨g', cap', cur', rfl, _, hg', hn', _, hcs', htk'⟩
        · simp [Value.ownBlock] at hat
        · simp only [Value.ownBlock, Option.some.injEq] at hat
          subst hat
          rw [Nat.mul_one] at hcs' htk'
          refine .inr ⟨g', cur', hA, hg', by omega, ?_⟩
          have := congrArg (List.take n) htk'
          rw [List.take_take, Nat.min_eq_left hnp] at this
          rw [this]
          simp [nums, List.take_replicate, Nat.min_eq_left hnp]
      · exact .inr ⟨g, cur, hA, (hg.block g (book_lt hh) (fun e => hv e.symm)).trans hh, hn, ht⟩
    · exact .inr ⟨g, cur, hA, (hgn.block g (book_lt hh) (by simp)).trans hh, hn, ht⟩
theorem BookRd.at {w : World} {A : Option Addr} {n : Nat} {mk : Int} (h : BookRd w A n (List.replicate n mk)) (q : Nat) (hq : q < n) : ∃ g, A = some ⟨g, 0, none⟩ ∧ w.cell? ⟨g, q, none⟩ = some (.int .u8 mk) := by
  rcases h with h | ⟨g, cur, hA, hh, hn, ht⟩
  · omega
  · refine ⟨g, hA, ?_⟩
    have := congrArg (fun l => l[q]?) ht
    simp only [nums, List.map_replicate] at this
    rw [List.getElem?_take_of_lt hq, List.getElem?_replicate, if_pos hq] at this
    simp only [World.cell?, hh]
    simpa using this

theorem BookSt.grown {base g m : Nat} {n : Int} {xs : List Value} {vb : Value} {w w' : World} {row : Option Nat} (h : BookSt base g n m xs vb w) (hg : w.grownBy w' row) (hr : ∀ r, row = some r → ∃ cs, w.heap[r]? = some (.cells cs 5 (0, 0))) : BookSt base g n m xs vb w' := by
  refine ⟨h.base_le, (hg.block g (book_lt h.blk) (fun e => ?_)).trans h.blk, h.own.kept hg ?_⟩
  · obtain ⟨cs, hc⟩ := hr g e.symm
    rw [h.blk] at hc
    simp at hc
  · cases hv : vb.ownBlock with
    | none => exact .inl rfl
    | some r =>
      refine .inr (fun e => ?_)
      obtain ⟨cs, hc⟩ := hr r e.symm
      obtain ⟨cs2, hc2⟩ := book_own_block h.own r hv
      rw [hc] at hc2
      simp at hc2
def book_rep (N : Nat → Nat) (j p : Nat) : List Value := nums .u8 (List.replicate (N j + p) (book_mark j))
/-- Lists 0 to k - 1 are grown; the others hold their marks. -/
structure BookGrow (base g gb cap m : Nat) (n : Int) (A : Nat → Option Addr) (C N : Nat → Nat) (w0 : World) (A2 : Nat → Option Addr) (C2 : Nat → Nat) (k : Nat) (w : World) : Prop where
  st : BookSt base g n m (book_row (fun j => .slice (A j) (N j) (C j)) (fun j => if j < k then .slice (A2 j) (N j + 40) (C2 j) else .slice none 0 0) m) (.slice (some ⟨gb, 0, none⟩) m cap) w
  lo : ∀ j, k ≤ j → j < m → w.ownsRow base 5 1 (.slice (A j) (N j) (C j)) (N j) (nums .u8 (List.replicate (N j) (book_mark j)))
  rd : ∀ j, j < k → BookRd w (A j) (N j) (List.replicate (N j) (book_mark j))
  lg : ∀ j, j < k → w.ownsRow base 5 1 (.slice (A2 j) (N j + 40) (C2 j)) (N j + 40) (nums .u8 (List.replicate (N j + 40) (book_mark j)))
  ap : ∀ j i, j < k → k ≤ i → i < m → (Value.slice (A i) (N i) (C i)).ownBlock = none ∨ (Value.slice (A i) (N i) (C i)).ownBlock ≠ (Value.slice (A2 j) (N j + 40) (C2 j)).ownBlock
  below : Below base w0 w
/-- In the midst of growing list k: v holds q marks more. -/
structure BookGrowIn (base g gb cap m : Nat) (n : Int) (A : Nat → Option Addr) (C N : Nat → Nat) (w0 : World) (A2 : Nat → Option Addr) (C2 : Nat → Nat) (B k q : Nat) (v : Value) (w : World) : Prop where
  st : BookSt base g n m (book_row (fun j => .slice (A j) (N j) (C j)) (fun j => if j < k then .slice (A2 j) (N j + 40) (C2 j) else .slice none 0 0) m) (.slice (some ⟨gb, 0, none⟩) m cap) w
  lo : ∀ j, k < j → j < m → w.ownsRow base 5 1 (.slice (A j) (N j) (C j)) (N j) (nums .u8 (List.replicate (N j) (book_mark j)))
  rdk : BookRd w (A k) (N k) (List.replicate (N k) (book_mark k))
  rd : ∀ j, j < k → BookRd w (A j) (N j) (List.replicate (N j) (book_mark j))
  lg : ∀ j, j < k → w.ownsRow base 5 1 (.slice (A2 j) (N j + 40) (C2 j)) (N j + 40) (nums .u8 (List.replicate (N j + 40) (book_mark j)))
  ap : ∀ j i, j < k → k < i → i < m → (Value.slice (A i) (N i) (C i)).ownBlock = none ∨ (Value.slice (A i) (N i) (C i)).ownBlock ≠ (Value.slice (A2 j) (N j + 40) (C2 j)).ownBlock
  below : Below base w0 w
  own : w.ownsRow base 5 1 v (N k + q) (nums .u8 (List.replicate (N k + q) (book_mark k)))
  o1 : ∀ j, k < j → j < m → (Value.slice (A j) (N j) (C j)).ownBlock = none ∨ (Value.slice (A j) (N j) (C j)).ownBlock ≠ v.ownBlock
  o2 : ∀ j, j < k → N j = 0 ∨ ∀ g, A j = some ⟨g, 0, none⟩ → some g ≠ v.ownBlock
  o3 : ∀ j, j < k → (Value.slice (A2 j) (N j + 40) (C2 j)).ownBlock = none ∨ (Value.slice (A2 j) (N j + 40) (C2 j)).ownBlock ≠ v.ownBlock
  box : w.heap[B]? = some (.cells #[.slice (A k) (N k) (C k), .slice none 0 0, .int .i64 ((k : Int) + 1)] 67 (0, 0))
section
variable {base g gb cap m : Nat} {n : Int} {A : Nat → Option Addr} {C N : Nat → Nat} {w0 : World} {A2 : Nat → Option Addr} {C2 : Nat → Nat} {B k q : Nat} {v : Value} {w w' : World}
theorem BookGrowIn.step (h : BookGrowIn base g gb cap m n A C N w0 A2 C2 B k q v w) (hb : Below w.heap.size w w') : BookGrowIn base g gb cap m n A C N w0 A2 C2 B k q v w' :=
  ⟨h.st.below hb, fun j h1 h2 => pw_own_below (h.lo j h1 h2) hb, h.rdk.below hb, fun j hj => (h.rd j hj).below hb, fun j hj => pw_own_below (h.lg j hj) hb, h.ap, below_then h.below (by have := book_lt h.st.blk; have := h.st.base_le; omega) hb, pw_own_below h.own hb, h.o1, h.o2, h.o3, (hb.block B (book_lt h.box)).trans h.box⟩
theorem book_fresh {w : World} {base p size : Nat} {e : TypeId} {v : Value} {xs : List Value} {b : Nat} (h : w.ownsRow base e size v p xs) (hb : w.heap.size ≤ b) : v.ownBlock = none ∨ v.ownBlock ≠ some b := .inr (fun e => by have := own_lt h b e; omega)
theorem BookGrowIn.append (h : BookGrowIn base g gb cap m n A C N w0 A2 C2 B k q v w) {v1 : Value} {w1 : World} (ho1 : w1.ownsRow base 5 1 v1 (N k + q + 1) (nums .u8 (List.replicate (N k + q) (book_mark k) ++ [book_mark k]))) (hb : Below base w0 w1) (hg : w.grownBy w1 v.ownBlock)
    (hat : v1.ownBlock = v.ownBlock ∨ ((∃ b, v1.ownBlock = some b ∧ w.heap.size ≤ b) ∧ w.grownBy w1 none)) : BookGrowIn base g gb cap m n A C N w0 A2 C2 B k (q + 1) v1 w1 := by
  rw [← List.replicate_succ'] at ho1
  have hr := book_own_block h.own
  refine ⟨h.st.grown hg hr, fun j h1 h2 => (h.lo j h1 h2).kept hg (h.o1 j h1 h2), h.rdk.append (p := N k + q + 1) (by omega) hg ho1 hat, fun j hj => (h.rd j hj).kept hg (h.o2 j hj), fun j hj => (h.lg j hj).kept hg (h.o3 j hj), h.ap, hb, ho1, ?_, ?_, ?_, ?_⟩
  · rcases hat with hat | ⟨⟨b, hb1, hb2⟩, _⟩
    · rw [hat]; exact h.o1
    · rw [hb1]; exact fun j h1 h2 => book_fresh (h.lo j h1 h2) hb2
  · rcases hat with hat | ⟨⟨b, hb1, hb2⟩, _⟩
    · rw [hat]; exact h.o2
    · rw [hb1]
      intro j hj
      rcases h.rd j hj with h0 | ⟨g', cur, hA, hh, _, _⟩
      · exact .inl h0
      · refine .inr (fun g2 hA2 e => ?_)
        rw [hA] at hA2
        cases hA2
        cases e
        have := book_lt hh
        omega
  · rcases hat with hat | ⟨⟨b, hb1, hb2⟩, _⟩
    · rw [hat]; exact h.o3
    · rw [hb1]; exact fun j hj => book_fresh (h.lg j hj) hb2
  · refine (hg.block B (book_lt h.box) (fun e => ?_)).trans h.box
    obtain ⟨cs, hc⟩ := hr B e.symm
    rw [h.box] at hc
    simp at hc
theorem BookGrow.enter (h : BookGrow base g gb cap m n A C N w0 A2 C2 k w) (hk : k < m)
    (hap : ∀ j k, j < m → k < m → j ≠ k → (Value.slice (A j) (N j) (C j)).ownBlock = none ∨ (Value.slice (A j) (N j) (C j)).ownBlock ≠ (Value.slice (A k) (N k) (C k)).ownBlock)
    (hb : Below w.heap.size w w') (hbox : w'.heap[B]? = some (.cells #[.slice (A k) (N k) (C k), .slice none 0 0, .int .i64 ((k : Int) + 1)] 67 (0, 0))) :
    BookGrowIn base g gb cap m n A C N w0 A2 C2 B k 0 (.slice (A k) (N k) (C k)) w' :=
  ⟨h.st.below hb, fun j h1 h2 => pw_own_below (h.lo j (by omega) h2) hb, (BookRd.of_own (h.lo k (Nat.le_refl _) hk)).below hb, fun j hj => (h.rd j hj).below hb, fun j hj => pw_own_below (h.lg j hj) hb, fun j i h1 h2 h3 => h.ap j i h1 (by omega) h3, below_then h.below (by have := book_lt h.st.blk; have := h.st.base_le; omega) hb, pw_own_below (h.lo k (Nat.le_refl _) hk) hb,
    fun j h1 h2 => hap j k h2 hk (by omega), fun j hj => by
      rcases hap j k (by omega) hk (by omega) with e | e
      · by_cases h0 : N j = 0
        · exact .inl h0
        · refine .inr (fun g hA => ?_)
          rw [hA] at e
          simp [Value.ownBlock] at e
      · refine .inr (fun g hA e2 => e ?_)
        rw [hA]
        exact e2, fun j hj => by
      rcases h.ap j k hj (Nat.le_refl _) hk with e | e
      · exact .inr (fun e2 => by
          rw [e] at e2
          obtain ⟨g', hA, cur, hc⟩ := book_own_addr (h.lg j hj) (by omega)
          rw [hA] at e2
          simp [Value.ownBlock] at e2)
      · exact .inr (fun e2 => e e2.symm), hbox⟩
theorem book_row_set (V Z : Nat → Value) (u : Value) (k m : Nat) : k < m → (book_row V Z m).set (k * 3 + 1) u = book_row V (fun j => if j = k then u else Z j) m := by
  intro hk
  induction m with
  | zero => omega
  | succ m ih =>
    rw [book_row_succ, book_row_succ]
    have hl := book_row_length V Z m
    by_cases h : k < m
    · rw [List.set_append_left _ _ (by omega), ih h, if_neg (by omega)]
    · obtain rfl : k = m := by omega
      rw [List.set_append_right _ _ (by omega), hl, show k * 3 + 1 - k * 3 = 1 by omega]
      have e : book_row V (fun j => if j = k then u else Z j) k = book_row V Z k := by
        unfold book_row
        rw [List.flatMap_def, List.flatMap_def, List.map_congr_left (fun j hj => ?_)]
        have := List.mem_range.1 hj
        simp [show j ≠ k by omega]
      rw [e]
      simp
theorem BookGrowIn.leave (h : BookGrowIn base g gb cap m n A C N w0 A2 C2 B k 40 v w) (hk : k < m) {Av : Option Addr} {Cv : Nat} (hv : v = .slice Av (N k + 40) Cv) :
    BookGrow base g gb cap m n A C N w0 (fun j => if j = k then Av else A2 j) (fun j => if j = k then Cv else C2 j) (k + 1) (w.setCell ⟨gb, k * 3 + 1, none⟩ v) := by
  subst hv
  obtain ⟨hs1, hs2⟩ := h.st.own.stored (k * 3 + 1) (.slice Av (N k + 40) Cv)
  obtain ⟨cs, hcs⟩ := book_own_block h.st.own gb rfl
  have hbg : base ≤ gb := own_base h.st.own gb rfl
  have own5 : ∀ {p : Nat} {u : Value} {xs : List Value}, w.ownsRow base 5 1 u p xs → (w.setCell ⟨gb, k * 3 + 1, none⟩ (.slice Av (N k + 40) Cv)).ownsRow base 5 1 u p xs := fun ho => book_set_own hcs ho (by decide)
  have rd5 : ∀ {a : Option Addr} {p : Nat} {F : List Int}, BookRd w a p F → BookRd (w.setCell ⟨gb, k * 3 + 1, none⟩ (.slice Av (N k + 40) Cv)) a p F := fun hr => by
    rcases hr with h0 | ⟨g', cur, hA, hh, r⟩
    · exact .inl h0
    · exact .inr ⟨g', cur, hA, BookB.set _ hcs (by decide) _ _ hh, r⟩
  refine ⟨⟨h.st.base_le, ?_, ?_⟩, fun j h1 h2 => own5 (h.lo j (by omega) h2), fun j hj => ?_, fun j hj => ?_, fun j i h1 h2 h3 => ?_, h.below.trans (book_set_below hbg)⟩
  · rw [heap_setCell_other w ⟨gb, k * 3 + 1, none⟩ g _ (fun e => ?_), h.st.blk]
    have e : g = gb := e
    subst e
    rw [h.st.blk] at hcs
    simp at hcs
  · rw [book_row_set _ _ _ _ _ hk] at hs1
    have e : (fun j => if j = k then Value.slice Av (N k + 40) Cv else if j < k then .slice (A2 j) (N j + 40) (C2 j) else .slice none 0 0) = (fun j => if j < k + 1 then Value.slice (if j = k then Av else A2 j) (N j + 40) (if j = k then Cv else C2 j) else .slice none 0 0) := by
      funext j
      by_cases h1 : j = k
      · subst h1; simp
      · by_cases h2 : j < k
        · simp [h1, h2, show j < k + 1 by omega]
        · simp [h1, h2, show ¬ j < k + 1 by omega]
    rw [e] at hs1
    exact hs1
  · by_cases e : j = k
    · subst e; exact rd5 h.rdk
    · exact rd5 (h.rd j (by omega))
  · by_cases e : j = k
    · subst e; simpa using own5 h.own
    · simpa [e] using own5 (h.lg j (by omega))
  · by_cases e : j = k
    · subst e; simpa using h.o1 i (by omega) h3
    · simpa [e] using h.ap j i (by omega) (by omega) h3
end

set_option maxHeartbeats 3200000 in
set_option maxRecDepth 100000 in
theorem book_growByte (base g gb cap m : Nat) (n : Int) (A : Nat → Option Addr) (C N : Nat → Nat) (w : World) (hm : m ≤ 10) (hN : ∀ j, j < m → N j ≤ 100000000) (A0 : Nat → Option Addr) (C0 : Nat → Nat)
    (h : BookGrow base g gb cap m n A C N w A0 C0 0 w)
    (hap : ∀ j k, j < m → k < m → j ≠ k → (Value.slice (A j) (N j) (C j)).ownBlock = none ∨ (Value.slice (A j) (N j) (C j)).ownBlock ≠ (Value.slice (A k) (N k) (C k)).ownBlock) :
    Calls Tryz.prog 32 #[.pointer (some ⟨g, 0, none⟩)] w fun e w' => e = .returned (.tuple #[]) ∧ ∃ A2 C2, BookGrow base g gb cap m n A C N w A2 C2 m w' := by
  have H := Aside0.mk h
  have HAP := Aside0.mk hap
  have HN0 := Aside0.mk hN
  clear h hap hN
  go_enter Tryz.func32, Tryz.ntmps32
  go_wp2
  go_loopw [2] (fun v2 wr => ∃ (k : Nat) (A2 : Nat → Option Addr) (C2 : Nat → Nat), k ≤ m ∧ v2 = .int .i64 k ∧ Aside0 (BookGrow base g gb cap m n A C N w A2 C2 k wr)) (fun v2 _ => m - (intOf v2).toNat)
  case atStart => exact ⟨0, A0, C0, by omega, rfl, H⟩
  case round =>
    obtain ⟨k, A2, C2, hk, rfl, HS⟩ := hrel
    obtain ⟨wo, hwo⟩ : ∃ x, x = wr := ⟨_, rfl⟩
    subst hwo
    have h1 := HS.out.st.cell 1 (.slice (some ⟨gb, 0, none⟩) m cap) rfl
    by_cases hk2 : k < m
    · obtain ⟨x0, x1, x2⟩ := HS.out.st.row_at k hk2
      simp only [Nat.lt_irrefl, if_false] at x1
      obtain ⟨Ak, hAk⟩ : ∃ a, A k = a := ⟨_, rfl⟩
      obtain ⟨Ck, hCk⟩ : ∃ a, C k = a := ⟨_, rfl⟩
      obtain ⟨Nk, hNk⟩ : ∃ a, N k = a := ⟨_, rfl⟩
      simp only [hAk, hCk, hNk] at x0
      have HA := Aside0.mk hAk
      have HC := Aside0.mk hCk
      have HN := Aside0.mk hNk
      have hNk2 : Nk ≤ 100000000 := by rw [← hNk]; exact HN0.out k hk2
      clear hAk hCk hNk
      go_wp2
      go_loopw [4, 5] (fun v4 v5 wi => ∃ (q : Nat) (v : Value), q ≤ 40 ∧ v4 = v ∧ v5 = .int .i64 q ∧ Aside0 (BookGrowIn base g gb cap m n A C N w A2 C2 wo.heap.size k q v wi)) (fun _ v5 _ => 40 - (intOf v5).toNat)
      case atStart =>
        refine ⟨0, _, by omega, rfl, rfl, ⟨?_⟩⟩
        have hst : Below wo.heap.size wo (wo.alloc (.cells #[.slice Ak Nk Ck, .slice none 0 0, .int .i64 ((k : Int) + 1)] 67)) := (Below.refl _ _).alloc (Nat.le_refl _) _
        have hf := HS.out.enter (B := wo.heap.size) hk2 HAP.out hst (by rw [HA.out, HC.out, HN.out]; exact heap_alloc_new wo _)
        rw [HA.out, HC.out, HN.out] at hf
        exact hf
      case round =>
        obtain ⟨q, v, hq, rfl, rfl, HI⟩ := hrel
        have b0 := HI.out.box
        rw [HA.out, HC.out, HN.out] at b0
        clear x0 x1 x2
        by_cases hq2 : q < 40
        · have y2 : wr.cell? ⟨wo.heap.size, 2, none⟩ = some (.int .i64 ((k : Int) + 1)) := by simp only [World.cell?, b0]; rfl
          have HMK := Aside0.mk (book_mark_f k (by omega))
          clear b0
          go_wp2_with (first | (go_at_call 63; refine (mailcoachlaw01_markByte.calls ((k : Int) + 1) (book_mark k) _ HMK.out).mono ?_; rintro e w2 ⟨rfl, hd⟩; have HI2 := Aside0.mk (HI.out.step hd.below); clear hd) | (at_builtin; refine book_append (w0 := w) (W := w2) base rfl (.tmp 28) (.tmp 32) 23 5 .u8 1 rfl Tryz.underlying23 man_info_u8 (by decide) _ (N k + q) (List.replicate (N k + q) (book_mark k)) (book_mark k) rfl rfl HI2.out.own HI2.out.below (by have := book_lt HI2.out.st.blk; have := HI2.out.st.base_le; omega) (by have := HN.out; omega) ?_; intro v1 w1 ho1 hb1 hg1 hat1; have HI3 := Aside0.mk (HI2.out.append ho1 hb1 hg1 hat1); clear ho1 hb1 hg1 hat1))
          go_roundw
          case rel => exact ⟨q + 1, _, by omega, rfl, by go_num, HI3⟩
          case measure => simp [intOf]; omega
        · obtain rfl : q = 40 := by omega
          have z1 := HI.out.st.cell 1 (.slice (some ⟨gb, 0, none⟩) m cap) rfl
          obtain ⟨z2, z3, z4⟩ := HI.out.st.row_at k hk2
          have z5 : wr.frozen? ⟨gb, k * 3 + 1, none⟩ = false := by
            obtain ⟨cs, hc⟩ := book_own_block HI.out.st.own gb rfl
            exact frozen_of_row wr gb _ _ _ hc
          obtain ⟨Av, Cv, rfl⟩ := own_slice HI.out.own
          simp only [Nat.lt_irrefl, if_false] at z3
          clear b0 z2 z4
          go_wp2
          go_roundw
          case rel => exact ⟨k + 1, _, _, by omega, by go_num, ⟨HI.out.leave hk2 rfl⟩⟩
          case measure => simp [intOf]; omega
    · obtain rfl : m = k := by omega
      go_wp2
      exact bodyPost_end (v := .tuple #[]) (by simp [results, Tryz.results32, go_sem]) rfl ⟨rfl, _, _, HS.out⟩


end Go.Proofs.YtmkmefdajbdceaaGreatDoor.PTQ
