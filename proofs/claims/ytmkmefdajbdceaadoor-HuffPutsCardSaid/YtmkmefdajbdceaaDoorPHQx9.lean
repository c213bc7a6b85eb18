-- Written by wip/mprint.py (the kit's printer, and texts of this claim's own for what it does not take). Not trusted: Lean checks it.
import Derived.Test.YtmkmefdajbdceaaDoorPHQx0
import Derived.Test.YtmkmefdajbdceaaDoorPHQx8
namespace Go.Proofs.YtmkmefdajbdceaaDoor.PHQ
open Go.RowKit Go.Proofs.YtmkmefdajbdceaaDoorW.PrintWords Go.Proofs.YtmkmefdajbdceaaDoorW.PrintLast Go.Proofs.YtmkmefdajbdceaaDoorW.PrintMore
attribute [local go_sem] max2_int min2_int max_two min_two max_three min_three max_four min_four   -- for this text's walks alone
set_option linter.unusedVariables false
set_option linter.unusedSimpArgs false

/-! ### huff_Put: function 14, by hand -/
/-! ### A region that draws its order, in a round of a range over a function: reads ahead of one chain of operations (Derived/StillTail's theorem, under the fence of a round) -/
def man_notDefer (o : Oper) : Bool := match o.op with | .defer _ => false | _ => true
theorem man_notDefer_spec {o : Oper} (h : man_notDefer o = true) : ∀ c, o.op ≠ .defer c := by
  intro c e
  unfold man_notDefer at h
  rw [e] at h
  cases h
section
variable {P : Program} {ops : Array Oper} {md : Region.Mode} {w : World} {lr m : Nat}
theorem man_wpIn_of_still {o : Oper} {a : Act} {K : Act → Prop} {K' : Act → World → Prop} {Q' : Exit → Act → World → Prop} (hd : man_notDefer o = true) (h : ∀ a, K a → K' a w) (hh : o.still P a w K) : o.wpIn (Fence.wide.inRound lr) m P a w K' Q' := by
  unfold Oper.still at hh
  unfold Oper.wpIn
  refine ⟨fun _ _ => trivial, ?_⟩
  rw [show (Fence.wide.inRound lr).round = some lr from rfl, Oper.semAt_some lr _ _ (man_notDefer_spec hd)]
  generalize (execOp a.eval o).run P w = r at *
  cases r with
  | ok n w' =>
    cases n <;> simp only [Oper.stillUpon] at hh <;> simp only [Oper.uponIn]
    case enter f args =>
      obtain ⟨rfl, v, hc, hn⟩ := hh
      refine ⟨(fun e => by cases e), ?_⟩
      refine CallsIn.inRound lr (callsIn_wide.2 ?_)
      refine hc.mono ?_
      rintro e w'' ⟨rfl, rfl⟩
      exact h _ hn
    all_goals (obtain ⟨rfl, h2⟩ := hh; exact h _ h2)
  | halt x w' => simp only [Oper.stillUpon] at hh
theorem man_wpOpIn_of_stOp {i : Nat} {a : Act} {K : Act → Prop} {K' : Act → World → Prop} {Q' : Exit → Act → World → Prop} (hd : ∀ (j : Nat) (o : Oper), ops[j]? = some o → man_notDefer o = true) (h : ∀ a, K a → K' a w) (hh : stOp P ops w i K a) : wpOpIn (Fence.wide.inRound lr) m P ops Q' i K' a w := by
  unfold stOp at hh
  unfold wpOpIn
  split
  · rename_i ho; simp only [ho] at hh; exact h _ hh
  · rename_i o ho
    simp only [ho] at hh
    split
    · rename_i hw; simp only [hw, if_true] at hh; exact man_wpIn_of_still (hd i o ho) h hh
    · rename_i hw; simp only [hw] at hh; exact ⟨fun _ _ => trivial, h _ hh⟩
theorem man_wpAnyIn_of_head {n g : Nat} {L : Array Bool → Act → Prop} {Q' : Exit → Act → World → Prop} (hd : ∀ (j : Nat) (o : Oper), ops[j]? = some o → man_notDefer o = true) (hL : ∀ listed a, L listed a → wpAnyIn (Fence.wide.inRound lr) m P md ops Q' g listed a w) :
    ∀ (f : Nat) (listed : Array Bool) (a : Act), wpAnyL P md ops w n L f listed a → wpAnyIn (Fence.wide.inRound lr) m P md ops Q' (f + g) listed a w
  | 0, listed, a, h => by rw [Nat.zero_add]; exact hL _ _ h
  | f + 1, listed, a, h => by
    rw [show f + 1 + g = (f + g) + 1 by omega]
    exact ⟨fun h0 => absurd h0 h.1, fun i hi => man_wpOpIn_of_stOp hd (fun a' h' => man_wpAnyIn_of_head hd hL f _ a' h') (h.2 i hi).2⟩
theorem man_wpAnyIn_of_seq {Q' : Exit → Act → World → Prop} {F : Fence} : ∀ (l : List Oper) (k : Nat) (listed : Array Bool) (a : Act) (w : World), (∀ j, l[j]? = ops[k + j]?) →
    Region.seqB md ops l.length k listed = true → wpListIn F m P ops Q' l a w → wpAnyIn F m P md ops Q' l.length listed a w
  | [], _, _, _, _, _, hB, h => ⟨by simpa [Region.seqB] using hB, h⟩
  | o :: l, k, listed, a, w, hl, hB, h => by
    have h0 : ops[k]? = some o := by simpa using (hl 0).symm
    simp only [List.length_cons, Region.seqB, Bool.and_eq_true, decide_eq_true_eq] at hB
    refine ⟨fun h1 => (by rw [hB.1] at h1; cases h1), fun i hi => ?_⟩
    rw [hB.1] at hi
    have hik : i = k := by simpa using hi
    subst hik
    have hw : wpOpIn F m P ops Q' i (wpListIn F m P ops Q' l) a w := by unfold wpOpIn; simp only [h0]; exact h
    exact wpOpIn_mono (fun a' w' h' => man_wpAnyIn_of_seq l (i + 1) _ a' w' (fun j => by have := hl (j + 1); simpa [Nat.add_assoc, Nat.add_comm 1 j] using this) hB.2 h') hw
theorem man_region_round_tail {id : Nat} {Q : Exit → Act → World → Prop} {a : Act} {w : World} {l : List Oper} (n : Nat) (hm : P.follows .mixedOrders = true) (hB : Region.lexTailB .any l.toArray n = true) (hdB : l.all man_notDefer = true)
    (h : wpStill P l.toArray { w with drawn := w.drawn + 1 } (fun a' => wpListIn (Fence.wide.inRound lr) m P l.toArray Q (l.drop n) a' { w with drawn := w.drawn + 1 }) (l.take n) a) : (Code.region id l.toArray true).wpIn (Fence.wide.inRound lr) m P Q a w := by
  simp only [Region.lexTailB, Bool.and_eq_true, decide_eq_true_eq] at hB
  obtain ⟨⟨⟨⟨hsel, hn⟩, hs⟩, hc⟩, hlex⟩ := hB
  have hd : ∀ (j : Nat) o, l.toArray[j]? = some o → man_notDefer o = true := fun j o ho => List.all_eq_true.1 hdB o (by rw [List.getElem?_toArray] at ho; exact List.mem_of_getElem? ho)
  have hn' : n < l.length := by simpa using hn
  have htl : (l.take n).length = n := by simp; omega
  have hdl : (l.drop n).length = l.toArray.size - n := by simp
  have inv0 : HeadInv .any l.toArray n (Array.replicate l.toArray.size false) :=
    ⟨by simp, fun j oj _ hl => (by rw [getD_replicate_false] at hl; cases hl), fun t _ ht => getD_in (by simpa using ht) (getD_replicate_false _ _)⟩
  have H := wpAnyL_lex (md := .any) (g := l.toArray.size - n) hsel hs hc hn (l.take n) 0 _ a (fun j hj => by
    have hj' : j < n := by rw [htl] at hj; exact hj
    simp [hj']) (by simpa using htl) inv0 (by rw [htl]; exact hlex) h
  refine wpIn_region_any hm ?_
  have := man_wpAnyIn_of_head (Q' := Q) (g := l.toArray.size - n) hd (fun listed a' hL => by
    have := man_wpAnyIn_of_seq (md := .any) (Q' := Q) (F := Fence.wide.inRound lr) (m := m) (P := P) (l.drop n) n listed a' { w with drawn := w.drawn + 1 } (fun j => by simp [List.getElem?_drop]) (by rw [hdl]; exact hL.1) hL.2
    rwa [hdl] at this) _ _ _ H
  rw [htl, show n + (l.toArray.size - n) = l.toArray.size by omega] at this
  exact this
end

/-- One bit more: a new byte of ones where the last one is full; a zero is taken out of them. -/
def huff_room (at_ : Nat) (out : List Int) : List Int := if at_ % 8 = 0 then out ++ [255] else out
def huff_put1 (b : Int) (at_ : Nat) (out : List Int) : List Int :=
  if b = 1 then huff_room at_ out else (huff_room at_ out).set (at_ / 8) (bits .andNot .u8 (rd (huff_room at_ out) (at_ / 8 : Nat)) (128 / 2 ^ (at_ % 8)))
def huff_pack : List Int → Nat → List Int → List Int
  | [], _, out => out
  | b :: bs, i, out => huff_pack bs (i + 1) (huff_put1 b i out)
theorem huff_pack_snoc : ∀ (a : List Int) (b : Int) (i : Nat) (out : List Int), huff_pack (a ++ [b]) i out = huff_put1 b (i + a.length) (huff_pack a i out)
  | [], b, i, out => rfl
  | x :: a, b, i, out => by
    simp only [List.cons_append, huff_pack, List.length_cons]
    rw [huff_pack_snoc a b (i + 1)]
    congr 1
    omega
theorem huff_room_length (i : Nat) (out : List Int) (h : out.length = (i + 7) / 8) : (huff_room i out).length = (i + 1 + 7) / 8 := by
  unfold huff_room
  split
  · rw [List.length_append, h]; simp; omega
  · omega
theorem huff_put1_length (b : Int) (i : Nat) (out : List Int) (h : out.length = (i + 7) / 8) : (huff_put1 b i out).length = (i + 1 + 7) / 8 := by
  unfold huff_put1
  split
  · exact huff_room_length i out h
  · rw [List.length_set]; exact huff_room_length i out h
theorem huff_pack_length : ∀ (a : List Int) (i : Nat) (out : List Int), out.length = (i + 7) / 8 → (huff_pack a i out).length = (i + a.length + 7) / 8
  | [], i, out, h => h
  | x :: a, i, out, h => by
    rw [huff_pack, huff_pack_length a (i + 1) _ (huff_put1_length x i out h)]
    simp only [List.length_cons]
    omega
theorem huff_low_length (c : Int) : ∀ j, (huff_low c j).length = j
  | 0 => rfl
  | j + 1 => by simp [huff_low, huff_low_length c j]
theorem huff_enc_length_le : ∀ l : List Int, (∀ c ∈ l, 0 ≤ c ∧ c < 256) → (huff_enc l).length ≤ 30 * l.length
  | [], _ => by simp [huff_enc]
  | c :: r, h => by
    have ih := huff_enc_length_le r (fun x hx => h x (List.mem_cons_of_mem _ hx))
    have hc := h c List.mem_cons_self
    have h1 := huff_w_bd c.toNat (by omega)
    rw [show ((c.toNat : Nat) : Int) = c by omega] at h1
    rw [huff_enc, List.length_append, huff_low_length]
    simp only [List.length_cons]
    omega
def huff_Put.f (a0 : ByteArray) : Option (List Int × Int) := if 65536 < a0.size then some ([], 3) else some (huff_pack (huff_enc (bytesOf a0)) 0 [], 0)
theorem huff_Kp_of {W W' : World} {row : Option Nat} (hg : W.grownBy W' row) (hr : ∀ r, row = some r → ∃ cs t, W.heap[r]? = some (.cells cs t (0, 0)) ∧ ¬ (t = 9 ∨ t = 145 ∨ t = 146)) : huff_Kp W W' := by
  intro g cs t fr ht hc
  refine (hg.block g (Array.getElem?_eq_some_iff.1 hc).1 (fun e => ?_)).trans hc
  obtain ⟨cs', t', h1, h2⟩ := hr g e.symm
  rw [hc] at h1
  cases h1
  exact h2 ht
theorem huff_Kp_trans {A B C : World} (h : huff_Kp A B) (k : huff_Kp B C) : huff_Kp A C := fun g cs t fr ht hc => k g cs t fr ht (h g cs t fr ht hc)
theorem huff_low_01 (c : Int) : ∀ j, ∀ b ∈ huff_low c j, b = 0 ∨ b = 1
  | 0, b, h => by cases h
  | j + 1, b, h => by
    rw [huff_low] at h
    rcases List.mem_cons.1 h with rfl | h
    · omega
    · exact huff_low_01 c j b h
theorem huff_enc_01 : ∀ l, ∀ b ∈ huff_enc l, b = 0 ∨ b = 1
  | [], b, h => by cases h
  | c :: r, b, h => by
    rw [huff_enc] at h
    rcases List.mem_append.1 h with h | h
    · exact huff_low_01 _ _ b h
    · exact huff_enc_01 r b h
/-- What holds of huff.Put's memory: what is written so far, behind so many bits. -/
def huff_St (w : World) (W : World) (out : List Int) (at_ : Nat) : Prop :=
  ∃ v, Boxed W w.heap.size 23 v ∧ W.ownsRow w.heap.size 5 1 v out.length (nums .u8 out) ∧ Boxed W (w.heap.size + 1) 3 (.int .i64 at_) ∧ (∃ u, Boxed W (w.heap.size + 2) 9 u) ∧ Below w.heap.size w W
theorem huff_grow {w W w1 : World} {v v' u : Value} {k m : Nat} {xs ys : List Value} {at_ : Value} {tmp : Obj} (hv : Boxed W w.heap.size 23 v) (ho : W.ownsRow w.heap.size 5 1 v k xs) (hat : Boxed W (w.heap.size + 1) 3 at_) (hu : Boxed W (w.heap.size + 2) 9 u) (hB : Below w.heap.size w W)
    (hown' : w1.ownsRow w.heap.size 5 1 v' m ys) (hgrow : (W.alloc tmp).grownBy w1 v.ownBlock) :
    KeepsOthers W (w1.setCell ⟨w.heap.size, 0, none⟩ v') ∧ huff_Kp W (w1.setCell ⟨w.heap.size, 0, none⟩ v') ∧ Boxed (w1.setCell ⟨w.heap.size, 0, none⟩ v') w.heap.size 23 v' ∧ (w1.setCell ⟨w.heap.size, 0, none⟩ v').ownsRow w.heap.size 5 1 v' m ys ∧
      Boxed (w1.setCell ⟨w.heap.size, 0, none⟩ v') (w.heap.size + 1) 3 at_ ∧ Boxed (w1.setCell ⟨w.heap.size, 0, none⟩ v') (w.heap.size + 2) 9 u ∧ Below w.heap.size w (w1.setCell ⟨w.heap.size, 0, none⟩ v') := by
  obtain ⟨hv1, hv2, hr2, hk2, hb2⟩ := hv.appended (by decide) ho hB.size (Nat.le_refl _) hown' hgrow
  refine ⟨hk2, huff_Kp_trans (huff_Kp_of (World.grownBy_alloc W tmp none) (fun r e => by cases e)) (huff_Kp_trans (huff_Kp_of hgrow (fun r e => ?_)) (huff_Kp_of (grownBy_setCell' w1 w.heap.size v') (fun r e => ?_))), hv2, hr2, ((hat.alloc _).kept hgrow (hat.not_row (by decide) ho)).other (by omega) _, ((hu.alloc _).kept hgrow (hu.not_row (by decide) ho)).other (by omega) _, hB.trans hb2⟩
  · obtain ⟨cells, hc⟩ := own_typed ho r e
    exact ⟨_, _, (Below.heap_alloc W tmp r (Array.getElem?_eq_some_iff.1 hc).1).trans hc, by decide⟩
  · cases e
    exact ⟨_, _, hv1, by decide⟩
theorem huff_store {w W : World} {u : Value} {g' cap' : Nat} {R : List Int} {at_ : Value} (q : Nat) (x : Int) (hv : Boxed W w.heap.size 23 (.slice (some ⟨g', 0, none⟩) R.length cap')) (ho : W.ownsRow w.heap.size 5 1 (.slice (some ⟨g', 0, none⟩) R.length cap') R.length (nums .u8 R)) (hat : Boxed W (w.heap.size + 1) 3 at_) (hu : Boxed W (w.heap.size + 2) 9 u) (hB : Below w.heap.size w W) :
    KeepsOthers W (W.drew.setCell ⟨g', q, none⟩ (.int .u8 x)) ∧ huff_Kp W (W.drew.setCell ⟨g', q, none⟩ (.int .u8 x)) ∧ Boxed (W.drew.setCell ⟨g', q, none⟩ (.int .u8 x)) w.heap.size 23 (.slice (some ⟨g', 0, none⟩) R.length cap') ∧ (W.drew.setCell ⟨g', q, none⟩ (.int .u8 x)).ownsRow w.heap.size 5 1 (.slice (some ⟨g', 0, none⟩) R.length cap') R.length (nums .u8 (R.set q x)) ∧
      Boxed (W.drew.setCell ⟨g', q, none⟩ (.int .u8 x)) (w.heap.size + 1) 3 at_ ∧ Boxed (W.drew.setCell ⟨g', q, none⟩ (.int .u8 x)) (w.heap.size + 2) 9 u ∧ Below w.heap.size w (W.drew.setCell ⟨g', q, none⟩ (.int .u8 x)) := by
  have ho' : W.drew.ownsRow w.heap.size 5 1 (.slice (some ⟨g', 0, none⟩) R.length cap') R.length (nums .u8 R) := ho
  obtain ⟨h1, h2⟩ := own_store ho' (q : Int) x
  rw [Int.toNat_natCast] at h1 h2
  have hv' : Boxed W.drew w.heap.size 23 (.slice (some ⟨g', 0, none⟩) R.length cap') := hv
  have hat' : Boxed W.drew (w.heap.size + 1) 3 at_ := hat
  have hu' : Boxed W.drew (w.heap.size + 2) 9 u := hu
  have hB' : Below w.heap.size w W.drew := below_drew1 hB
  refine ⟨(KeepsOthers.drew W).trans (KeepsOthers.setCell _ _ _), huff_Kp_of (W := W.drew) h2 (fun r e => ?_), hv'.kept h2 (hv'.not_row (by decide) ho'), h1, hat'.kept h2 (hat'.not_row (by decide) ho'), hu'.kept h2 (hu'.not_row (by decide) ho'), hB'.grown h2 hB'.size (fun k e => ?_)⟩
  · cases e
    obtain ⟨cells, hc⟩ := own_typed ho' g' rfl
    exact ⟨_, _, hc, by decide⟩
  · cases e
    exact own_base ho' g' rfl
theorem huff_count {w W : World} {v u : Value} {R : List Int} {at_ : Value} (n : Nat) (hv : Boxed W w.heap.size 23 v) (ho : W.ownsRow w.heap.size 5 1 v R.length (nums .u8 R)) (hat : Boxed W (w.heap.size + 1) 3 at_) (hu : Boxed W (w.heap.size + 2) 9 u) (hB : Below w.heap.size w W) :
    KeepsOthers W (W.setCell ⟨w.heap.size + 1, 0, none⟩ (.int .i64 ((n : Int) + 1))) ∧ huff_Kp W (W.setCell ⟨w.heap.size + 1, 0, none⟩ (.int .i64 ((n : Int) + 1))) ∧ huff_St w (W.setCell ⟨w.heap.size + 1, 0, none⟩ (.int .i64 ((n : Int) + 1))) R (n + 1) := by
  have h2 := grownBy_setCell' W (w.heap.size + 1) (.int .i64 ((n : Int) + 1))
  refine ⟨KeepsOthers.setCell _ _ _, huff_Kp_of h2 (fun r e => ?_), v, hv.kept h2 (by simp), ho.kept h2 ?_, ?_, ⟨u, hu.kept h2 (by simp)⟩, hB.grown h2 hB.size (fun k e => by cases e; omega)⟩
  · cases e
    exact ⟨_, _, hat, by decide⟩
  · exact .inr (fun e => hat.not_row (by decide) ho e.symm)
  · have := hat.set (.int .i64 ((n : Int) + 1))
    have e : (n : Int) + 1 = ((n + 1 : Nat) : Int) := by omega
    rw [e] at this ⊢
    exact this
section
attribute [local go_sem] Oper.semAt_some
set_option maxHeartbeats 3200000 in
set_option maxRecDepth 100000 in
theorem huff_Put.great (a0 : ByteArray) (w : World) (hsz : a0.size ≤ 65536) :
    Calls Tryd.prog 14 #[.string a0] w fun e w' => ∃ v, e = .returned (.tuple #[v, .int .i64 0]) ∧ Kd.R (Kd.int .u8) 5 w' w.heap.size (fun _ => True) v (huff_pack (huff_enc (bytesOf a0)) 0 []) ∧ Below w.heap.size w w' := by
  have hd1 : decide (65536 < (a0.size : Int)) = false := decide_eq_false (by omega)
  obtain ⟨i0, hi, hzz⟩ := Option.map_eq_some_iff.1 man_info_u8
  simp only [Prod.mk.injEq] at hzz
  obtain ⟨hz0, hz1, hz2⟩ := hzz
  refine (callsIn_wide (n := 6)).1 ?_
  have hro : Fence.wide.round = none := rfl
  refine callsIn_of_wp_marks Tryd.func14 rfl trivial ?_ hro
  simp only [Tryd.ntmps14, List.size_toArray, List.length_cons, List.length_nil, Nat.reduceAdd, Nat.reduceSub, Array.replicate_succ, Array.replicate_zero, List.push_toArray, List.append_toArray, List.nil_append, List.cons_append]
  gi_wp2
  refine ⟨trivial, (callsIn_wide.2 (huff_bits.calls _ _)).mono ?_⟩
  rintro e w' ⟨rfl, rfl⟩
  gi_wp2
  obtain ⟨W2, hW2⟩ : ∃ W2, ((w.alloc (Obj.cells #[Value.slice none 0 0] 23)).alloc (Obj.cells #[Value.int IntKind.i64 0] 3)).alloc (Obj.cells #[Value.string a0] 9) = W2 := ⟨_, rfl⟩
  have hsz2 : W2.heap.size = w.heap.size + 3 := by rw [← hW2]; simp
  have hbox : Boxed W2 (w.heap.size + 1 + 1) 9 (.string a0) := by
    rw [← hW2]
    have := Boxed.new ((w.alloc (Obj.cells #[Value.slice none 0 0] 23)).alloc (Obj.cells #[Value.int IntKind.i64 0] 3)) 9 (.string a0)
    simpa using this
  have hat0 : Boxed W2 (w.heap.size + 1) 3 (.int .i64 0) := by
    rw [← hW2]
    have := (Boxed.new (w.alloc (Obj.cells #[Value.slice none 0 0] 23)) 3 (.int .i64 0)).alloc (Obj.cells #[Value.string a0] 9)
    simpa using this
  have hout : Boxed W2 w.heap.size 23 (.slice none 0 0) := by
    rw [← hW2]
    exact ((Boxed.new w 23 (.slice none 0 0)).alloc _).alloc _
  have hbel : Below w.heap.size w W2 := by
    rw [← hW2]
    exact ((((Below.refl _ w).alloc (Nat.le_refl _) _).alloc (by simp) _).alloc (by simp; omega) _)
  have HST0 := Aside0.mk (show huff_St w W2 (huff_pack [] 0 []) ([] : List Int).length from ⟨_, hout, World.ownsRow_nil _ _ _ _, hat0, ⟨_, hbox⟩, hbel⟩)
  rw [hW2]
  have HSZ := Aside0.mk hsz2
  clear hW2 hsz2 hat0 hout hbel
  refine wpIn_runs2 (n := 6) hro (by omega) (gf := 88) (lb := #[.pointer (some ⟨w.heap.size + 1 + 1, 0, none⟩)]) rfl trivial (enters_of Tryd.func88 (by kernel_rfl) rfl)
    (huff_bits.runs 5 (by omega) (w.heap.size + 1 + 1) a0 (by omega) W2 hbox) (by rw [HSZ.out]; omega) (fun h1 h2 => huff_Kp_trans h1 h2) ?hKb (fun _ => rfl)
    (fun pre W => huff_St w W (huff_pack pre 0 []) pre.length) ?hI HST0.out ?a1 ?assign ?body ?done
  case assign =>
    intro l x W K hK
    gi_wp2
    exact hK
  case hKb =>
    intro W l o o' hl ho g cs t fr _ hc
    refine (World.putObj_heap_other (fun e => ?_)).trans hc
    subst e
    rw [hl] at hc
    cases hc
    cases ho
  case hI =>
    rintro s X Y row ⟨v, hv, ho, hat, ⟨u, hu⟩, hB⟩ hg hr
    have hne : ∀ r, row = some r → r ≠ w.heap.size ∧ r ≠ w.heap.size + 1 ∧ some r ≠ v.ownBlock ∧ w.heap.size ≤ r ∧ (r = w.heap.size + 2 → ∃ u, Boxed Y (w.heap.size + 2) 9 u) := by
      intro r e
      rcases hr r e with ⟨rfl, hu'⟩ | ⟨hr1, o, hro1, hro2⟩
      · exact ⟨by omega, by omega, hu.not_row (by decide) ho, by omega, fun _ => hu'⟩
      · rw [HSZ.out] at hr1
        refine ⟨by omega, by omega, fun e2 => ?_, by omega, fun e2 => ?_⟩
        · obtain ⟨cells, hc⟩ := own_typed ho r e2.symm
          rw [hc] at hro1; cases hro1; cases hro2
        · omega
    refine ⟨v, hv.kept hg (fun e => (hne _ e.symm).1 rfl), ho.kept hg ?_, hat.kept hg (fun e => (hne _ e.symm).2.1 rfl), ?_, hB.grown hg hB.size (fun k e => (hne k e).2.2.2.1)⟩
    · cases hvb : v.ownBlock with
      | none => exact .inl rfl
      | some k => exact .inr (fun e => (hne k e.symm).2.2.1 hvb.symm)
    · by_cases e : row = some (w.heap.size + 2)
      · exact (hne _ e).2.2.2.2 rfl
      · exact ⟨u, hu.kept hg (fun e2 => e e2.symm)⟩
  case body =>
    rintro l pre x rest W hx hl ⟨v, hv, ho, hat, ⟨u, hu⟩, hB⟩
    have hx01 : x = 0 ∨ x = 1 := huff_enc_01 (bytesOf a0) x (by rw [hx]; simp)
    have hlen : pre.length + 1 ≤ 1966080 := by
      have h1 := huff_enc_length_le (bytesOf a0) (man_bytesOf_bd a0)
      rw [hx, man_bytesOf_length] at h1
      simp at h1
      omega
    have hpl := huff_pack_length pre 0 [] rfl
    have HX := Aside0.mk (huff_pack_snoc pre x 0 [])
    clear hx
    rw [Nat.zero_add] at hpl HX
    obtain ⟨out, hout⟩ : ∃ out, huff_pack pre 0 [] = out := ⟨_, rfl⟩
    rw [hout] at ho hpl HX
    obtain ⟨n, hn⟩ : ∃ n, pre.length = n := ⟨_, rfl⟩
    rw [hn] at hat hlen hpl HX
    have HN := Aside0.mk hn
    have HV := Aside0.mk hv
    have HU := Aside0.mk hu
    have HB := Aside0.mk hB
    have HO := Aside0.mk ho
    have HAT := Aside0.mk hat
    have hc := hv.cell
    have hf := hv.frozen
    have hca := hat.cell
    have hfa := hat.frozen
    have HPL := Aside0.mk hpl
    clear hv hu hB ho hat hout hn hpl
    by_cases h8 : n % 8 = 0
    · have h8b : ((n : Int) % 8 == 0) = true := beq_iff_eq.mpr (by omega)
      gi_upto_region 9 with (gi_at_builtin; go_must (refine wpListIn_append_own _ rfl _ _ 23 rfl w.heap.size 5 i0 (.int .u8 0) 1 1 Tryd.underlying23 hi hz0 hz1 hz2 rfl (by decide) _ _ _ rfl (HO.out.alloc _) ⟨W.heap.size, 0, none⟩ 1 1 [.int .u8 255] rfl rfl (cell_one_new _ _ _) (by simp [Value.oneCell']) (by simp only [maxLen]; have := HPL.out; omega) (by have := HPL.out; omega) (by have := HB.out.size; simp; omega) ?_; intro v' w1 hown' hgrow _; obtain ⟨g', cap', rfl⟩ := ownsRow_succ hown'; have hv1 := (HV.out.alloc _).kept hgrow (HV.out.not_row (by decide) HO.out); have hc1 := hv1.cell; have hf1 := hv1.frozen))
      obtain ⟨hk3, hkp3, hv3, hr3, ha3, hu3, hb3⟩ := huff_grow HV.out HO.out HAT.out HU.out HB.out hown' hgrow
      have e255 : nums .u8 out ++ [Value.int .u8 255] = nums .u8 (huff_room n out) := by rw [huff_room, if_pos h8]; simp [nums]
      rw [e255] at hr3
      clear hown' hgrow hv1 hc1 hf1 hc hf hca hfa e255
      generalize w1.setCell ⟨w.heap.size, 0, none⟩ (Value.slice (some { block := g', off := 0 }) (out.length + 1) cap') = W3 at hk3 hkp3 hv3 hr3 ha3 hu3 hb3 ⊢
      have eL : out.length + 1 = (huff_room n out).length := by rw [huff_room, if_pos h8, List.length_append]; rfl
      rw [eL] at hv3 hr3 ⊢
      clear eL h8b h8
      have hRl : n / 8 < (huff_room n out).length := by rw [huff_room_length n out HPL.out]; omega
      have hx2 := HX.out
      rw [huff_put1] at hx2
      have hlB : (huff_room n out).length ≤ 1966081 := by rw [huff_room_length n out HPL.out]; omega
      generalize huff_room n out = R at hv3 hr3 hRl hx2 hlB ⊢
      have HX := Aside0.mk hx2
      have HK3 := Aside0.mk hk3
      have HKP3 := Aside0.mk hkp3
      have HV3 := Aside0.mk hv3
      have HR3 := Aside0.mk hr3
      have HA3 := Aside0.mk ha3
      have HU3 := Aside0.mk hu3
      have HB3 := Aside0.mk hb3
      have hc3 := hv3.cell
      have hf3 := hv3.frozen
      have hca3 := ha3.cell
      have hfa3 := ha3.frozen
      clear hx2 hk3 hkp3 hv3 hr3 ha3 hu3 hb3 HV HU HB HO HAT
      rcases hx01 with rfl | rfl
      · obtain ⟨q, hq⟩ : ∃ q, n / 8 = q := ⟨_, rfl⟩
        obtain ⟨m, hm⟩ : ∃ m, n % 8 = m := ⟨_, rfl⟩
        obtain ⟨hx8, hf8⟩ := own_at HR3.out ((q : Nat) : Int) (by omega) (by omega)
        rw [Int.toNat_natCast] at hx8 hf8
        have hq0 : (0 : Int) ≤ (q : Int) := by omega
        have hq1 : (q : Int) < R.length := by omega
        have hm1 : (m : Int) < 8 := by omega
        have hdv : IntKind.i64.wrap ((n : Int) / 8) = (q : Int) := by rw [IntWalk.i64_in _ (by omega)]; omega
        have hmd : (n : Int).tmod 8 = (m : Int) := by rw [Int.tmod_eq_emod_of_nonneg (by omega)]; omega
        have hm0 : (0 : Int) ≤ (m : Int) := by omega
        have hx2 := HX.out
        rw [hq, hm, if_neg (by decide)] at hx2
        have HX := Aside0.mk hx2
        clear hx2 hq hm
        gi_upto_region 10 with (fail)
        have hmix : Tryd.prog.follows .mixedOrders = true := by kernel_rfl
        refine man_region_round_tail 10 hmix (by kernel_rfl) (by kernel_rfl) ?_
        simp only [List.take_succ_cons, List.take_zero, List.drop_succ_cons, List.drop_zero]
        repeat still_step
        refine wpStill_nil ?_
        change wpListIn _ _ _ _ _ _ _ (World.drew _)
        clear hmix hdv hmd
        gi_upto_region 11 with (fail)
        have hcl := huff_store q (bits .andNot .u8 (rd R (q : Int)) (128 / 2 ^ m)) HV3.out HR3.out HA3.out HU3.out HB3.out
        have hlR : (R.set q (bits .andNot .u8 (rd R (q : Int)) (128 / 2 ^ m))).length = R.length := List.length_set
        clear hx8 hf8 hc3 hf3 hca3 hfa3
        simp only [World.setCell_drew] at hcl
        obtain ⟨hk4, hkp4, hv4, hr4, ha4, hu4, hb4⟩ := hcl
        rw [← hlR] at hv4 hr4
        generalize (W3.setCell ⟨g', q, none⟩ (Value.int .u8 (bits .andNot .u8 (rd R (q : Int)) (128 / 2 ^ m)))).drew = W4 at hk4 hkp4 hv4 hr4 ha4 hu4 hb4 ⊢
        have hca4 := ha4.cell
        have hfa4 := ha4.frozen
        obtain ⟨hk5, hkp5, hst⟩ := huff_count n hv4 hr4 ha4 hu4 hb4
        have HFIN := Aside0.mk (show roundGoes huff_Kp (fun pre W => huff_St w W (huff_pack pre 0 []) pre.length) (pre ++ [0]) W .normal ⟨#[], []⟩ (W4.setCell ⟨w.heap.size + 1, 0, none⟩ (.int .i64 ((n : Int) + 1))) from
          ⟨(HK3.out.trans hk4).trans hk5, huff_Kp_trans (huff_Kp_trans HKP3.out hkp4) hkp5, by show huff_St w _ (huff_pack (pre ++ [0]) 0 []) (pre ++ [0]).length; rw [HX.out, List.length_append, HN.out]; exact hst⟩)
        clear hk4 hkp4 hv4 hr4 ha4 hu4 hb4 hk5 hkp5 hst
        gi_wp2
        exact HFIN.out
      · have hx2 := HX.out
        rw [if_pos rfl] at hx2
        obtain ⟨hk5, hkp5, hst⟩ := huff_count n HV3.out HR3.out HA3.out HU3.out HB3.out
        have HFIN := Aside0.mk (show roundGoes huff_Kp (fun pre W => huff_St w W (huff_pack pre 0 []) pre.length) (pre ++ [1]) W .normal ⟨#[], []⟩ (W3.setCell ⟨w.heap.size + 1, 0, none⟩ (.int .i64 ((n : Int) + 1))) from
          ⟨HK3.out.trans hk5, huff_Kp_trans HKP3.out hkp5, by show huff_St w _ (huff_pack (pre ++ [1]) 0 []) (pre ++ [1]).length; rw [hx2, List.length_append, HN.out]; exact hst⟩)
        clear hk5 hkp5 hst hx2
        gi_wp2
        exact HFIN.out
    · have h8b : ((n : Int) % 8 == 0) = false := beq_eq_false_iff_ne.mpr (by omega)
      obtain ⟨g', cap', rfl, -, -⟩ := HO.out.form (by have := HPL.out; omega)
      gi_upto_region 9 with (fail)
      have hk3 := KeepsOthers.refl W
      have hkp3 : huff_Kp W W := fun _ _ _ _ _ h => h
      have hv3 := HV.out
      have hr3 := HO.out
      have ha3 := HAT.out
      have hu3 := HU.out
      have hb3 := HB.out
      have eR : huff_room n out = out := by rw [huff_room, if_neg h8]
      rw [← eR] at hv3 hr3
      clear hc hf hca hfa h8b h8 eR
      have hRl : n / 8 < (huff_room n out).length := by rw [huff_room_length n out HPL.out]; omega
      have hx2 := HX.out
      rw [huff_put1] at hx2
      have hlB : (huff_room n out).length ≤ 1966081 := by rw [huff_room_length n out HPL.out]; omega
      generalize huff_room n out = R at hv3 hr3 hRl hx2 hlB ⊢
      have HX := Aside0.mk hx2
      have HK3 := Aside0.mk hk3
      have HKP3 := Aside0.mk hkp3
      have HV3 := Aside0.mk hv3
      have HR3 := Aside0.mk hr3
      have HA3 := Aside0.mk ha3
      have HU3 := Aside0.mk hu3
      have HB3 := Aside0.mk hb3
      have hc3 := hv3.cell
      have hf3 := hv3.frozen
      have hca3 := ha3.cell
      have hfa3 := ha3.frozen
      clear hx2 hk3 hkp3 hv3 hr3 ha3 hu3 hb3 HV HU HB HO HAT
      rcases hx01 with rfl | rfl
      · obtain ⟨q, hq⟩ : ∃ q, n / 8 = q := ⟨_, rfl⟩
        obtain ⟨m, hm⟩ : ∃ m, n % 8 = m := ⟨_, rfl⟩
        obtain ⟨hx8, hf8⟩ := own_at HR3.out ((q : Nat) : Int) (by omega) (by omega)
        rw [Int.toNat_natCast] at hx8 hf8
        have hq0 : (0 : Int) ≤ (q : Int) := by omega
        have hq1 : (q : Int) < R.length := by omega
        have hm1 : (m : Int) < 8 := by omega
        have hdv : IntKind.i64.wrap ((n : Int) / 8) = (q : Int) := by rw [IntWalk.i64_in _ (by omega)]; omega
        have hmd : (n : Int).tmod 8 = (m : Int) := by rw [Int.tmod_eq_emod_of_nonneg (by omega)]; omega
        have hm0 : (0 : Int) ≤ (m : Int) := by omega
        have hx2 := HX.out
        rw [hq, hm, if_neg (by decide)] at hx2
        have HX := Aside0.mk hx2
        clear hx2 hq hm
        gi_upto_region 10 with (fail)
        have hmix : Tryd.prog.follows .mixedOrders = true := by kernel_rfl
        refine man_region_round_tail 10 hmix (by kernel_rfl) (by kernel_rfl) ?_
        simp only [List.take_succ_cons, List.take_zero, List.drop_succ_cons, List.drop_zero]
        repeat still_step
        refine wpStill_nil ?_
        change wpListIn _ _ _ _ _ _ _ (World.drew _)
        clear hmix hdv hmd
        gi_upto_region 11 with (fail)
        have hcl := huff_store q (bits .andNot .u8 (rd R (q : Int)) (128 / 2 ^ m)) HV3.out HR3.out HA3.out HU3.out HB3.out
        have hlR : (R.set q (bits .andNot .u8 (rd R (q : Int)) (128 / 2 ^ m))).length = R.length := List.length_set
        clear hx8 hf8 hc3 hf3 hca3 hfa3
        simp only [World.setCell_drew] at hcl
        obtain ⟨hk4, hkp4, hv4, hr4, ha4, hu4, hb4⟩ := hcl
        rw [← hlR] at hv4 hr4
        generalize (W.setCell ⟨g', q, none⟩ (Value.int .u8 (bits .andNot .u8 (rd R (q : Int)) (128 / 2 ^ m)))).drew = W4 at hk4 hkp4 hv4 hr4 ha4 hu4 hb4 ⊢
        have hca4 := ha4.cell
        have hfa4 := ha4.frozen
        obtain ⟨hk5, hkp5, hst⟩ := huff_count n hv4 hr4 ha4 hu4 hb4
        have HFIN := Aside0.mk (show roundGoes huff_Kp (fun pre W => huff_St w W (huff_pack pre 0 []) pre.length) (pre ++ [0]) W .normal ⟨#[], []⟩ (W4.setCell ⟨w.heap.size + 1, 0, none⟩ (.int .i64 ((n : Int) + 1))) from
          ⟨(HK3.out.trans hk4).trans hk5, huff_Kp_trans (huff_Kp_trans HKP3.out hkp4) hkp5, by show huff_St w _ (huff_pack (pre ++ [0]) 0 []) (pre ++ [0]).length; rw [HX.out, List.length_append, HN.out]; exact hst⟩)
        clear hk4 hkp4 hv4 hr4 ha4 hu4 hb4 hk5 hkp5 hst
        gi_wp2
        exact HFIN.out
      · have hx2 := HX.out
        rw [if_pos rfl] at hx2
        obtain ⟨hk5, hkp5, hst⟩ := huff_count n HV3.out HR3.out HA3.out HU3.out HB3.out
        have HFIN := Aside0.mk (show roundGoes huff_Kp (fun pre W => huff_St w W (huff_pack pre 0 []) pre.length) (pre ++ [1]) W .normal ⟨#[], []⟩ (W.setCell ⟨w.heap.size + 1, 0, none⟩ (.int .i64 ((n : Int) + 1))) from
          ⟨HK3.out.trans hk5, huff_Kp_trans HKP3.out hkp5, by show huff_St w _ (huff_pack (pre ++ [1]) 0 []) (pre ++ [1]).length; rw [hx2, List.length_append, HN.out]; exact hst⟩)
        clear hk5 hkp5 hst hx2
        gi_wp2
        exact HFIN.out
  case done =>
    rintro D W hD ⟨v, hv, ho, hat, ⟨u, hu⟩, hB⟩ hK
    have hc := hv.cell
    have hf := hv.frozen
    have HV := Aside0.mk hv
    have HU := Aside0.mk hu
    have HB := Aside0.mk hB
    have HO := Aside0.mk ho
    clear hv hu hB ho hat
    gi_wp2
    refine ⟨by simp, .inl ⟨_, _, rfl, run_takeDeferred hK, ?_⟩⟩
    refine ⟨.tuple #[v, .int .i64 0], ?_, ⟨v, rfl, man_R_of_own (ownsRow_putObj HO.out _ hK rfl), HB.out.trans (belowK_b (w := w) (Nat.le_refl _) W D _ _ (by rw [HSZ.out] at hD; omega) hK rfl rfl)⟩⟩
    simp [results, Tryd.results14, go_sem]
end
theorem huff_Put.calls (a0 : ByteArray) (r1 : List Int) (r2 : Int) (w : World) (h : huff_Put.f a0 = some (r1, r2)) :
    Calls Tryd.prog 14 #[.string a0] w fun e w' => ∃ v0_ : Value, e = .returned (.tuple #[v0_, .int .i64 r2]) ∧ Kd.R (Kd.int .u8) 5 w' w.heap.size (fun _ => True) v0_ r1 ∧ Below w.heap.size w w' := by
  unfold huff_Put.f at h
  by_cases hb : 65536 < a0.size
  · rw [if_pos hb] at h
    simp only [Option.some.injEq, Prod.mk.injEq] at h
    obtain ⟨rfl, rfl⟩ := h
    have hd1 : decide (65536 < (a0.size : Int)) = true := decide_eq_true (by omega)
    go_enter Tryd.func14, Tryd.ntmps14
    go_wp2
    go_ret2
    exact ⟨_, rfl, Kd.R_nil _ _ _ _ _, Below.refl _ _⟩
  · rw [if_neg hb] at h
    simp only [Option.some.injEq, Prod.mk.injEq] at h
    obtain ⟨rfl, rfl⟩ := h
    exact huff_Put.great a0 w (by omega)


end Go.Proofs.YtmkmefdajbdceaaDoor.PHQ
