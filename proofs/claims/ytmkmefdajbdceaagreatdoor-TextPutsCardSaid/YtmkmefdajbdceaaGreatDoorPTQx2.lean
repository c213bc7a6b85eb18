-- Written by wip/mprint.py (the kit's printer, and texts of this claim's own for what it does not take). Not trusted: Lean checks it.
import Derived.Test.YtmkmefdajbdceaaGreatDoorPTQx0
import Derived.Test.YtmkmefdajbdceaaGreatDoorPTQx1
namespace Go.Proofs.YtmkmefdajbdceaaGreatDoor.PTQ
open Go.RowKit Go.Proofs.YtmkmefdajbdceaaGreatDoorW.PrintWords Go.Proofs.YtmkmefdajbdceaaGreatDoorW.PrintLast Go.Proofs.YtmkmefdajbdceaaGreatDoorW.PrintMore
attribute [local go_sem] max2_int min2_int max_two min_two max_three min_three max_four min_four   -- for this text's walks alone
set_option linter.unusedVariables false
set_option linter.unusedSimpArgs false

/-! ### text_plain: function 11, by hand -/
theorem man_info_u8 : (Tryz.prog.info? 5).map (fun i => (i.zero, i.size, i.bytes)) = some (some (.int .u8 0), 1, 1) := by kernel_rfl
/-- A number's place in a list. -/
theorem man_take_snoc (l : List Int) (k : Nat) (hk : k < l.length) : l.take (k + 1) = l.take k ++ [rd l k] := by
  rw [List.take_succ_eq_append_getElem hk]
  simp [rd, List.getD_eq_getElem?_getD, List.getElem?_eq_getElem hk]
/-- A list of bytes in memory of the call's own, with the mark behind it. -/
def Twin (w : World) (base : Nat) (v : Value) (l : List Int) : Prop :=
  ∃ g cap, v = .slice (some ⟨g, 0, none⟩) l.length cap ∧ w.ownsRow base 5 1 (.slice (some ⟨g, 0, none⟩) (l.length + 1) cap) (l.length + 1) (nums .u8 (l ++ [77]))
theorem Twin.below {w w1 : World} {base : Nat} {v : Value} {l : List Int} (h : Twin w base v l) (hb : Below w.heap.size w w1) : Twin w1 base v l := by
  obtain ⟨g, cap, hv, ho⟩ := h
  exact ⟨g, cap, hv, pw_own_below ho hb⟩
theorem Twin.reads {w : World} {base : Nat} {v : Value} {l : List Int} (h : Twin w base v l) : ∃ A c, v = .slice A l.length c ∧ Kd.C (Kd.int .u8) w A l.length l ∧ l.length + 1 ≤ c ∧ Kd.C (Kd.int .u8) w A (l ++ [77]).length (l ++ [77]) := by
  obtain ⟨g, cap, rfl, ho⟩ := h
  have hr := own_reads' ho
  have hC : Kd.C (Kd.int .u8) w (some ⟨g, 0, none⟩) (l ++ [77]).length (l ++ [77]) := by
    have h := Kd.C_of_reads (enc := Value.int .u8) (d := (0 : Int)) (h1 := fun _ => rfl) hr
    rw [List.length_append]
    exact h
  refine ⟨some ⟨g, 0, none⟩, cap, rfl, ?_, own_cap ho, hC⟩
  have h2 := Kd.C_take (m := l.length) hC (by simp)
  simpa using h2

theorem or_join (i : Nat) (a c : Int) (h0 : 0 ≤ a) (c0 : 0 ≤ c) (c1 : c < 2 ^ i) (h1 : a * 2 ^ i + c < 18446744073709551616) : bits .or .u64 (a * 2 ^ i) c = a * 2 ^ i + c := by
  obtain ⟨a, rfl⟩ := Int.eq_ofNat_of_zero_le h0
  obtain ⟨c, rfl⟩ := Int.eq_ofNat_of_zero_le c0
  have e : (a : Int) * 2 ^ i = ((2 ^ i * a : Nat) : Int) := by rw [Int.natCast_mul, Int.natCast_pow, Int.mul_comm]; rfl
  rw [e] at h1 ⊢
  have hc : c < 2 ^ i := by
    have : ((2 ^ i : Nat) : Int) = 2 ^ i := by rw [Int.natCast_pow]; rfl
    omega
  rw [u64_or_nat _ _ (by omega) (by omega), ← Nat.two_pow_add_eq_or_of_lt hc]
  omega
theorem or_comm64 (a c : Int) (h0 : 0 ≤ a) (h1 : a < 18446744073709551616) (c0 : 0 ≤ c) (c1 : c < 18446744073709551616) : bits .or .u64 a c = bits .or .u64 c a := by
  rw [u64_or a c h0 h1 c0 c1, u64_or c a c0 c1 h0 h1, Nat.or_comm]
theorem u8_and127 (x : Int) (h0 : 0 ≤ x) (h1 : x < 256) : bits .and .u8 x 127 = x % 128 := bits_mask .u8 8 (by decide) wraps_u8 7 (by decide) x h0 h1


def varint_GetPrefix.ok (l : List Int) : Bool := l.all fun x => decide (0 ≤ x) && decide (x < 256)
/-- What is told of the bytes behind the first one, from number i on, v being what came up to there. -/
def varint_GetPrefix.S (t : List Int) (m above : Int) : Nat → Nat → Int → Int × Int × Int × Int
  | 0, _, _ => (0, 0, 0, if t.length ≥ 10 then 5 else 4)
  | d + 1, i, v => if i < t.length then
      (if rd t i < 128 then
        (if v + rd t i % 128 * 2 ^ (7 * i) > 4611686018427387903 - m then (0, 0, 0, 3) else (above, v + rd t i % 128 * 2 ^ (7 * i) + m, (i : Int) + 2, 0))
       else varint_GetPrefix.S t m above d (i + 1) (v + rd t i % 128 * 2 ^ (7 * i)))
      else (0, 0, 0, if t.length ≥ 10 then 5 else 4)
def varint_GetPrefix.M (a0 : Int) : Int := 2 ^ a0.toNat - 1
def varint_GetPrefix.f (a0 : Int) (l1 : List Int) : Option (Int × Int × Int × Int) :=
  if a0 < 1 ∨ 8 < a0 then some (0, 0, 0, 1)
  else if l1.length = 0 then some (0, 0, 0, 4)
  else if varint_GetPrefix.ok l1 = true then
    (if rd l1 0 % 2 ^ a0.toNat < varint_GetPrefix.M a0 then some (rd l1 0 - rd l1 0 % 2 ^ a0.toNat, rd l1 0 % 2 ^ a0.toNat, 1, 0)
     else some (varint_GetPrefix.S (l1.drop 1) (varint_GetPrefix.M a0) (rd l1 0 - rd l1 0 % 2 ^ a0.toNat) 10 0 0))
  else none
theorem varint_GetPrefix.rd_bd {l : List Int} (hl : varint_GetPrefix.ok l = true) (i : Nat) (hi : i < l.length) : 0 ≤ rd l i ∧ rd l i < 256 := by
  have h := List.all_eq_true.1 hl (rd l i) (by
    unfold rd
    rw [List.getD_eq_getElem?_getD, List.getElem?_eq_getElem (by simpa using hi)]
    exact List.getElem_mem _)
  simpa using h
/-- The machine's words for the mask and what it parts. -/
theorem varint_GetPrefix.mask (a0 x : Int) (h : 1 ≤ a0) (h8 : a0 ≤ 8) (x0 : 0 ≤ x) (x1 : x < 256) :
    IntKind.u64.wrap (IntKind.u64.wrap (2 ^ a0.toNat) - 1) = varint_GetPrefix.M a0 ∧ varint_GetPrefix.M a0 % 256 = varint_GetPrefix.M a0 ∧
    bits .and .u64 x (varint_GetPrefix.M a0) = x % 2 ^ a0.toNat ∧ bits .andNot .u8 x (varint_GetPrefix.M a0) = x - x % 2 ^ a0.toNat ∧ 1 ≤ varint_GetPrefix.M a0 ∧ varint_GetPrefix.M a0 ≤ 255 ∧ 0 ≤ x % 2 ^ a0.toNat := by
  have hx : x = ((x.toNat : Nat) : Int) := by omega
  have hxl : x.toNat < 256 := by omega
  rcases (show a0 = 1 ∨ a0 = 2 ∨ a0 = 3 ∨ a0 = 4 ∨ a0 = 5 ∨ a0 = 6 ∨ a0 = 7 ∨ a0 = 8 by omega) with rfl | rfl | rfl | rfl | rfl | rfl | rfl | rfl
  all_goals
    refine ⟨by decide +kernel, by decide +kernel, ?_, ?_, by decide +kernel, by decide +kernel, by omega⟩
    · rw [hx]
      exact of_decide_eq_true (List.all_eq_true.1 (show (List.range 256).all (fun n => decide (bits .and .u64 (n : Int) (varint_GetPrefix.M _) = (n : Int) % 2 ^ (Int.toNat _))) = true by decide +kernel) _ (List.mem_range.2 hxl))
    · rw [hx]
      exact of_decide_eq_true (List.all_eq_true.1 (show (List.range 256).all (fun n => decide (bits .andNot .u8 (n : Int) (varint_GetPrefix.M _) = (n : Int) - (n : Int) % 2 ^ (Int.toNat _))) = true by decide +kernel) _ (List.mem_range.2 hxl))
theorem varint_GetPrefix.S_end (t : List Int) (m a : Int) (d i : Nat) (v : Int) (h : d = 0 ∨ ¬ i < t.length) : varint_GetPrefix.S t m a d i v = (0, 0, 0, if t.length ≥ 10 then 5 else 4) := by
  cases d with
  | zero => simp only [varint_GetPrefix.S]
  | succ d =>
    simp only [varint_GetPrefix.S]
    rw [if_neg (by omega)]
/-- One part more. -/
theorem varint_GetPrefix.add (i : Nat) (hi : i < 10) (p v : Int) (p0 : 0 ≤ p) (p1 : p < 128) (v0 : 0 ≤ v) (v1 : v < 2 ^ (7 * i)) :
    (p * 2 ^ (7 * i) < 18446744073709551616 ∧ IntKind.u64.wrap (p * 2 ^ (7 * i)) / 2 ^ (7 * i) = p ∧ bits .or .u64 v (IntKind.u64.wrap (p * 2 ^ (7 * i))) = v + p * 2 ^ (7 * i) ∧ v + p * 2 ^ (7 * i) < 18446744073709551616 ∧ v + p * 2 ^ (7 * i) < 2 ^ (7 * (i + 1)) ∧ 0 ≤ p * 2 ^ (7 * i)) ∨
    (18446744073709551616 ≤ p * 2 ^ (7 * i) ∧ (IntKind.u64.wrap (p * 2 ^ (7 * i)) / 2 ^ (7 * i) != p) = true ∧ i = 9 ∧ v + p * 2 ^ (7 * i) < 2 ^ (7 * (i + 1))) := by
  by_cases ho : p * 2 ^ (7 * i) < 18446744073709551616
  · left
    have hw : IntKind.u64.wrap (p * 2 ^ (7 * i)) = p * 2 ^ (7 * i) := by
      rw [IntKind.wrap_u64, Int.emod_eq_of_lt (Int.mul_nonneg p0 (Int.le_of_lt (Int.pow_pos (by decide)))) ho]
    have hs : v + p * 2 ^ (7 * i) < 18446744073709551616 ∧ v + p * 2 ^ (7 * i) < 2 ^ (7 * (i + 1)) ∧ 0 ≤ p * 2 ^ (7 * i) ∧ p * 2 ^ (7 * i) / 2 ^ (7 * i) = p := by
      rcases (show i = 0 ∨ i = 1 ∨ i = 2 ∨ i = 3 ∨ i = 4 ∨ i = 5 ∨ i = 6 ∨ i = 7 ∨ i = 8 ∨ i = 9 by omega) with rfl | rfl | rfl | rfl | rfl | rfl | rfl | rfl | rfl | rfl <;> simp only [Nat.reduceMul, Nat.reduceAdd, Int.reducePow] at v1 ho ⊢ <;> omega
    rw [hw]
    refine ⟨ho, hs.2.2.2, ?_, hs.1, hs.2.1, hs.2.2.1⟩
    have e := or_join (7 * i) p v p0 v0 v1 (by omega)
    rw [or_comm64 _ _ v0 (by omega) hs.2.2.1 ho, e, Int.add_comm]
  · right
    have h9 : i = 9 := by
      rcases (show i = 0 ∨ i = 1 ∨ i = 2 ∨ i = 3 ∨ i = 4 ∨ i = 5 ∨ i = 6 ∨ i = 7 ∨ i = 8 ∨ i = 9 by omega) with rfl | rfl | rfl | rfl | rfl | rfl | rfl | rfl | rfl | rfl <;> first | rfl | (simp only [Nat.reduceMul, Nat.reduceAdd, Int.reducePow] at v1 ho; omega)
    subst h9
    simp only [Nat.reduceMul, Nat.reduceAdd, Int.reducePow] at v1 ho ⊢
    refine ⟨by omega, ?_, trivial, by omega⟩
    rw [IntKind.wrap_u64]
    simp only [bne_iff_ne, ne_eq]
    omega
theorem man_R_of_own {w : World} {base : Nat} {e : TypeId} {k : IntKind} {v : Value} {n : Nat} {xs : List Int} (h : w.ownsRow base e 1 v n (nums k xs)) : Kd.R (Kd.int k) e w base (fun _ => True) v xs := by
  have hl : xs.length = n := by have := h.1; simp [nums] at this; exact this
  subst hl
  exact Kd.R_of_own (enc := Value.int k) (h1 := fun _ => rfl) h (fun _ _ => trivial)

/-! ### A range over a function whose iterator may write a variable of its own (block Bn), and whose rounds all go on -/
section
variable {F : Fence} {n : Nat} {P : Program}
/-- What an iterator may do beside its rounds: lay blocks; write block Bn. -/
def StepsOf {β : Type} (Bn : Nat) (tn : TypeId) (J : β → World → Prop) : Prop :=
  ∀ s W W' (row : Option Nat), J s W → W.grownBy W' row → (∀ r, row = some r → r = Bn ∧ ∃ u, Boxed W' Bn tn u) → J s W'
/-- The iterator's contract: it hands the rounds just xs, one by one. Kp: what each round keeps. -/
def SeqRuns {α : Type} (F : Fence) (n : Nat) (P : Program) (g : Nat) (lb : Array Value) (encs : α → Array Value) (Bn : Nat) (tn : TypeId) (Kp : World → World → Prop) (xs : List α) (w : World) : Prop :=
  ∀ (l : Nat) (J : List α → World → Prop) (W : World), Below w.heap.size w W → StepsOf Bn tn J →
    (∀ pre x rest W1, xs = pre ++ x :: rest → J pre W1 → YieldAt F (n - 1) P l (encs x) W1 fun e W' => e = .returned (.bool true) ∧ J (pre ++ [x]) W' ∧ Kp W1 W') →
    J [] W → CallsIn F n P g (#[.func (.yield l) #[] #[]] ++ lb) W fun e W' => (∃ v, e = .returned v) ∧ J xs W'
/-- How a round's body is left: off its end. -/
def roundGoes {α : Type} (Kp : World → World → Prop) (I : List α → World → Prop) (xs : List α) (W : World) : Exit → Act → World → Prop
  | .normal, _, W' => KeepsOthers W W' ∧ Kp W W' ∧ I xs W'
  | _, _, _ => False
theorem wpIn_runs {α : Type} {g : Operand} {ps : Array Tmp} {assign body : Code} {Q : Exit → Act → World → Prop} {a : Act} {w : World}
    (hro : F.round = none) (h1 : 1 ≤ n) {gf : Nat} {lb : Array Value} (hg : a.eval g = .func (.func gf) #[] lb) (hFg : F.fn gf) (eg : ∀ args w, (callFunc gf args).run P w = .ok (.enter gf args) w)
    {encs : α → Array Value} {Bn : Nat} {tn : TypeId} {Kp : World → World → Prop} {xs : List α} (hseq : SeqRuns F (n - 1) P gf lb encs Bn tn Kp xs w) (hBn : Bn < w.heap.size)
    (hKt : ∀ {A B C : World}, Kp A B → Kp B C → Kp A C) (hKb : ∀ (W : World) (l : Nat) (o : Obj), w.heap.size ≤ l → Kp W (W.putObj l o)) (hps : ∀ x, (encs x).size = ps.size)
    (I : List α → World → Prop) (hI : ∀ s W W' (row : Option Nat), I s W → W.grownBy W' row → (∀ r, row = some r → (r = Bn ∧ ∃ u, Boxed W' Bn tn u) ∨ (w.heap.size ≤ r ∧ ∃ o : Obj, W.heap[r]? = some o ∧ o.isCells = false)) → I s W')
    (h0 : I [] w) (a₁ : α → Act)
    (hassign : ∀ (l : Nat) (x : α) (W : World) (K : Act → World → Prop), K (a₁ x) W → assign.wpIn (F.inRound l) (n - 1 - 1) P (Exit.then K (fun _ _ _ => False)) { tmps := (ps.zip (encs x)).foldl (fun t (p, v) => t.setIfInBounds p v) a.tmps, defers := [] } W)
    (hbody : ∀ (l : Nat) (pre : List α) (x : α) (rest : List α) (W : World), xs = pre ++ x :: rest → w.heap.size ≤ l → I pre W → body.wpIn (F.inRound l) (n - 1 - 1) P (roundGoes Kp I (pre ++ [x]) W) (a₁ x) W)
    (hdone : ∀ (D : Nat) (W : World), w.heap.size ≤ D → I xs W → W.heap[D]? = some (.deferred (some [])) → Q .normal { a with defers := { target := .collected D, args := #[] } :: a.defers } W) :
    (Code.rangeFunc g ps assign body).wpIn F n P Q a w := by
  refine wpIn_rangeFunc ?_
  intro fn hfn
  rw [hro]
  obtain ⟨rec, hrec⟩ : ∃ rec : LoopState → Option Code → Loop, rec = fun st pe => { state := st, pending := pe, fn, tmps := a.tmps, params := ps, assign, body, defers := w.heap.size } := ⟨_, rfl⟩
  obtain ⟨W1, hW1⟩ : ∃ W1, (w.alloc (.deferred (some []))).alloc (.loop (rec .ready none)) = W1 := ⟨_, rfl⟩
  have hL1 : W1.heap[w.heap.size + 1]? = some (.loop (rec .ready none)) := by
    rw [← hW1]; have := World.alloc_heap_new (w.alloc (.deferred (some []))) (.loop (rec .ready none)); rwa [World.size_alloc] at this
  have hK1 : W1.heap[w.heap.size]? = some (.deferred (some [])) := by
    rw [← hW1]; exact (Below.heap_alloc _ _ _ (by simp)).trans (World.alloc_heap_new w _)
  have hI1 : I [] W1 := by
    rw [← hW1]
    exact hI _ _ _ none (hI _ _ _ none h0 (World.grownBy_alloc w _ none) (by simp)) (World.grownBy_alloc _ _ none) (by simp)
  have hb1 : Below w.heap.size w W1 := by rw [← hW1]; exact ((Below.refl _ w).alloc (Nat.le_refl _) _).alloc (by simp) _
  have put_I : ∀ (s : List α) (W : World) (o o' : Obj), I s W → W.heap[w.heap.size + 1]? = some o → o.isCells = false → I s (W.putObj (w.heap.size + 1) o') := fun s W o o' hs hl ho =>
    hI s W _ (some (w.heap.size + 1)) hs (grownBy_putObj' W _ o') (fun r e => by cases e; exact .inr ⟨by omega, o, hl, ho⟩)
  refine ⟨w.heap.size + 1, [{ target := .collected w.heap.size, args := #[] }], W1, { target := .fn (.func gf) lb, args := #[.func (.yield (w.heap.size + 1)) #[] #[]] }, W1, gf,
    #[.func (.yield (w.heap.size + 1)) #[] #[]] ++ lb, W1, ?_, ?_, ?_, ?_, fun _ => h1, ?_⟩
  · rw [← hW1, hrec]; exact run_enterLoop_outer _ _ _ _ _
  · simp only [resolve, hg]
    simp [go_sem]
  · intro f' hf'; simp [Target.leads] at hf'; subst hf'; exact hFg
  · simp [invoke, go_sem, eg]
  · refine (hseq (w.heap.size + 1) (fun pre W => I pre W ∧ W.heap[w.heap.size + 1]? = some (.loop (rec .ready none)) ∧ W.heap[w.heap.size]? = some (.deferred (some []))) W1 hb1 ?_ ?_ ⟨hI1, hL1, hK1⟩).mono ?_
    · intro s A B row hs hg' hr
      refine ⟨hI s A B row hs.1 hg' (fun r e => .inl (hr r e)), ?_, ?_⟩
      · exact (hg'.block _ (Array.getElem?_eq_some_iff.1 hs.2.1).1 (fun e => by have := (hr _ e.symm).1; omega)).trans hs.2.1
      · exact (hg'.block _ (Array.getElem?_eq_some_iff.1 hs.2.2).1 (fun e => by have := (hr _ e.symm).1; omega)).trans hs.2.2
    · rintro pre x rest W hx ⟨hi, hl, hk⟩
      have hlt : w.heap.size + 1 < W.heap.size := (Array.getElem?_eq_some_iff.1 hl).1
      have hy := run_yield (P := P) (args := encs x) hl (by rw [hrec]; exact hps x)
      rw [hrec] at hy
      refine ⟨fn, _, assign, body, hy, roundIn_of_wpIn hfn (hassign _ x W _ ?_)⟩
      clear hy
      refine ⟨_, run_beginRound hl (by rw [hrec]), ?_⟩
      have hl2 : (W.putObj (w.heap.size + 1) (.loop { rec .ready none with state := .busy })).heap[w.heap.size + 1]? = some (.loop { rec .ready none with state := .busy }) := World.putObj_heap_same hlt
      have hk2 : (W.putObj (w.heap.size + 1) (.loop { rec .ready none with state := .busy })).heap[w.heap.size]? = some (.deferred (some [])) := (World.putObj_heap_other (by omega)).trans hk
      have hw2 : Kp W (W.putObj (w.heap.size + 1) (.loop { rec .ready none with state := .busy })) := hKb _ _ _ (by omega)
      refine wpIn_mono (hbody _ pre x rest _ hx (by omega) (put_I _ _ _ _ hi hl rfl)) ?_
      rintro e a3 W3 hp
      cases e with
      | normal =>
        obtain ⟨hk3, hkp3, hi3⟩ := hp
        have hl3 := hk3.same _ _ hl2 rfl
        have hr := run_endRound (P := P) none hl3
        rw [hrec] at hr hl3
        refine ⟨_, _, hr, rfl, ⟨put_I _ _ _ _ hi3 hl3 rfl, ?_, ?_⟩, hKt hw2 (hKt hkp3 (hKb _ _ _ (by omega)))⟩
        · rw [hrec]; exact World.putObj_heap_same (Array.getElem?_eq_some_iff.1 hl3).1
        · exact (World.putObj_heap_other (by omega)).trans (hk3.same _ _ hk2 rfl)
      | ret => exact hp.elim
      | exit id => exact hp.elim
      | goto t => exact hp.elim
      | panic ch => exact hp.elim
      | outgrown => exact hp.elim
    · rintro e W2 ⟨⟨v, rfl⟩, hi, hl, hk⟩
      have he := run_endLoop (P := P) hl (by rw [hrec]; simp)
      rw [hrec] at he
      exact ⟨none, _, he, hdone _ _ (Nat.le_refl _) (put_I _ _ _ _ hi hl rfl) ((World.putObj_heap_other (by omega)).trans hk)⟩
end

def varint_sevens.L : Nat → Int → List Int
  | 0, n => [n % 256]
  | k + 1, n => if 128 ≤ n then (n % 128 + 128) :: varint_sevens.L k (n / 128) else [n]
theorem varint_sevens.calls (n : Int) (w : World) :
    Calls Tryz.prog 59 #[.int .u64 n] w fun e w' => e = .returned (.func (.func 89) #[] #[.pointer (some ⟨w.heap.size, 0, none⟩)]) ∧ w' = w.alloc (.cells #[.int .u64 n] 52) := by
  go_enter Tryz.func59, Tryz.ntmps59
  go_wp2
  go_ret
  exact ⟨rfl, rfl⟩
theorem varint_sevens.or128 (n : Int) : bits .or .u8 (n % 256) 128 = n % 128 + 128 := by
  have h0 : 0 ≤ n % 256 := Int.emod_nonneg _ (by decide)
  have h1 : n % 256 < 256 := Int.emod_lt_of_pos _ (by decide)
  have e : n % 128 = n % 256 % 128 := by omega
  rw [e]
  have hb : n % 256 = (((n % 256).toNat : Nat) : Int) := by omega
  have hl : (n % 256).toNat < 256 := by omega
  rw [hb]
  exact of_decide_eq_true (List.all_eq_true.1 (show (List.range 256).all (fun m => decide (bits .or .u8 (m : Int) 128 = (m : Int) % 128 + 128)) = true by decide +kernel) _ (List.mem_range.2 hl))
/-- What the box holds, for the loop's measure. -/
def boxInt (w : World) (B : Nat) : Nat := match w.cell? ⟨B, 0, none⟩ with | some (.int _ m) => m.toNat | _ => 0
theorem boxInt_of {w : World} {B : Nat} {t : TypeId} {k : IntKind} {m : Int} (h : Boxed w B t (.int k m)) : boxInt w B = m.toNat := by unfold boxInt; rw [h.cell]
set_option maxHeartbeats 1600000 in
set_option maxRecDepth 100000 in
theorem varint_sevens.runs (F : Fence) (N : Nat) (hF : F.fn 89) (hro : F.round = none) (hN : 1 ≤ N) (Bn : Nat) (n : Int) (h0 : 0 ≤ n) (h1 : n < 18446744073709551616) (w : World) (hb : Boxed w Bn 52 (.int .u64 n)) :
    SeqRuns F N Tryz.prog 89 #[.pointer (some ⟨Bn, 0, none⟩)] (fun x => #[.int .u8 x]) Bn 52 (fun W W' => ∀ v, Boxed W Bn 52 v → Boxed W' Bn 52 v) (varint_sevens.L 9 n) w := by
  intro l J W hW hJ hY hJ0
  have hbW : Boxed W Bn 52 (.int .u64 n) := (hW.block Bn hb.lt).trans hb
  refine callsIn_of_wp Tryz.func89 rfl hF ?_ hro
  simp only [Tryz.ntmps89, List.size_toArray, List.length_cons, List.length_nil, Nat.reduceAdd, Nat.reduceSub, Array.replicate_succ, Array.replicate_zero, List.push_toArray, List.append_toArray, List.nil_append, List.cons_append]
  gi_wp2
  gi_loopw [] (fun wr => ∃ (k : Nat) (m : Int) (pre : List Int), Boxed wr Bn 52 (.int .u64 m) ∧ 0 ≤ m ∧ Aside0 (m < 2 ^ (7 * (k + 1))) ∧ varint_sevens.L 9 n = pre ++ varint_sevens.L k m ∧ J pre wr) (fun wr => boxInt wr Bn)
  case atStart => exact ⟨9, n, [], hbW, h0, ⟨by simp only [Nat.reduceMul, Nat.reduceAdd, Int.reducePow]; omega⟩, rfl, hJ0⟩
  case round =>
    obtain ⟨k, m, pre, hB, hm0, hmk, hx, hJs⟩ := hrel
    have hc := hB.cell
    have hf := hB.frozen
    by_cases hge : 128 ≤ m
    · obtain ⟨j, rfl⟩ : ∃ j, k = j + 1 := by
        refine ⟨k - 1, ?_⟩
        rcases Nat.eq_zero_or_pos k with rfl | hk
        · have := hmk.out
          simp only [Nat.reduceMul, Nat.reduceAdd, Int.reducePow] at this
          omega
        · omega
      have hx2 : varint_sevens.L 9 n = pre ++ (m % 128 + 128) :: varint_sevens.L j (m / 128) := by rw [hx]; simp only [varint_sevens.L]; rw [if_pos hge]
      have HX := Aside0.mk hx2
      have hor := varint_sevens.or128 m
      clear hx hx2
      obtain ⟨fn, tmps, assign, body, hy, hR⟩ := hY pre (m % 128 + 128) _ wr HX.out hJs
      gi_wp2
      refine hR.mono ?_
      rintro e W3 ⟨rfl, hJ3, hk3⟩
      have hB3 := hk3 _ hB
      have hc3 := hB3.cell
      have hf3 := hB3.frozen
      gi_wp2
      go_roundw
      case rel =>
        refine ⟨j, m / 128, pre ++ [m % 128 + 128], hB3.set _, by omega, ⟨?_⟩, by rw [HX.out]; simp, hJ _ _ _ (some Bn) hJ3 (grownBy_setCell' W3 Bn _) (fun r e => by cases e; exact ⟨rfl, _, hB3.set _⟩)⟩
        have := hmk.out
        rw [show 7 * (j + 1 + 1) = 7 * (j + 1) + 7 by omega, Int.pow_add] at this
        simp only [Int.reducePow] at this
        omega
      case measure =>
        rw [boxInt_of (hB3.set _), boxInt_of hB]
        omega
    · have hx2 : varint_sevens.L 9 n = pre ++ m :: [] := by
        rw [hx]
        cases k with
        | zero => simp only [varint_sevens.L]; rw [Int.emod_eq_of_lt hm0 (by omega)]
        | succ k => simp only [varint_sevens.L]; rw [if_neg hge]
      have HX := Aside0.mk hx2
      clear hx hx2
      obtain ⟨fn, tmps, assign, body, hy, hR⟩ := hY pre m [] wr HX.out hJs
      gi_wp2
      refine hR.mono ?_
      rintro e W3 ⟨rfl, hJ3, hk3⟩
      gi_wp2
      go_end0
      exact ⟨⟨_, rfl⟩, by rw [HX.out]; exact hJ3⟩

theorem or8_join (i : Nat) (hi : i ≤ 8) (a c : Int) (h0 : 0 ≤ a) (h1 : a < 256) (hm : a % 2 ^ i = 0) (c0 : 0 ≤ c) (c1 : c < 2 ^ i) : bits .or .u8 a c = a + c := by
  have hle : (2 : Int) ^ i ≤ 256 := by
    rcases (show i = 0 ∨ i = 1 ∨ i = 2 ∨ i = 3 ∨ i = 4 ∨ i = 5 ∨ i = 6 ∨ i = 7 ∨ i = 8 by omega) with rfl | rfl | rfl | rfl | rfl | rfl | rfl | rfl | rfl <;> decide
  rw [u8_or a c h0 h1 c0 (by omega)]
  obtain ⟨a, rfl⟩ := Int.eq_ofNat_of_zero_le h0
  obtain ⟨c, rfl⟩ := Int.eq_ofNat_of_zero_le c0
  have hp : ((2 ^ i : Nat) : Int) = 2 ^ i := by rw [Int.natCast_pow]; rfl
  have hm2 : a % 2 ^ i = 0 := by rw [← hp] at hm; exact_mod_cast hm
  have hc2 : c < 2 ^ i := by rw [← hp] at c1; exact_mod_cast c1
  have e : a = 2 ^ i * (a / 2 ^ i) := by have := Nat.div_add_mod a (2 ^ i); omega
  simp only [Int.toNat_natCast]
  rw [e, ← Nat.two_pow_add_eq_or_of_lt hc2]
  omega
def varint_PutPrefix.f (a0 a1 a2 : Int) : Option (List Int × Int) :=
  if a1 < 1 ∨ 8 < a1 ∨ 4611686018427387903 < a2 then some ([], 1)
  else if a0 < 0 ∨ 256 ≤ a0 ∨ a2 < 0 then none
  else if a0 % 2 ^ a1.toNat ≠ 0 then some ([], 1)
  else if a2 < varint_GetPrefix.M a1 then some ([a0 + a2], 0)
  else some ((a0 + varint_GetPrefix.M a1) :: varint_sevens.L 9 (a2 - varint_GetPrefix.M a1), 0)
theorem varint_PutPrefix.bad (a0 a1 a2 : Int) (w : World) (h : a1 < 1 ∨ 8 < a1 ∨ 4611686018427387903 < a2) :
    Calls Tryz.prog 14 #[.int .u8 a0, .int .i64 a1, .int .u64 a2] w fun e w' => e = .returned (.tuple #[.slice none 0 0, .int .i64 1]) ∧ Below w.heap.size w w' := by
  by_cases h1 : a1 < 1
  · go_enter Tryz.func14, Tryz.ntmps14
    go_wp2
    go_ret2
    exact ⟨rfl, Below.refl _ _⟩
  · by_cases h8 : 8 < a1
    · go_enter Tryz.func14, Tryz.ntmps14
      go_wp2
      go_ret2
      exact ⟨rfl, Below.refl _ _⟩
    · have hn : 4611686018427387903 < a2 := by omega
      go_enter Tryz.func14, Tryz.ntmps14
      go_wp2
      go_ret2
      exact ⟨rfl, Below.refl _ _⟩
set_option maxHeartbeats 1600000 in
set_option maxRecDepth 100000 in
theorem varint_PutPrefix.small (a0 a1 a2 : Int) (w : World) (h1 : 1 ≤ a1) (h8 : a1 ≤ 8) (h20 : 0 ≤ a2) (h2 : a2 ≤ 4611686018427387903) (h0 : 0 ≤ a0) (h00 : a0 < 256) (hs : a0 % 2 ^ a1.toNat ≠ 0 ∨ a2 < varint_GetPrefix.M a1) :
    Calls Tryz.prog 14 #[.int .u8 a0, .int .i64 a1, .int .u64 a2] w fun e w' => ∃ v, e = .returned (.tuple #[v, .int .i64 (if a0 % 2 ^ a1.toNat ≠ 0 then 1 else 0)]) ∧ Kd.R (Kd.int .u8) 5 w' w.heap.size (fun _ => True) v (if a0 % 2 ^ a1.toNat ≠ 0 then [] else [a0 + a2]) ∧ Below w.heap.size w w' := by
  have hd1 : decide (a1 < 1) = false := decide_eq_false (by omega)
  have hd8 : decide (8 < a1) = false := decide_eq_false (by omega)
  have hdn : decide (4611686018427387903 < a2) = false := decide_eq_false (by omega)
  obtain ⟨e1, e2, e3, e4, m1, m2, k0⟩ := varint_GetPrefix.mask a1 a0 h1 h8 h0 h00
  have e3' : bits .and .u8 a0 (varint_GetPrefix.M a1) = a0 % 2 ^ a1.toNat := by
    rw [u8_and _ _ h0 h00 (by omega) (by omega)]
    rw [u64_and _ _ h0 (by omega) (by omega) (by omega)] at e3
    exact e3
  have e5 : (2 ^ a1.toNat - 1) % 256 = varint_GetPrefix.M a1 := by unfold varint_GetPrefix.M at e2 ⊢; exact e2
  have hor : a0 % 2 ^ a1.toNat = 0 → a2 < varint_GetPrefix.M a1 → bits .or .u8 a0 a2 = a0 + a2 := fun hm hl => or8_join a1.toNat (by omega) a0 a2 h0 h00 hm h20 (by unfold varint_GetPrefix.M at hl; omega)
  have HB : a0 % 2 ^ a1.toNat = 0 → a2 < varint_GetPrefix.M a1 → a0 + a2 < 256 := fun hm hl => by
    have h6 : a0 + a2 = a0 + a2 := rfl
    rcases (show a1 = 1 ∨ a1 = 2 ∨ a1 = 3 ∨ a1 = 4 ∨ a1 = 5 ∨ a1 = 6 ∨ a1 = 7 ∨ a1 = 8 by omega) with rfl | rfl | rfl | rfl | rfl | rfl | rfl | rfl <;> simp only [varint_GetPrefix.M, show Int.toNat 1 = 1 from rfl, show Int.toNat 2 = 2 from rfl, show Int.toNat 3 = 3 from rfl, show Int.toNat 4 = 4 from rfl, show Int.toNat 5 = 5 from rfl, show Int.toNat 6 = 6 from rfl, show Int.toNat 7 = 7 from rfl, show Int.toNat 8 = 8 from rfl, Int.reducePow] at hm hl <;> omega
  obtain ⟨M, hM⟩ : ∃ M, varint_GetPrefix.M a1 = M := ⟨_, rfl⟩
  obtain ⟨K, hK⟩ : ∃ K, a0 % 2 ^ a1.toNat = K := ⟨_, rfl⟩
  rw [hM] at e1 e2 e3' e5 m1 m2 hs hor
  rw [hK] at e3' k0 hs hor ⊢
  clear e3 e4 hM hK HB
  by_cases hk : K = 0
  · rcases hs with hs | hs
    · exact absurd hk hs
    · have ho := hor hk hs
      have hk2 : (K != 0) = false := by simp [hk]
      rw [if_neg (by simp [hk]), if_neg (by simp [hk])]
      clear hor hk
      go_enter Tryz.func14, Tryz.ntmps14
      go_wp2
      go_ret2
      exact ⟨_, rfl, man_R_of_own (own_lit w w.heap.size 5 .u8 [a0 + a2] (Nat.le_refl _) (by simp)), below_alloc (Below.refl _ _) _⟩
  · have hk2 : (K != 0) = true := by simp [hk]
    rw [if_pos hk, if_pos hk]
    clear hor hs
    go_enter Tryz.func14, Tryz.ntmps14
    go_wp2
    go_ret2
    exact ⟨_, rfl, Kd.R_nil _ _ _ _ _, Below.refl _ _⟩
theorem varint_sevens.L_length (k : Nat) : ∀ n : Int, (varint_sevens.L k n).length ≤ k + 1 := by
  induction k with
  | zero => intro n; simp [varint_sevens.L]
  | succ k ih =>
    intro n
    simp only [varint_sevens.L]
    split
    · have := ih (n / 128)
      simp only [List.length_cons]
      omega
    · simp
section
attribute [local go_sem] Oper.semAt_some
set_option maxHeartbeats 3200000 in
set_option maxRecDepth 100000 in
theorem varint_PutPrefix.great (a0 a1 a2 : Int) (w : World) (h1 : 1 ≤ a1) (h8 : a1 ≤ 8) (h20 : 0 ≤ a2) (h2 : a2 ≤ 4611686018427387903) (h0 : 0 ≤ a0) (h00 : a0 < 256) (hs : a0 % 2 ^ a1.toNat = 0) (hl : ¬ a2 < varint_GetPrefix.M a1) :
    Calls Tryz.prog 14 #[.int .u8 a0, .int .i64 a1, .int .u64 a2] w fun e w' => ∃ v, e = .returned (.tuple #[v, .int .i64 0]) ∧ Kd.R (Kd.int .u8) 5 w' w.heap.size (fun _ => True) v ((a0 + varint_GetPrefix.M a1) :: varint_sevens.L 9 (a2 - varint_GetPrefix.M a1)) ∧ Below w.heap.size w w' := by
  have hd1 : decide (a1 < 1) = false := decide_eq_false (by omega)
  have hd8 : decide (8 < a1) = false := decide_eq_false (by omega)
  have hdn : decide (4611686018427387903 < a2) = false := decide_eq_false (by omega)
  obtain ⟨e1, e2, e3, e4, m1, m2, k0⟩ := varint_GetPrefix.mask a1 a0 h1 h8 h0 h00
  have e3' : bits .and .u8 a0 (varint_GetPrefix.M a1) = 0 := by
    rw [u8_and _ _ h0 h00 (by omega) (by omega)]
    rw [u64_and _ _ h0 (by omega) (by omega) (by omega), hs] at e3
    exact e3
  have e5 : (2 ^ a1.toNat - 1) % 256 = varint_GetPrefix.M a1 := by unfold varint_GetPrefix.M at e2 ⊢; exact e2
  have hor : bits .or .u8 a0 (varint_GetPrefix.M a1) = a0 + varint_GetPrefix.M a1 := or8_join a1.toNat (by omega) a0 _ h0 h00 hs (by omega) (by unfold varint_GetPrefix.M; omega)
  obtain ⟨M, hM⟩ : ∃ M, varint_GetPrefix.M a1 = M := ⟨_, rfl⟩
  rw [hM] at e1 e2 e3' e5 m1 m2 hl hor ⊢
  obtain ⟨f0, hf0⟩ : ∃ f0, a0 + M = f0 := ⟨_, rfl⟩
  rw [hf0] at hor ⊢
  clear e3 e4 hM k0 hs hf0
  obtain ⟨i0, hi, hzz⟩ := Option.map_eq_some_iff.1 man_info_u8
  simp only [Prod.mk.injEq] at hzz
  obtain ⟨hz0, hz1, hz2⟩ := hzz
  refine (callsIn_wide (n := 6)).1 ?_
  have hro : Fence.wide.round = none := rfl
  refine callsIn_of_wp_marks Tryz.func14 rfl trivial ?_ hro
  simp only [Tryz.ntmps14, List.size_toArray, List.length_cons, List.length_nil, Nat.reduceAdd, Nat.reduceSub, Array.replicate_succ, Array.replicate_zero, List.push_toArray, List.append_toArray, List.nil_append, List.cons_append]
  gi_wp2
  refine ⟨trivial, (callsIn_wide.2 (varint_sevens.calls _ _)).mono ?_⟩
  rintro e w' ⟨rfl, rfl⟩
  gi_wp2
  obtain ⟨W2, hW2⟩ : ∃ W2, ((w.alloc (Obj.cells #[Value.int IntKind.u8 f0] 5)).alloc (Obj.cells #[Value.slice (some { block := w.heap.size, off := 0 }) 1 1] 23)).alloc (Obj.cells #[Value.int IntKind.u64 (a2 - M)] 52) = W2 := ⟨_, rfl⟩
  have hsz2 : W2.heap.size = w.heap.size + 3 := by rw [← hW2]; simp
  have hbox : Boxed W2 (w.heap.size + 2) 52 (.int .u64 (a2 - M)) := by
    rw [← hW2]
    have := Boxed.new ((w.alloc (Obj.cells #[Value.int IntKind.u8 f0] 5)).alloc (Obj.cells #[Value.slice (some { block := w.heap.size, off := 0 }) 1 1] 23)) 52 (.int .u64 (a2 - M))
    simpa using this
  have hout : Boxed W2 (w.heap.size + 1) 23 (.slice (some ⟨w.heap.size, 0, none⟩) 1 1) := by
    rw [← hW2]
    have := (Boxed.new (w.alloc (Obj.cells #[Value.int IntKind.u8 f0] 5)) 23 (.slice (some ⟨w.heap.size, 0, none⟩) 1 1)).alloc (Obj.cells #[Value.int IntKind.u64 (a2 - M)] 52)
    simpa using this
  have hrow : W2.ownsRow w.heap.size 5 1 (.slice (some ⟨w.heap.size, 0, none⟩) 1 1) 1 (nums .u8 [f0]) := by
    rw [← hW2]
    exact ((own_lit w w.heap.size 5 .u8 [f0] (Nat.le_refl _) (by simp)).alloc _).alloc _
  have hbel : Below w.heap.size w W2 := by
    rw [← hW2]
    exact ((((Below.refl _ w).alloc (Nat.le_refl _) _).alloc (by simp) _).alloc (by simp; omega) _)
  rw [hW2]
  have HLEN := Aside0.mk (varint_sevens.L_length 9 (a2 - M))
  have HW2 := Aside0.mk hW2
  have HSZ := Aside0.mk hsz2
  clear hW2 hsz2
  refine wpIn_runs (n := 6) hro (by omega) (gf := 89) (lb := #[.pointer (some ⟨w.heap.size + 2, 0, none⟩)]) rfl trivial (enters_of Tryz.func89 (by kernel_rfl) rfl)
    (varint_sevens.runs Fence.wide 5 trivial hro (by omega) (w.heap.size + 2) (a2 - M) (by omega) (by omega) W2 hbox) (by rw [HSZ.out]; omega) (fun h1 h2 v hv => h2 v (h1 v hv)) ?hKb (fun _ => rfl)
    (fun pre W => (∃ v, Boxed W (w.heap.size + 1) 23 v ∧ W.ownsRow w.heap.size 5 1 v (f0 :: pre).length (nums .u8 (f0 :: pre))) ∧ (∃ u, Boxed W (w.heap.size + 2) 52 u) ∧ Below w.heap.size w W) ?hI ⟨⟨_, hout, hrow⟩, ⟨_, hbox⟩, hbel⟩ ?a1 ?assign ?body ?done
  case assign =>
    intro l x W K hK
    gi_wp2
    exact hK
  case hKb =>
    intro W l o hl v hv
    exact (World.putObj_heap_other (by rw [HSZ.out] at hl; omega)).trans hv
  case hI =>
    rintro s X Y row ⟨⟨v, hv, ho⟩, ⟨u, hu⟩, hB⟩ hg hr
    have hne : ∀ r, row = some r → some r ≠ some (w.heap.size + 1) ∧ some r ≠ v.ownBlock ∧ w.heap.size ≤ r ∧ (r = w.heap.size + 2 → ∃ u, Boxed Y (w.heap.size + 2) 52 u) := by
      intro r e
      rcases hr r e with ⟨rfl, hu'⟩ | ⟨hr1, o, hro1, hro2⟩
      · exact ⟨by simp, hu.not_row (by decide) ho, by omega, fun _ => hu'⟩
      · refine ⟨fun e2 => ?_, fun e2 => ?_, by rw [HSZ.out] at hr1; omega, fun e2 => ?_⟩
        · cases e2; rw [show X.heap[w.heap.size + 1]? = _ from hv] at hro1; cases hro1; cases hro2
        · obtain ⟨cells, hc⟩ := own_typed ho r e2.symm
          rw [hc] at hro1; cases hro1; cases hro2
        · subst e2; rw [show X.heap[w.heap.size + 2]? = _ from hu] at hro1; cases hro1; cases hro2
    refine ⟨⟨v, hv.kept hg (fun e => (hne _ e.symm).1 rfl), ho.kept hg ?_⟩, ?_, hB.grown hg hB.size (fun k e => (hne k e).2.2.1)⟩
    · cases hvb : v.ownBlock with
      | none => exact .inl rfl
      | some k => exact .inr (fun e => (hne k e.symm).2.1 hvb.symm)
    · by_cases e : row = some (w.heap.size + 2)
      · exact (hne _ e).2.2.2 rfl
      · exact ⟨u, hu.kept hg (fun e2 => e e2.symm)⟩
  case body =>
    rintro l pre x rest W hx hl ⟨⟨v, hv, ho⟩, ⟨u, hu⟩, hB⟩
    have hlen : pre.length + 1 ≤ 10 := by have := HLEN.out; rw [hx] at this; simp at this; omega
    have hc := hv.cell
    have hf := hv.frozen
    have HX := Aside0.mk hx
    have HLn := Aside0.mk hlen
    have HV := Aside0.mk hv
    have HU := Aside0.mk hu
    have HB := Aside0.mk hB
    have HO := Aside0.mk ho
    clear hx hlen hv hu hB ho
    gi_wp2_with (gi_at_builtin; go_must (refine wpListIn_append_own _ rfl _ _ 23 rfl w.heap.size 5 i0 (.int .u8 0) 1 1 Tryz.underlying23 hi hz0 hz1 hz2 rfl (by decide) _ _ _ rfl (HO.out.alloc _) ⟨W.heap.size, 0, none⟩ 1 1 [.int .u8 x] rfl rfl (cell_one_new _ _ _) (by simp [Value.oneCell']) (by simp only [maxLen, List.length_cons]; have := HLn.out; omega) (by simp only [List.length_cons]; have := HLn.out; omega) (by have := HB.out.size; simp; omega) ?_; intro v' w1 hown' hgrow _; obtain ⟨g', cap', rfl⟩ := ownsRow_succ hown'; obtain ⟨hv1, hv2, hr2, hk2, hb2⟩ := HV.out.appended (by decide) HO.out HB.out.size (by omega) hown' hgrow; have hc1 := hv1.cell; have hf1 := hv1.frozen; have HUK : ∀ u', Boxed W (w.heap.size + 2) 52 u' → Boxed (w1.setCell ⟨w.heap.size + 1, 0, none⟩ (.slice (some ⟨g', 0, none⟩) ((f0 :: pre).length + 1) cap')) (w.heap.size + 2) 52 u' := fun u' hu' => ((hu'.alloc _).kept hgrow (hu'.not_row (by decide) HO.out)).other (by omega) _; have HK2 := Aside0.mk hk2; have HB2 := Aside0.mk hb2; have HR2 := Aside0.mk hr2; have HV2 := Aside0.mk hv2; have HUK2 := Aside0.mk HUK; clear hk2 hb2 hr2 hv2 HUK hown' hgrow hv1))
    refine ⟨HK2.out, HUK2.out, ⟨_, HV2.out, ?_⟩, ⟨u, HUK2.out u HU.out⟩, HB.out.trans HB2.out⟩
    have h3 := HR2.out
    simp only [List.length_cons, List.length_append, List.length_nil, List.cons_append, nums, List.map_cons, List.map_append, List.map_nil] at h3 ⊢
    exact h3
  case done =>
    rintro D W hD ⟨⟨v, hv, ho⟩, ⟨u, hu⟩, hB⟩ hK
    have hc := hv.cell
    have hf := hv.frozen
    have HV := Aside0.mk hv
    have HU := Aside0.mk hu
    have HB := Aside0.mk hB
    have HO := Aside0.mk ho
    clear hv hu hB ho
    gi_wp2
    refine ⟨by simp, .inl ⟨_, _, rfl, run_takeDeferred hK, ?_⟩⟩
    refine ⟨.tuple #[v, .int .i64 0], ?_, ⟨v, rfl, man_R_of_own (ownsRow_putObj HO.out _ hK rfl), HB.out.trans (belowK_b (w := w) (Nat.le_refl _) W D _ _ (by rw [HSZ.out] at hD; omega) hK rfl rfl)⟩⟩
    simp [results, Tryz.results14, go_sem]
end
theorem varint_PutPrefix.calls (a0 a1 a2 : Int) (r1 : List Int) (r2 : Int) (w : World) (h : varint_PutPrefix.f a0 a1 a2 = some (r1, r2)) :
    Calls Tryz.prog 14 #[.int .u8 a0, .int .i64 a1, .int .u64 a2] w fun e w' => ∃ v0_ : Value, e = .returned (.tuple #[v0_, .int .i64 r2]) ∧ Kd.R (Kd.int .u8) 5 w' w.heap.size (fun _ => True) v0_ r1 ∧ Below w.heap.size w w' := by
  unfold varint_PutPrefix.f at h
  by_cases hb : a1 < 1 ∨ 8 < a1 ∨ 4611686018427387903 < a2
  · rw [if_pos hb] at h
    simp only [Option.some.injEq, Prod.mk.injEq] at h
    obtain ⟨rfl, rfl⟩ := h
    exact (varint_PutPrefix.bad a0 a1 a2 w hb).mono fun e w' ⟨he, hB⟩ => ⟨_, he, Kd.R_nil _ _ _ _ _, hB⟩
  · rw [if_neg hb] at h
    by_cases hr : a0 < 0 ∨ 256 ≤ a0 ∨ a2 < 0
    · rw [if_pos hr] at h
      cases h
    · rw [if_neg hr] at h
      by_cases hm : a0 % 2 ^ a1.toNat ≠ 0
      · rw [if_pos hm] at h
        simp only [Option.some.injEq, Prod.mk.injEq] at h
        obtain ⟨rfl, rfl⟩ := h
        have hc := varint_PutPrefix.small a0 a1 a2 w (by omega) (by omega) (by omega) (by omega) (by omega) (by omega) (.inl hm)
        rw [if_pos hm, if_pos hm] at hc
        exact hc
      · rw [if_neg hm] at h
        by_cases hl : a2 < varint_GetPrefix.M a1
        · rw [if_pos hl] at h
          simp only [Option.some.injEq, Prod.mk.injEq] at h
          obtain ⟨rfl, rfl⟩ := h
          have hc := varint_PutPrefix.small a0 a1 a2 w (by omega) (by omega) (by omega) (by omega) (by omega) (by omega) (.inr hl)
          rw [if_neg hm, if_neg hm] at hc
          exact hc
        · rw [if_neg hl] at h
          simp only [Option.some.injEq, Prod.mk.injEq] at h
          obtain ⟨rfl, rfl⟩ := h
          exact varint_PutPrefix.great a0 a1 a2 w (by omega) (by omega) (by omega) (by omega) (by omega) (by omega) (by omega) hl

theorem man_below_setRow {w w1 : World} (h : Below w.heap.size w w1) (g : Nat) (cs : Array Value) (hg : w.heap.size ≤ g) : Below w.heap.size w (w1.setRow g cs) :=
  ⟨h.os, h.tape, h.output, by rw [setRow_size]; exact h.size, fun k hk => by rw [setRow_other _ _ _ _ (by omega)]; exact h.block k hk⟩
theorem man_alloc_block (w : World) (cs : Array Value) (t : TypeId) : (w.alloc (.cells cs t)).heap[w.heap.size]? = some (.cells cs t (0, 0)) := by unfold World.alloc; exact Array.getElem?_push_size
/-- The zero value of a type, out of the table of types. -/
theorem man_zero {P : Program} (t : TypeId) (z : Value) (h : (P.info? t).bind (·.zero) = some z) (w : World) : (zeroValue t).run P w = .ok z w := by
  cases hi : P.info? t with
  | none => simp [hi] at h
  | some i =>
    have hz : i.zero = some z := by simpa [hi] using h
    simp [zeroValue, typeInfo, hi, hz]
theorem man_results_cell {P : Program} {fn : Func} {a : Array Value} {w : World} {s : Tmp} {t : TypeId} {x : Addr} {v : Value} (hr : fn.results = #[.cell s t]) (hs : a.getD s undef = .pointer (some x)) (hl : (loadVar t x).run P w = .ok v w) : (results fn a).run P w = .ok v w := by
  unfold results
  rw [hr]
  simp only [Array.mapM_eq_mapM_toList, List.mapM_cons, List.mapM_nil, hs]
  simp [asAddr, Sem.run_bind, hl]

/-- How many bits each word has. -/
def huff_lens : List Int := [13, 23, 28, 28, 28, 28, 28, 28, 28, 24, 30, 28, 28, 30, 28, 28, 28, 28, 28, 28, 28, 28, 30, 28, 28, 28, 28, 28, 28, 28, 28, 28, 6, 10, 10, 12, 13, 6, 8, 11, 10, 10, 8, 11, 8, 6, 6, 6, 5, 5, 5, 6, 6, 6, 6, 6, 6, 6, 7, 8, 15, 6, 12, 10, 13, 6, 7, 7, 7, 7, 7, 7, 7, 7, 7, 7, 7, 7, 7, 7, 7, 7, 7, 7, 7, 7, 7, 7, 8, 7, 8, 13, 19, 13, 14, 6, 15, 5, 6, 5, 6, 5, 6, 6, 6, 5, 7, 7, 6, 6, 6, 5, 6, 7, 6, 5, 5, 6, 7, 7, 7, 7, 7, 15, 11, 14, 13, 28, 20, 22, 20, 20, 22, 22, 22, 23, 22, 23, 23, 23, 23, 23, 24, 23, 24, 24, 22, 23, 24, 23, 23, 23, 23, 21, 22, 23, 22, 23, 23, 24, 22, 21, 20, 22, 22, 23, 23, 21, 23, 22, 22, 24, 21, 22, 23, 23, 21, 21, 22, 21, 23, 22, 23, 23, 20, 22, 22, 22, 23, 22, 22, 23, 26, 26, 20, 19, 22, 23, 22, 25, 26, 26, 26, 27, 27, 26, 24, 25, 19, 21, 26, 27, 27, 26, 27, 24, 21, 21, 26, 26, 28, 27, 27, 27, 20, 24, 20, 21, 22, 21, 21, 23, 22, 22, 25, 25, 24, 24, 26, 23, 26, 27, 26, 26, 27, 27, 27, 27, 27, 28, 27, 27, 27, 27, 27, 26, 30]
theorem huff_lens_length : huff_lens.length = 257 := by decide +kernel

theorem huff_lengths.info : (Tryz.prog.info? 55).map (fun i => (i.zero, i.size)) = some (some (.agg (List.replicate 257 (Value.int .u8 0)).toArray), 257) := by kernel_rfl
theorem huff_lengths.info1 : (Tryz.prog.info? 5).map (·.size) = some 1 := by kernel_rfl
theorem huff_lens_size : (huff_lens.map (Value.int .u8)).toArray.size = 257 := by rw [List.size_toArray, List.length_map, huff_lens_length]
theorem huff_lengths.zero (w : World) : (zeroValue 55).run Tryz.prog w = .ok (.agg (List.replicate 257 (Value.int .u8 0)).toArray) w := by
  refine man_zero _ _ ?_ w
  have h := huff_lengths.info
  cases hi : Tryz.prog.info? 55 with
  | none => rw [hi] at h; cases h
  | some i => rw [hi] at h; simp only [Option.map_some, Option.some.injEq, Prod.mk.injEq] at h; exact h.1
theorem huff_lengths.size : (Tryz.prog.info? 55).map (·.size) = some 257 := by
  have h := huff_lengths.info
  cases hi : Tryz.prog.info? 55 with
  | none => rw [hi] at h; cases h
  | some i => rw [hi] at h; simp only [Option.map_some, Option.some.injEq, Prod.mk.injEq] at h; rw [Option.map_some, h.2]
theorem huff_lengths.zsize : ((Tryz.prog.info? 55).bind (·.zero)).map (·.cells.size) = some huff_lens.length := by
  have h := huff_lengths.info
  cases hi : Tryz.prog.info? 55 with
  | none => rw [hi] at h; cases h
  | some i =>
    rw [hi] at h
    simp only [Option.map_some, Option.some.injEq, Prod.mk.injEq] at h
    rw [Option.bind_some, h.1, Option.map_some, huff_lens_length]
    show some ((List.replicate 257 (Value.int .u8 0)).toArray.size) = _
    rw [List.size_toArray, List.length_replicate]
set_option maxHeartbeats 1600000 in
set_option maxRecDepth 100000 in
theorem huff_lengths.calls (w : World) :
    Calls Tryz.prog 57 #[] w fun e w' => e = .returned (.agg (huff_lens.map (Value.int .u8)).toArray) ∧ Below w.heap.size w w' := by
  have hz := huff_lengths.zero
  obtain ⟨Z, hZ⟩ : ∃ Z : Array Value, Z = (List.replicate 257 (Value.int .u8 0)).toArray := ⟨_, rfl⟩
  have hZs : Z.size = 257 := by rw [hZ, List.size_toArray, List.length_replicate]
  rw [← hZ] at hz
  clear hZ
  have HZs := Aside0.mk hZs
  have hb0 := man_alloc_block w Z 55
  have HB0 := Aside0.mk hb0
  clear hb0 hZs
  go_enter Tryz.func57, Tryz.ntmps57
  go_upto_region 1 with (fail)
  rename_i Q' K hK
  refine wp_region_list ?_
  refine wpList_buildFlatArr rfl 55 5 257 _ rfl .u8 huff_lens Tryz.underlying55 huff_lengths.info1 huff_lengths.zsize (by kernel_rfl) ?_
  refine wpList_store_row rfl 55 _ _ rfl w.heap.size (huff_lens.map (Value.int .u8)).toArray rfl rfl 55 Z HB0.out (by rw [huff_lens_size]; exact huff_lengths.size) (by rw [huff_lens_size]; exact HZs.out) (by rw [List.all_toArray]; exact List.all_eq_true.2 fun x hx => by obtain ⟨n, _, rfl⟩ := List.mem_map.1 hx; rfl) ?_
  have hb1 := setRow_heap _ w.heap.size _ (huff_lens.map (Value.int .u8)).toArray _ _ HB0.out
  have hl := run_loadVar_row (P := Tryz.prog) _ w.heap.size 55 55 _ (0, 0) _ hb1 Tryz.underlying55 rfl (by rw [huff_lens_size]; exact huff_lengths.size)
  have hbe := man_below_setRow (below_alloc (Below.refl w.heap.size w) (.cells Z 55)) w.heap.size (huff_lens.map (Value.int .u8)).toArray (Nat.le_refl _)
  exact hK _ _ (wp_ret (bodyPost_ret (v := .agg (huff_lens.map (Value.int .u8)).toArray) (man_results_cell (Tryz.results57) rfl hl) rfl ⟨rfl, hbe⟩))

/-- The words of the code: bits, how many. -/
def huff_words : List (Int × Int) := [(8184, 13), (8388568, 23), (268435426, 28), (268435427, 28), (268435428, 28), (268435429, 28), (268435430, 28), (268435431, 28), (268435432, 28), (16777194, 24), (1073741820, 30), (268435433, 28), (268435434, 28), (1073741821, 30), (268435435, 28), (268435436, 28), (268435437, 28), (268435438, 28), (268435439, 28), (268435440, 28), (268435441, 28), (268435442, 28), (1073741822, 30), (268435443, 28), (268435444, 28), (268435445, 28), (268435446, 28), (268435447, 28), (268435448, 28), (268435449, 28), (268435450, 28), (268435451, 28), (20, 6), (1016, 10), (1017, 10), (4090, 12), (8185, 13), (21, 6), (248, 8), (2042, 11), (1018, 10), (1019, 10), (249, 8), (2043, 11), (250, 8), (22, 6), (23, 6), (24, 6), (0, 5), (1, 5), (2, 5), (25, 6), (26, 6), (27, 6), (28, 6), (29, 6), (30, 6), (31, 6), (92, 7), (251, 8), (32764, 15), (32, 6), (4091, 12), (1020, 10), (8186, 13), (33, 6), (93, 7), (94, 7), (95, 7), (96, 7), (97, 7), (98, 7), (99, 7), (100, 7), (101, 7), (102, 7), (103, 7), (104, 7), (105, 7), (106, 7), (107, 7), (108, 7), (109, 7), (110, 7), (111, 7), (112, 7), (113, 7), (114, 7), (252, 8), (115, 7), (253, 8), (8187, 13), (524272, 19), (8188, 13), (16380, 14), (34, 6), (32765, 15), (3, 5), (35, 6), (4, 5), (36, 6), (5, 5), (37, 6), (38, 6), (39, 6), (6, 5), (116, 7), (117, 7), (40, 6), (41, 6), (42, 6), (7, 5), (43, 6), (118, 7), (44, 6), (8, 5), (9, 5), (45, 6), (119, 7), (120, 7), (121, 7), (122, 7), (123, 7), (32766, 15), (2044, 11), (16381, 14), (8189, 13), (268435452, 28), (1048550, 20), (4194258, 22), (1048551, 20), (1048552, 20), (4194259, 22), (4194260, 22), (4194261, 22), (8388569, 23), (4194262, 22), (8388570, 23), (8388571, 23), (8388572, 23), (8388573, 23), (8388574, 23), (16777195, 24), (8388575, 23), (16777196, 24), (16777197, 24), (4194263, 22), (8388576, 23), (16777198, 24), (8388577, 23), (8388578, 23), (8388579, 23), (8388580, 23), (2097116, 21), (4194264, 22), (8388581, 23), (4194265, 22), (8388582, 23), (8388583, 23), (16777199, 24), (4194266, 22), (2097117, 21), (1048553, 20), (4194267, 22), (4194268, 22), (8388584, 23), (8388585, 23), (2097118, 21), (8388586, 23), (4194269, 22), (4194270, 22), (16777200, 24), (2097119, 21), (4194271, 22), (8388587, 23), (8388588, 23), (2097120, 21), (2097121, 21), (4194272, 22), (2097122, 21), (8388589, 23), (4194273, 22), (8388590, 23), (8388591, 23), (1048554, 20), (4194274, 22), (4194275, 22), (4194276, 22), (8388592, 23), (4194277, 22), (4194278, 22), (8388593, 23), (67108832, 26), (67108833, 26), (1048555, 20), (524273, 19), (4194279, 22), (8388594, 23), (4194280, 22), (33554412, 25), (67108834, 26), (67108835, 26), (67108836, 26), (134217694, 27), (134217695, 27), (67108837, 26), (16777201, 24), (33554413, 25), (524274, 19), (2097123, 21), (67108838, 26), (134217696, 27), (134217697, 27), (67108839, 26), (134217698, 27), (16777202, 24), (2097124, 21), (2097125, 21), (67108840, 26), (67108841, 26), (268435453, 28), (134217699, 27), (134217700, 27), (134217701, 27), (1048556, 20), (16777203, 24), (1048557, 20), (2097126, 21), (4194281, 22), (2097127, 21), (2097128, 21), (8388595, 23), (4194282, 22), (4194283, 22), (33554414, 25), (33554415, 25), (16777204, 24), (16777205, 24), (67108842, 26), (8388596, 23), (67108843, 26), (134217702, 27), (67108844, 26), (67108845, 26), (134217703, 27), (134217704, 27), (134217705, 27), (134217706, 27), (134217707, 27), (268435454, 28), (134217708, 27), (134217709, 27), (134217710, 27), (134217711, 27), (134217712, 27), (67108846, 26), (1073741823, 30)]
def huff_flat : List (Int × Int) → List Value
  | [] => []
  | p :: r => .int .u32 p.1 :: .int .u8 p.2 :: huff_flat r
theorem huff_flat_length : ∀ l, (huff_flat l).length = 2 * l.length
  | [] => rfl
  | p :: r => by simp [huff_flat, huff_flat_length r]; omega
theorem huff_flat_set : ∀ (l : List (Int × Int)) (i : Nat) (p : Int × Int), huff_flat (l.set i p) = ((huff_flat l).set (2 * i) (.int .u32 p.1)).set (2 * i + 1) (.int .u8 p.2)
  | [], _, _ => rfl
  | q :: r, 0, p => rfl
  | q :: r, i + 1, p => by
    rw [show 2 * (i + 1) = (2 * i + 1) + 1 by omega]
    simp only [List.set_cons_succ, huff_flat, huff_flat_set r i p]
/-- One round over all words: those of n bits. -/
def huff_inner (n : Int) : List Int → Nat → Int → List (Int × Int) → Int × List (Int × Int)
  | [], _, x, cs => (x, cs)
  | m :: ms, i, x, cs => if m = n then huff_inner n ms (i + 1) ((x + 1) % 4294967296) (cs.set i (x, n)) else huff_inner n ms (i + 1) x cs
def huff_outer : Nat → Int → Int → List (Int × Int) → List (Int × Int)
  | 0, _, _, cs => cs
  | k + 1, n, x, cs => huff_outer k (n + 1) (huff_inner n huff_lens 0 (x * 2 % 4294967296) cs).1 (huff_inner n huff_lens 0 (x * 2 % 4294967296) cs).2
set_option maxRecDepth 100000 in
theorem huff_words_made : huff_outer 30 1 0 (List.replicate 257 (0, 0)) = huff_words := by decide +kernel
theorem huff_words_length : huff_words.length = 257 := by decide +kernel

theorem huff_code.info : (Tryz.prog.info? 142).map (fun i => (i.zero, i.size)) = some (some (.agg (huff_flat (List.replicate 257 (0, 0))).toArray), 514) := by kernel_rfl
theorem huff_code.zero (w : World) : (zeroValue 142).run Tryz.prog w = .ok (.agg (huff_flat (List.replicate 257 (0, 0))).toArray) w := by
  refine man_zero _ _ ?_ w
  have h := huff_code.info
  cases hi : Tryz.prog.info? 142 with
  | none => rw [hi] at h; cases h
  | some i => rw [hi] at h; simp only [Option.map_some, Option.some.injEq, Prod.mk.injEq] at h; exact h.1
theorem huff_code.size : (Tryz.prog.info? 142).map (·.size) = some 514 := by
  have h := huff_code.info
  cases hi : Tryz.prog.info? 142 with
  | none => rw [hi] at h; cases h
  | some i => rw [hi] at h; simp only [Option.map_some, Option.some.injEq, Prod.mk.injEq] at h; rw [Option.map_some, h.2]
theorem man_setCells2 (w : World) (g o : Nat) (t : TypeId) (cs : List Value) (a b : Value) (hg : w.heap[g]? = some (.cells cs.toArray t (0, 0))) : (w.setCells g o [a, b]).heap[g]? = some (.cells ((cs.set o a).set (o + 1) b).toArray t (0, 0)) := by
  unfold World.setCells World.setCells World.setCells
  rw [setCell_eq_setRow _ _ _ _ _ _ _ hg]
  have h1 := setRow_heap w g _ (cs.toArray.setIfInBounds o a) _ _ hg
  rw [setCell_eq_setRow _ _ _ _ _ _ _ h1]
  have h2 := setRow_heap _ g _ ((cs.toArray.setIfInBounds o a).setIfInBounds (o + 1) b) _ _ h1
  rw [h2]
  simp
theorem man_setCells2_other (w : World) (g o : Nat) (t : TypeId) (cs : List Value) (a b : Value) (hg : w.heap[g]? = some (.cells cs.toArray t (0, 0))) (k : Nat) (hk : k ≠ g) : (w.setCells g o [a, b]).heap[k]? = w.heap[k]? := by
  unfold World.setCells World.setCells World.setCells
  rw [setCell_eq_setRow _ _ _ _ _ _ _ hg]
  have h1 := setRow_heap w g _ (cs.toArray.setIfInBounds o a) _ _ hg
  rw [setCell_eq_setRow _ _ _ _ _ _ _ h1, setRow_other _ _ _ _ hk, setRow_other _ _ _ _ hk]
theorem man_setCells2_below {w w1 : World} (h : Below w.heap.size w w1) (g o : Nat) (t : TypeId) (cs : List Value) (a b : Value) (hg : w1.heap[g]? = some (.cells cs.toArray t (0, 0))) (hb : w.heap.size ≤ g) : Below w.heap.size w (w1.setCells g o [a, b]) := by
  have h1 := setRow_heap w1 g _ (cs.toArray.setIfInBounds o a) _ _ hg
  unfold World.setCells World.setCells World.setCells
  rw [setCell_eq_setRow _ _ _ _ _ _ _ hg, setCell_eq_setRow _ _ _ _ _ _ _ h1]
  exact man_below_setRow (man_below_setRow h g _ hb) g _ hb
theorem man_there {w : World} {g : Nat} {t : TypeId} {cs : Array Value} (hg : w.heap[g]? = some (.cells cs t (0, 0))) (o n : Nat) (h : o + n ≤ cs.size) : w.there g o n := by
  intro j hj
  refine ⟨?_, by simp [World.frozen?, hg]⟩
  rw [cell_of_row w g _ cs t (0, 0) hg, Array.getElem?_eq_getElem (by omega)]
  rfl
theorem huff_code.index (L : Array Value) (hL : L = (huff_lens.map (Value.int .u8)).toArray) (i : Nat) (hi : i < 257) (w : World) : (Instr.index 55 (.agg L) (.int .i64 (i : Int))).run Tryz.prog w = .ok (.int .u8 (rd huff_lens i)) w := by
  have hs : ∀ w, (sizeOf 5).run Tryz.prog w = .ok 1 w := by
    intro w
    obtain ⟨i0, hinf, _, h2, _⟩ := info_parts man_info_u8
    simp [sizeOf, typeInfo, hinf, h2]
  have ha : ∀ w, (isAgg 5).run Tryz.prog w = .ok false w := by
    intro w
    unfold isAgg
    rw [Sem.run_bind, run_underlying Tryz.underlying5 w]
    rfl
  have hc : L[i]? = some (.int .u8 (rd huff_lens i)) := by
    rw [hL, List.getElem?_toArray, List.getElem?_map, List.getElem?_eq_getElem (by rw [huff_lens_length]; exact hi)]
    simp [rd, List.getD_eq_getElem?_getD, List.getElem?_eq_getElem (show i < huff_lens.length by rw [huff_lens_length]; exact hi)]
  simp [Instr.index, asIntOf, run_underlying Tryz.underlying55, part, Sem.run_bind, hs, ha, hc, hi]
theorem huff_flat_at : ∀ (l : List (Int × Int)) (i : Nat) (hi : i < l.length), ((huff_flat l).drop (i * 2)).take 2 = [.int .u32 (l.getD i (0, 0)).1, .int .u8 (l.getD i (0, 0)).2]
  | p :: r, 0, _ => by simp [huff_flat]
  | p :: r, i + 1, hi => by
    have ih := huff_flat_at r i (by simpa using hi)
    rw [show (i + 1) * 2 = i * 2 + 1 + 1 by omega]
    simpa [huff_flat] using ih

theorem man_two_one (k k' : IntKind) (a b : Int) : (#[Value.int k a, Value.int k' b] : Array Value).all (·.oneCell') = true := by simp [Value.oneCell']
theorem huff_code.word : (Tryz.prog.info? 141).map (·.size) = some 2 := by kernel_rfl
theorem huff_outer_step (k : Nat) (hk : k ≠ 0) (n x : Int) (cs : List (Int × Int)) : huff_outer k n x cs = huff_outer (k - 1) (n + 1) (huff_inner n huff_lens 0 (x * 2 % 4294967296) cs).1 (huff_inner n huff_lens 0 (x * 2 % 4294967296) cs).2 := by
  cases k with
  | zero => exact absurd rfl hk
  | succ k => rfl
theorem huff_flat_one : ∀ l, (huff_flat l).toArray.all (·.oneCell') = true := by
  intro l
  rw [List.all_toArray]
  induction l with
  | nil => rfl
  | cons p r ih => simp only [huff_flat, List.all_cons, ih]; rfl
set_option maxHeartbeats 3200000 in
set_option maxRecDepth 100000 in
theorem huff_code.calls (w : World) :
    Calls Tryz.prog 88 #[] w fun e w' => e = .returned (.agg (huff_flat huff_words).toArray) ∧ Below w.heap.size w w' := by
  have hz := huff_code.zero
  have hz8 := huff_lengths.zero
  obtain ⟨Z, hZ⟩ : ∃ Z : List Value, Z = huff_flat (List.replicate 257 (0, 0)) := ⟨_, rfl⟩
  obtain ⟨Z8, hZ8⟩ : ∃ Z : Array Value, Z = (List.replicate 257 (Value.int .u8 0)).toArray := ⟨_, rfl⟩
  have hZ8s : Z8.size = 257 := by rw [hZ8, List.size_toArray, List.length_replicate]
  rw [← hZ] at hz
  rw [← hZ8] at hz8
  have HZ := Aside0.mk hZ
  have HZ8s := Aside0.mk hZ8s
  obtain ⟨L, hL⟩ : ∃ L, L = (huff_lens.map (Value.int .u8)).toArray := ⟨_, rfl⟩
  have hcall : ∀ w, Calls Tryz.prog 57 #[] w fun e w' => e = .returned (.agg L) ∧ Below w.heap.size w w' := by rw [hL]; exact huff_lengths.calls
  have HIX := Aside0.mk (huff_code.index L hL)
  have HLs := Aside0.mk (show L.size = 257 by rw [hL]; exact huff_lens_size)
  have HCALL := Aside0.mk hcall
  have HL1 := Aside0.mk (show L.all (·.oneCell') = true by rw [hL, List.all_toArray]; exact List.all_eq_true.2 fun x hx => by obtain ⟨n, _, rfl⟩ := List.mem_map.1 hx; rfl)
  clear hZ hZ8 hL hcall hZ8s
  go_enter Tryz.func88, Tryz.ntmps88
  go_upto_region 2 with (fail)
  go_wp2_with (first | (go_at_call 57; refine (HCALL.out _).mono ?_; rintro e w1 ⟨rfl, hb⟩; have B1 := Aside0.mk (below_step (below_alloc (Below.refl w.heap.size w) _) hb); have G1 := Aside0.mk ((hb.block w.heap.size (by rw [World.alloc]; simp)).trans (man_alloc_block _ _ _)); clear hb) | (refine wpList_store_row rfl 55 _ _ rfl w1.heap.size L rfl rfl 55 Z8 (man_alloc_block _ _ _) (by rw [HLs.out]; exact huff_lengths.size) (by rw [HLs.out]; exact HZ8s.out) HL1.out ?_))
  obtain ⟨B8, hB8⟩ : ∃ n, n = w1.heap.size := ⟨_, rfl⟩
  have hlt : w.heap.size < B8 := by rw [hB8]; have := (Array.getElem?_eq_some_iff.1 G1.out).1; exact this
  have G2 : ((w1.alloc (Obj.cells Z8 55)).setRow B8 L).heap[w.heap.size]? = some (.cells Z.toArray 142 (0, 0)) := by
    rw [setRow_other _ _ _ _ (by omega)]
    exact (heap_alloc_old _ _ (by rw [← hB8]; exact hlt)).trans G1.out
  have G8 : ((w1.alloc (Obj.cells Z8 55)).setRow B8 L).heap[B8]? = some (.cells L 55 (0, 0)) := by
    have := man_alloc_block w1 Z8 55
    rw [← hB8] at this
    exact setRow_heap _ _ _ _ _ _ this
  have B2 : Below w.heap.size w ((w1.alloc (Obj.cells Z8 55)).setRow B8 L) := man_below_setRow (below_alloc B1.out _) _ _ (by omega)
  rw [← hB8]
  rw [HZ.out] at G2
  have HG2 := Aside0.mk G2
  have HG8 := Aside0.mk G8
  have HB2 := Aside0.mk B2
  clear G2 G8 B2 G1 B1 hB8
  generalize (w1.alloc (Obj.cells Z8 55)).setRow B8 L = w2 at HG2 HG8 HB2 ⊢
  clear hz hz8
  go_loopw [1, 3] (fun v1 v3 wr => ∃ (k : Nat) (x : Int) (cs : List (Int × Int)), k ≤ 30 ∧ v1 = .int .u32 x ∧ v3 = .int .u8 (31 - (k : Int)) ∧ Aside0 (cs.length = 257) ∧ Aside0 (huff_outer k (31 - (k : Int)) x cs = huff_words) ∧ Aside0 (wr.heap[w.heap.size]? = some (.cells (huff_flat cs).toArray 142 (0, 0))) ∧ Aside0 (wr.heap[B8]? = some (.cells L 55 (0, 0))) ∧ Aside0 (Below w.heap.size w wr)) (fun _ v3 _ => 31 - (intOf v3).toNat)
  case atStart => exact ⟨30, 0, List.replicate 257 (0, 0), by omega, rfl, rfl, ⟨by simp⟩, ⟨huff_words_made⟩, HG2, HG8, HB2⟩
  case round =>
    obtain ⟨k, x, cs, hk, rfl, rfl, HCS, HO, HG, HG8, HB⟩ := hrel
    by_cases hk0 : k = 0
    · subst hk0
      have hcs : cs = huff_words := HO.out
      subst hcs
      clear HO
      obtain ⟨F, hF⟩ : ∃ F, F = (huff_flat huff_words).toArray := ⟨_, rfl⟩
      have hG := HG.out
      rw [← hF] at hG
      have HF := Aside0.mk hF
      have HFs := Aside0.mk (show F.size = 514 by rw [hF, List.size_toArray, huff_flat_length, huff_words_length])
      have HF1 := Aside0.mk (show F.all (·.oneCell') = true by rw [hF]; exact huff_flat_one huff_words)
      have HG := Aside0.mk hG
      clear hF hG
      go_upto_region 14 with (fail)
      rename_i Q' K hK
      refine wp_region_list ?_
      refine wpList_load_row rfl 142 _ rfl w.heap.size rfl 142 F (0, 0) _ HG.out Tryz.underlying142 rfl (by rw [HFs.out]; exact huff_code.size) ?_
      refine wpList_store_row rfl 142 _ _ rfl w.heap.size F rfl rfl 142 F HG.out (by rw [HFs.out]; exact huff_code.size) rfl HF1.out ?_
      have hb1 := setRow_heap _ w.heap.size _ F _ _ HG.out
      have hl := run_loadVar_row (P := Tryz.prog) _ w.heap.size 142 142 _ (0, 0) _ hb1 Tryz.underlying142 rfl (by rw [HFs.out]; exact huff_code.size)
      have hbe := man_below_setRow HB.out w.heap.size F (Nat.le_refl _)
      exact hK _ _ (wp_ret (bodyPost_ret (v := .agg F) (man_results_cell (Tryz.results88) rfl hl) rfl ⟨by rw [HF.out], hbe⟩))
    · go_upto_region 7 with (fail)
      rename_i K hK
      obtain ⟨X, CS, hin⟩ : ∃ X CS, huff_inner (31 - (k : Int)) huff_lens 0 (x * 2 % 4294967296) cs = (X, CS) := ⟨_, _, rfl⟩
      have HIN := Aside0.mk hin
      clear hin
      refine wp_region_list ?_
      refine wpList_load_row rfl 55 _ rfl B8 rfl 55 L (0, 0) _ HG8.out Tryz.underlying55 rfl (by rw [HLs.out]; exact huff_lengths.size) ?_
      go_wp2_with (fail)
      go_loopw [1, 14] (fun v1 v14 wr => ∃ (i : Nat) (x' : Int) (cs' : List (Int × Int)), i ≤ 257 ∧ v1 = .int .u32 x' ∧ v14 = .int .i64 i ∧ Aside0 (cs'.length = 257) ∧ Aside0 (huff_inner (31 - (k : Int)) (huff_lens.drop i) i x' cs' = (X, CS)) ∧ Aside0 (wr.heap[w.heap.size]? = some (.cells (huff_flat cs').toArray 142 (0, 0))) ∧ Aside0 (wr.heap[B8]? = some (.cells L 55 (0, 0))) ∧ Aside0 (Below w.heap.size w wr)) (fun _ v14 _ => 257 - (intOf v14).toNat)
      case atStart => exact ⟨0, _, cs, by omega, rfl, rfl, HCS, ⟨HIN.out⟩, HG, HG8, HB⟩
      case round =>
        obtain ⟨i, x', cs', hi, rfl, rfl, HCS, HI, HG, HG8, HB⟩ := hrel
        by_cases hi2 : i < 257
        · have hix := HIX.out i hi2
          have hdrop : huff_lens.drop i = rd huff_lens i :: huff_lens.drop (i + 1) := by
            rw [List.drop_eq_getElem_cons (by rw [huff_lens_length]; exact hi2)]
            simp [rd, List.getD_eq_getElem?_getD, List.getElem?_eq_getElem (show i < huff_lens.length by rw [huff_lens_length]; exact hi2)]
          have hI := HI.out
          rw [hdrop] at hI
          have HI2 := Aside0.mk hI
          clear hI hdrop HI
          obtain ⟨m, hm⟩ : ∃ m, rd huff_lens i = m := ⟨_, rfl⟩
          rw [hm] at hix HI2
          clear hm
          by_cases hmk : m = 31 - (k : Int)
          · have HI3 : huff_inner (31 - (k : Int)) (huff_lens.drop (i + 1)) (i + 1) ((x' + 1) % 4294967296) (cs'.set i (x', 31 - (k : Int))) = (X, CS) := by have := HI2.out; rwa [huff_inner, if_pos hmk] at this
            have HI4 := Aside0.mk HI3
            clear HI3 HI2
            subst hmk
            have hsz : i * 2 + 2 ≤ (huff_flat cs').toArray.size := by rw [List.size_toArray, huff_flat_length, HCS.out]; omega
            have HSZ := Aside0.mk hsz
            clear hsz
            go_wp2_with (refine wpList_store_mid rfl 141 _ _ rfl w.heap.size (i * 2) #[.int .u32 x', .int .u8 (31 - (k : Int))] rfl rfl (man_there HG.out (i * 2) 2 HSZ.out) huff_code.word (man_two_one _ _ _ _) ?_)
            go_roundw
            case rel => exact ⟨i + 1, _, cs'.set i (x', 31 - (k : Int)), by omega, rfl, by go_num, ⟨by rw [List.length_set]; exact HCS.out⟩, HI4, ⟨by rw [huff_flat_set, Nat.mul_comm]; exact man_setCells2 _ _ _ _ _ _ _ HG.out⟩, ⟨(man_setCells2_other _ _ _ _ _ _ _ HG.out _ (by omega)).trans HG8.out⟩, ⟨man_setCells2_below HB.out _ _ _ _ _ _ HG.out (Nat.le_refl _)⟩⟩
            case measure => simp [intOf]; omega
          · have HI3 : huff_inner (31 - (k : Int)) (huff_lens.drop (i + 1)) (i + 1) x' cs' = (X, CS) := by have := HI2.out; rwa [huff_inner, if_neg hmk] at this
            have HI4 := Aside0.mk HI3
            clear HI3
            have hmk0 : (m == 31 - (k : Int)) = false := beq_eq_false_iff_ne.mpr hmk
            go_wp2_with (fail)
            go_roundw
            case rel => exact ⟨i + 1, x', cs', by omega, rfl, by go_num, HCS, HI4, HG, HG8, HB⟩
            case measure => simp [intOf]; omega
        · obtain rfl : i = 257 := by omega
          have hI := HI.out
          rw [List.drop_eq_nil_of_le (by rw [huff_lens_length]; exact Nat.le_refl _)] at hI
          obtain ⟨rfl, rfl⟩ : x' = X ∧ cs' = CS := by simpa [huff_inner] using hI
          clear hI
          go_wp2_with (fail)
          go_roundw
          case rel => exact ⟨k - 1, x', cs', by omega, rfl, congrArg (Value.int .u8) (by omega), HCS, ⟨by have h1 := HO.out; rw [huff_outer_step k hk0, HIN.out] at h1; rw [show (31 : Int) - ((k - 1 : Nat) : Int) = 31 - (k : Int) + 1 by omega]; exact h1⟩, HG, HG8, HB⟩
          case measure => simp [intOf]; omega

theorem huff_law : Maps.Keyed Tryz.prog 141 :=
  Maps.Keyed.of_law (deep_law_gate (by kernel_rfl) (of_decide_eq_true (by kernel_rfl)) (of_decide_eq_true (by kernel_rfl)) (by kernel_rfl) (by rw [Tryz.underlying141]))
theorem huff_keyOf (x n : Int) (hx : (Lit.int .u32 x).wf = true) (hn : (Lit.int .u8 n).wf = true) : (keyOf Tryz.prog 141 (.agg #[.int .u32 x, .int .u8 n])).isSome = true := by
  have h1 : Tryz.prog.keyType 141 = true := by kernel_rfl
  have h2 : Tryz.prog.cellsOf 141 = 2 := by kernel_rfl
  have h3 : Tryz.prog.cellsOf 64 = 1 := by kernel_rfl
  have h4 : Tryz.prog.cellsOf 5 = 1 := by kernel_rfl
  have h5 : (Value.agg #[.int .u32 x, .int .u8 n]).formed Tryz.prog 141 = true := by simp [Value.formed, Tryz.underlying141, h2]
  obtain ⟨d, hd⟩ : ∃ d, Tryz.prog.types.size + 1 = d + 2 := ⟨Tryz.prog.types.size - 1, by have : 1 ≤ Tryz.prog.types.size := of_decide_eq_true (by kernel_rfl); omega⟩
  unfold keyOf
  rw [Tryz.underlying141]
  simp only [h1, h5, Bool.and_self, if_true, Value.cells]
  rw [hd]
  simp [Program.keyLits, Tryz.underlying141, Tryz.underlying64, Tryz.underlying5, h2, h3, h4, hx, hn]
/-- What a word reads as, as a key. -/
noncomputable def huff_kl (p : Int × Int) : Lit := (keyOf Tryz.prog 141 (.agg #[.int .u32 p.1, .int .u8 p.2])).getD (.bool true)
def huff_wf (p : Int × Int) : Prop := (Lit.int .u32 p.1).wf = true ∧ (Lit.int .u8 p.2).wf = true
theorem huff_kl_of (p : Int × Int) (h : huff_wf p) : keyOf Tryz.prog 141 (.agg #[.int .u32 p.1, .int .u8 p.2]) = some (huff_kl p) := by
  have := huff_keyOf p.1 p.2 h.1 h.2
  unfold huff_kl
  cases hk : keyOf Tryz.prog 141 (.agg #[.int .u32 p.1, .int .u8 p.2]) with
  | none => rw [hk] at this; cases this
  | some l => rfl
theorem huff_kl_inj (p q : Int × Int) (hp : huff_wf p) (hq : huff_wf q) (h : huff_kl p = huff_kl q) : p = q := by
  have h1 := huff_kl_of p hp
  have h2 := huff_kl_of q hq
  rw [← h] at h2
  have := huff_law.inj h1 h2
  simp only [Value.agg.injEq, Array.mk.injEq, List.cons.injEq, Value.int.injEq, true_and, and_true] at this
  exact Prod.ext this.1 this.2
/-- The map of the first k words. -/
noncomputable def huff_D : Nat → DataW Unit
  | 0 => .map []
  | k + 1 => (huff_D k).put (huff_kl (huff_words.getD k (0, 0))) (.lit (.int .i64 k))
/-- At which place a word stands among the first k. -/
def huff_find : Nat → Int × Int → Option Nat
  | 0, _ => none
  | k + 1, p => if huff_words.getD k (0, 0) = p then some k else huff_find k p
theorem huff_D_map : ∀ k, Maps.IsMap (huff_D k)
  | 0 => Maps.isMap_empty
  | k + 1 => (huff_D_map k).put _ _
theorem huff_words_wf : ∀ p ∈ huff_words, huff_wf p := by
  have h : huff_words.all (fun p => (Lit.int .u32 p.1).wf && (Lit.int .u8 p.2).wf) = true := by decide +kernel
  intro p hp
  have := List.all_eq_true.1 h p hp
  simpa [huff_wf] using this
theorem huff_word_wf (k : Nat) : huff_wf (huff_words.getD k (0, 0)) := by
  by_cases hk : k < huff_words.length
  · have : huff_words.getD k (0, 0) = huff_words[k] := by simp [List.getD_eq_getElem?_getD, List.getElem?_eq_getElem hk]
    rw [this]
    exact huff_words_wf _ (List.getElem_mem hk)
  · have : huff_words.getD k (0, 0) = (0, 0) := by rw [List.getD_eq_getElem?_getD, List.getElem?_eq_none (by omega)]; rfl
    rw [this]
    exact ⟨by decide, by decide⟩
set_option maxRecDepth 100000 in
theorem huff_D_at (p : Int × Int) (hp : huff_wf p) : ∀ k, Maps.has (huff_D k) (huff_kl p) = (huff_find k p).isSome ∧ (huff_D k).atKey (huff_kl p) (.lit (.int .i64 0)) = .lit (.int .i64 ((huff_find k p).getD 0 : Nat))
  | 0 => ⟨rfl, rfl⟩
  | k + 1 => by
    have ih := huff_D_at p hp k
    have hw := huff_word_wf k
    unfold huff_D huff_find
    by_cases h : huff_words.getD k (0, 0) = p
    · rw [if_pos h, h]
      have hkey := huff_law.key (huff_kl_of p hp)
      exact ⟨Maps.has_put_same (huff_D_map k) hkey _, Maps.atKey_put_same (huff_D_map k) hkey _ _⟩
    · rw [if_neg h]
      have hne : huff_kl p ≠ huff_kl (huff_words.getD k (0, 0)) := fun e => h (huff_kl_inj _ _ hp hw e).symm
      rw [Maps.has_put_other hne, Maps.atKey_put_other hne]
      exact ih

/-- The lowest j bits of a byte, the highest one first. -/
def huff_low (c : Int) : Nat → List Int
  | 0 => []
  | j + 1 => c % 4294967296 / 2 ^ j % 2 :: huff_low c j
def huff_bits8 (l : List Int) : List Int := l.flatMap fun c => huff_low c 8
/-- One bit: the word that is begun (its bits, how many), were all its bits ones, the text so far. -/
def huff_step (b x n : Int) (ones : Bool) (out : List Int) : Option (Int × Int × Bool × List Int) :=
  match huff_find 257 (x * 2 % 4294967296 + b, (n + 1) % 256) with
  | none => some (x * 2 % 4294967296 + b, (n + 1) % 256, ones && b == 1, out)
  | some i => if i = 256 then none else some (0, 0, true, out ++ [(i : Int) % 256])
def huff_go : List Int → Int → Int → Bool → List Int → Option (Int × Int × Bool × List Int)
  | [], x, n, ones, out => some (x, n, ones, out)
  | b :: bs, x, n, ones, out => (huff_step b x n ones out).bind fun r => huff_go bs r.1 r.2.1 r.2.2.1 r.2.2.2
def huff_Get.f (l : List Int) : Option (ByteArray × Int) :=
  if (1048576 : Int) < l.length then some (⟨#[]⟩, 3)
  else match huff_go (huff_bits8 l) 0 0 true [] with
    | none => some (⟨#[]⟩, 5)
    | some (_, n, ones, out) => if 8 ≤ n ∨ ones = false then some (⟨#[]⟩, 5) else some (strOfNums out, 0)
theorem man_ownsMap_heap {H : Type} {P : Program} {k : TypeId} {R : Value → Option (DataW H × List MemPlace)} {w w' : World} {b n : Nat} {D : DataW H} (h : w.ownsMap P k R b n D) (he : w'.heap[b]? = w.heap[b]?) : w'.ownsMap P k R b n D := by
  obtain ⟨es, c, hb, r⟩ := h
  exact ⟨es, c, he.trans hb, r⟩
theorem man_ownsRow_heap {w w' : World} {base : Nat} {e : TypeId} {size : Nat} {v : Value} {n : Nat} {xs : List Value} (h : w.ownsRow base e size v n xs) (he : ∀ g, v.ownBlock = some g → w'.heap[g]? = w.heap[g]?) : w'.ownsRow base e size v n xs := by
  refine ⟨h.1, ?_⟩
  rcases h.2 with hn | ⟨g, cap, cur, rfl, hb, hg, rest⟩
  · exact .inl hn
  · exact .inr ⟨g, cap, cur, rfl, hb, (he g rfl).trans hg, rest⟩
theorem huff_or (x b : Int) (hb : b = 0 ∨ b = 1) : bits .or .u32 (x * 2 % 4294967296) b = x * 2 % 4294967296 + b := by
  obtain ⟨y, hy, hy1, hy2⟩ : ∃ y : Int, x * 2 % 4294967296 = 2 * y ∧ 0 ≤ y ∧ y < 2147483648 := ⟨x % 2147483648, by omega, by omega, by omega⟩
  rw [hy, u32_or _ _ (by omega) (by omega) (by omega) (by omega)]
  obtain ⟨z, rfl⟩ := Int.eq_ofNat_of_zero_le hy1
  rcases hb with rfl | rfl
  · simp; omega
  · have e : ((2 * (z : Int)).toNat ||| (1 : Int).toNat) = 2 ^ 1 * z + 1 := by
      rw [show (2 * (z : Int)).toNat = 2 ^ 1 * z by omega, Nat.two_pow_add_eq_or_of_lt (by decide : 1 < 2 ^ 1)]
      rfl
    rw [e]
    omega
theorem man_wraps_u32 (n : Int) (h₀ : 0 ≤ n) (h₁ : n < 2 ^ 32) : IntKind.u32.wrap n = n := by rw [IntKind.wrap_u32]; omega
theorem huff_and (y : Int) (h0 : 0 ≤ y) (h1 : y < 4294967296) : bits .and .u32 y 1 = y % 2 := bits_mask .u32 32 (by decide) man_wraps_u32 1 (by decide) y h0 h1
theorem huff_go_cons (b x n : Int) (ones : Bool) (out bs : List Int) : huff_go (b :: bs) x n ones out = match huff_find 257 (x * 2 % 4294967296 + b, (n + 1) % 256) with
    | none => huff_go bs (x * 2 % 4294967296 + b) ((n + 1) % 256) (ones && b == 1) out
    | some i => if i = 256 then none else huff_go bs 0 0 true (out ++ [(i : Int) % 256]) := by
  rw [huff_go, huff_step]
  cases huff_find 257 (x * 2 % 4294967296 + b, (n + 1) % 256) with
  | none => rfl
  | some i =>
    by_cases h : i = 256
    · simp [h]
    · simp [h]
theorem huff_zeroInt (w : World) : (zeroValue 3).run Tryz.prog w = .ok (.int .i64 0) w := by kernel_rfl
theorem huff_bit_bd (y : Int) : y % 2 = 0 ∨ y % 2 = 1 := by omega
theorem huff_quo_bd (c : Int) (k : Nat) : 0 ≤ c % 4294967296 / 2 ^ k ∧ c % 4294967296 / 2 ^ k < 4294967296 := by
  have h0 : 0 ≤ c % 4294967296 := by omega
  have hp : (0 : Int) < 2 ^ k := Int.pow_pos (by decide)
  refine ⟨Int.ediv_nonneg h0 (Int.le_of_lt hp), Int.lt_of_le_of_lt (Int.ediv_le_self _ h0) (by omega)⟩

/-- How many bits a text has. -/
def huff_sum : List Int → Int
  | [] => 0
  | c :: r => rd huff_lens c + huff_sum r
theorem huff_sum_append : ∀ a b, huff_sum (a ++ b) = huff_sum a + huff_sum b
  | [], b => by simp [huff_sum]
  | c :: r, b => by simp only [List.cons_append, huff_sum, huff_sum_append r b]; omega
theorem huff_len_bd : ∀ n : Nat, n < 257 → 5 ≤ rd huff_lens n ∧ rd huff_lens n ≤ 30 := by
  have h : (List.range 257).all (fun n => decide (5 ≤ rd huff_lens n) && decide (rd huff_lens n ≤ 30)) = true := by decide +kernel
  intro n hn
  have := List.all_eq_true.1 h n (List.mem_range.2 hn)
  simpa using this
theorem huff_sum_bd : ∀ l : List Int, (∀ c ∈ l, 0 ≤ c ∧ c < 256) → 5 * (l.length : Int) ≤ huff_sum l ∧ huff_sum l ≤ 30 * l.length
  | [], _ => by simp [huff_sum]
  | c :: r, h => by
    have ih := huff_sum_bd r (fun x hx => h x (List.mem_cons_of_mem _ hx))
    have hc := h c List.mem_cons_self
    have h1 := huff_len_bd c.toNat (by omega)
    rw [show ((c.toNat : Nat) : Int) = c by omega] at h1
    simp only [huff_sum, List.length_cons]
    omega
theorem man_bytesOf_bd (s : ByteArray) : ∀ c ∈ bytesOf s, 0 ≤ c ∧ c < 256 := by
  intro c hc
  obtain ⟨b, _, rfl⟩ := List.mem_map.1 hc
  have := b.toNat_lt
  omega
theorem man_bytesOf_length (s : ByteArray) : (bytesOf s).length = s.size := by unfold bytesOf; rw [List.length_map, Array.length_toList]; rfl
theorem man_bytesOf_take (s : ByteArray) (k : Nat) (hk : k < s.size) : (bytesOf s).take (k + 1) = (bytesOf s).take k ++ [(s[k].toNat : Int)] := by
  rw [List.take_succ_eq_append_getElem (by rw [man_bytesOf_length]; exact hk)]
  congr 2
  simp [bytesOf]
  rfl
theorem man_bytesOf_drop (s : ByteArray) (k : Nat) (hk : k < s.size) : (bytesOf s).drop k = (s[k].toNat : Int) :: (bytesOf s).drop (k + 1) := by
  rw [List.drop_eq_getElem_cons (by rw [man_bytesOf_length]; exact hk)]
  congr 1
  simp [bytesOf]
  rfl
def huff_Len.f (a0 : ByteArray) : Option Int := if a0.size ≤ 140737488351232 then some ((huff_sum (bytesOf a0) + 7) / 8) else none
set_option maxHeartbeats 3200000 in
set_option maxRecDepth 100000 in
theorem huff_Len.calls (a0 : ByteArray) (r : Int) (w : World) (h : huff_Len.f a0 = some r) :
    Calls Tryz.prog 12 #[.string a0] w fun e w' => e = .returned (.int .i64 r) ∧ Below w.heap.size w w' := by
  unfold huff_Len.f at h
  by_cases hsz : a0.size ≤ 140737488351232
  · rw [if_pos hsz] at h
    have HH := Aside0.mk (Option.some.inj h)
    clear h
    have hz8 := huff_lengths.zero
    obtain ⟨Z8, hZ8⟩ : ∃ Z : Array Value, Z = (List.replicate 257 (Value.int .u8 0)).toArray := ⟨_, rfl⟩
    have hZ8s : Z8.size = 257 := by rw [hZ8, List.size_toArray, List.length_replicate]
    rw [← hZ8] at hz8
    have HZ8s := Aside0.mk hZ8s
    obtain ⟨L, hL⟩ : ∃ L, L = (huff_lens.map (Value.int .u8)).toArray := ⟨_, rfl⟩
    have hcall : ∀ w, Calls Tryz.prog 57 #[] w fun e w' => e = .returned (.agg L) ∧ Below w.heap.size w w' := by rw [hL]; exact huff_lengths.calls
    have HLs := Aside0.mk (show L.size = 257 by rw [hL]; exact huff_lens_size)
    have HCALL := Aside0.mk hcall
    have HL1 := Aside0.mk (show L.all (·.oneCell') = true by rw [hL, List.all_toArray]; exact List.all_eq_true.2 fun x hx => by obtain ⟨n, _, rfl⟩ := List.mem_map.1 hx; rfl)
    have HL := Aside0.mk hL
    clear hZ8 hL hcall hZ8s
    go_enter Tryz.func12, Tryz.ntmps12
    go_upto_region 2 with (first | (go_at_call 57; refine (HCALL.out _).mono ?_; rintro e w1 ⟨rfl, hb⟩; have B1 := Aside0.mk hb; clear hb) | (refine wpList_store_row rfl 55 _ _ rfl w1.heap.size L rfl rfl 55 Z8 (man_alloc_block _ _ _) (by rw [HLs.out]; exact huff_lengths.size) (by rw [HLs.out]; exact HZ8s.out) HL1.out ?_))
    obtain ⟨B8, hB8⟩ : ∃ n, n = w1.heap.size := ⟨_, rfl⟩
    have G8 : ((w1.alloc (Obj.cells Z8 55)).setRow B8 L).heap[B8]? = some (.cells L 55 (0, 0)) := by
      have := man_alloc_block w1 Z8 55
      rw [← hB8] at this
      exact setRow_heap _ _ _ _ _ _ this
    have B2 : Below w.heap.size w ((w1.alloc (Obj.cells Z8 55)).setRow B8 L) := man_below_setRow (below_alloc B1.out _) _ _ (by have := B1.out.size; omega)
    rw [← hB8]
    have HG8 := Aside0.mk G8
    have HB2 := Aside0.mk B2
    clear G8 B2 B1 hB8 hz8
    generalize (w1.alloc (Obj.cells Z8 55)).setRow B8 L = w2 at HG8 HB2 ⊢
    have HCELL : Aside0 (∀ n : Nat, n < 257 → w2.cell? ⟨B8, n, none⟩ = some (.int .u8 (rd huff_lens n))) := ⟨fun n hn => by
      refine (blk_cell HG8.out n).trans ?_
      rw [HL.out, List.getElem?_toArray, List.getElem?_map, List.getElem?_eq_getElem (by rw [huff_lens_length]; exact hn)]
      simp [rd, List.getD_eq_getElem?_getD, List.getElem?_eq_getElem (show n < huff_lens.length by rw [huff_lens_length]; exact hn)]⟩
    go_wp2_with (fail)
    go_loop [3, 9] (fun v3 v9 => ∃ k : Nat, k ≤ a0.size ∧ v9 = .int .i64 k ∧ v3 = .int .i64 (huff_sum ((bytesOf a0).take k))) (fun _ v9 => a0.size - (intOf v9).toNat)
    case atStart => exact ⟨0, by omega, rfl, rfl⟩
    case round =>
      obtain ⟨k, hk, rfl, rfl⟩ := hrel
      have hbd := huff_sum_bd ((bytesOf a0).take k) (fun c hc => man_bytesOf_bd a0 c (List.mem_of_mem_take hc))
      have hlk : ((bytesOf a0).take k).length ≤ k := List.length_take_le _ _
      by_cases hlt : k < a0.size
      · have hsn := congrArg huff_sum (man_bytesOf_take a0 k hlt)
        rw [huff_sum_append] at hsn
        have HSN := Aside0.mk hsn
        clear hsn
        have hcb : a0[k].toNat < 256 := a0[k].toNat_lt
        have hcell := HCELL.out a0[k].toNat (by omega)
        have hmb := huff_len_bd a0[k].toNat (by omega)
        obtain ⟨m, hm⟩ : ∃ m, rd huff_lens (a0[k].toNat : Nat) = m := ⟨_, rfl⟩
        rw [hm] at hcell hmb
        have HM := Aside0.mk hm
        clear hm
        obtain ⟨S, hS⟩ : ∃ S, huff_sum ((bytesOf a0).take k) = S := ⟨_, rfl⟩
        rw [hS] at hbd ⊢
        have HS := Aside0.mk hS
        clear hS
        go_wp2_with (fail)
        go_round
        case rel => exact ⟨k + 1, by omega, by go_num, by rw [HSN.out, HS.out]; simp only [huff_sum]; rw [HM.out]; simp⟩
        case measure => simp [intOf]; omega
      · obtain rfl : k = a0.size := by omega
        rw [List.take_of_length_le (by rw [man_bytesOf_length]; exact Nat.le_refl _)] at hbd hlk ⊢
        rw [man_bytesOf_length] at hbd
        have hh := HH.out
        obtain ⟨S, hS⟩ : ∃ S, huff_sum (bytesOf a0) = S := ⟨_, rfl⟩
        rw [hS] at hbd hh ⊢
        subst hh
        clear hS
        go_wp2_with (fail)
        go_ret
        exact ⟨rfl, HB2.out⟩
  · rw [if_neg hsz] at h
    cases h

/-! ### The same, where a round keeps what it keeps of a loop's own block alone -/
section
variable {F : Fence} {n : Nat} {P : Program}
theorem wpIn_runs2 {α : Type} {g : Operand} {ps : Array Tmp} {assign body : Code} {Q : Exit → Act → World → Prop} {a : Act} {w : World}
    (hro : F.round = none) (h1 : 1 ≤ n) {gf : Nat} {lb : Array Value} (hg : a.eval g = .func (.func gf) #[] lb) (hFg : F.fn gf) (eg : ∀ args w, (callFunc gf args).run P w = .ok (.enter gf args) w)
    {encs : α → Array Value} {Bn : Nat} {tn : TypeId} {Kp : World → World → Prop} {xs : List α} (hseq : SeqRuns F (n - 1) P gf lb encs Bn tn Kp xs w) (hBn : Bn < w.heap.size)
    (hKt : ∀ {A B C : World}, Kp A B → Kp B C → Kp A C) (hKb : ∀ (W : World) (l : Nat) (o o' : Obj), W.heap[l]? = some o → o.isCells = false → Kp W (W.putObj l o')) (hps : ∀ x, (encs x).size = ps.size)
    (I : List α → World → Prop) (hI : ∀ s W W' (row : Option Nat), I s W → W.grownBy W' row → (∀ r, row = some r → (r = Bn ∧ ∃ u, Boxed W' Bn tn u) ∨ (w.heap.size ≤ r ∧ ∃ o : Obj, W.heap[r]? = some o ∧ o.isCells = false)) → I s W')
    (h0 : I [] w) (a₁ : α → Act)
    (hassign : ∀ (l : Nat) (x : α) (W : World) (K : Act → World → Prop), K (a₁ x) W → assign.wpIn (F.inRound l) (n - 1 - 1) P (Exit.then K (fun _ _ _ => False)) { tmps := (ps.zip (encs x)).foldl (fun t (p, v) => t.setIfInBounds p v) a.tmps, defers := [] } W)
    (hbody : ∀ (l : Nat) (pre : List α) (x : α) (rest : List α) (W : World), xs = pre ++ x :: rest → w.heap.size ≤ l → I pre W → body.wpIn (F.inRound l) (n - 1 - 1) P (roundGoes Kp I (pre ++ [x]) W) (a₁ x) W)
    (hdone : ∀ (D : Nat) (W : World), w.heap.size ≤ D → I xs W → W.heap[D]? = some (.deferred (some [])) → Q .normal { a with defers := { target := .collected D, args := #[] } :: a.defers } W) :
    (Code.rangeFunc g ps assign body).wpIn F n P Q a w := by
  refine wpIn_rangeFunc ?_
  intro fn hfn
  rw [hro]
  obtain ⟨rec, hrec⟩ : ∃ rec : LoopState → Option Code → Loop, rec = fun st pe => { state := st, pending := pe, fn, tmps := a.tmps, params := ps, assign, body, defers := w.heap.size } := ⟨_, rfl⟩
  obtain ⟨W1, hW1⟩ : ∃ W1, (w.alloc (.deferred (some []))).alloc (.loop (rec .ready none)) = W1 := ⟨_, rfl⟩
  have hL1 : W1.heap[w.heap.size + 1]? = some (.loop (rec .ready none)) := by
    rw [← hW1]; have := World.alloc_heap_new (w.alloc (.deferred (some []))) (.loop (rec .ready none)); rwa [World.size_alloc] at this
  have hK1 : W1.heap[w.heap.size]? = some (.deferred (some [])) := by
    rw [← hW1]; exact (Below.heap_alloc _ _ _ (by simp)).trans (World.alloc_heap_new w _)
  have hI1 : I [] W1 := by
    rw [← hW1]
    exact hI _ _ _ none (hI _ _ _ none h0 (World.grownBy_alloc w _ none) (by simp)) (World.grownBy_alloc _ _ none) (by simp)
  have hb1 : Below w.heap.size w W1 := by rw [← hW1]; exact ((Below.refl _ w).alloc (Nat.le_refl _) _).alloc (by simp) _
  have put_I : ∀ (s : List α) (W : World) (o o' : Obj), I s W → W.heap[w.heap.size + 1]? = some o → o.isCells = false → I s (W.putObj (w.heap.size + 1) o') := fun s W o o' hs hl ho =>
    hI s W _ (some (w.heap.size + 1)) hs (grownBy_putObj' W _ o') (fun r e => by cases e; exact .inr ⟨by omega, o, hl, ho⟩)
  refine ⟨w.heap.size + 1, [{ target := .collected w.heap.size, args := #[] }], W1, { target := .fn (.func gf) lb, args := #[.func (.yield (w.heap.size + 1)) #[] #[]] }, W1, gf,
    #[.func (.yield (w.heap.size + 1)) #[] #[]] ++ lb, W1, ?_, ?_, ?_, ?_, fun _ => h1, ?_⟩
  · rw [← hW1, hrec]; exact run_enterLoop_outer _ _ _ _ _
  · simp only [resolve, hg]
    simp [go_sem]
  · intro f' hf'; simp [Target.leads] at hf'; subst hf'; exact hFg
  · simp [invoke, go_sem, eg]
  · refine (hseq (w.heap.size + 1) (fun pre W => I pre W ∧ W.heap[w.heap.size + 1]? = some (.loop (rec .ready none)) ∧ W.heap[w.heap.size]? = some (.deferred (some []))) W1 hb1 ?_ ?_ ⟨hI1, hL1, hK1⟩).mono ?_
    · intro s A B row hs hg' hr
      refine ⟨hI s A B row hs.1 hg' (fun r e => .inl (hr r e)), ?_, ?_⟩
      · exact (hg'.block _ (Array.getElem?_eq_some_iff.1 hs.2.1).1 (fun e => by have := (hr _ e.symm).1; omega)).trans hs.2.1
      · exact (hg'.block _ (Array.getElem?_eq_some_iff.1 hs.2.2).1 (fun e => by have := (hr _ e.symm).1; omega)).trans hs.2.2
    · rintro pre x rest W hx ⟨hi, hl, hk⟩
      have hlt : w.heap.size + 1 < W.heap.size := (Array.getElem?_eq_some_iff.1 hl).1
      have hy := run_yield (P := P) (args := encs x) hl (by rw [hrec]; exact hps x)
      rw [hrec] at hy
      refine ⟨fn, _, assign, body, hy, roundIn_of_wpIn hfn (hassign _ x W _ ?_)⟩
      clear hy
      refine ⟨_, run_beginRound hl (by rw [hrec]), ?_⟩
      have hl2 : (W.putObj (w.heap.size + 1) (.loop { rec .ready none with state := .busy })).heap[w.heap.size + 1]? = some (.loop { rec .ready none with state := .busy }) := World.putObj_heap_same hlt
      have hk2 : (W.putObj (w.heap.size + 1) (.loop { rec .ready none with state := .busy })).heap[w.heap.size]? = some (.deferred (some [])) := (World.putObj_heap_other (by omega)).trans hk
      have hw2 : Kp W (W.putObj (w.heap.size + 1) (.loop { rec .ready none with state := .busy })) := hKb _ _ _ _ hl rfl
      refine wpIn_mono (hbody _ pre x rest _ hx (by omega) (put_I _ _ _ _ hi hl rfl)) ?_
      rintro e a3 W3 hp
      cases e with
      | normal =>
        obtain ⟨hk3, hkp3, hi3⟩ := hp
        have hl3 := hk3.same _ _ hl2 rfl
        have hr := run_endRound (P := P) none hl3
        rw [hrec] at hr hl3
        refine ⟨_, _, hr, rfl, ⟨put_I _ _ _ _ hi3 hl3 rfl, ?_, ?_⟩, hKt hw2 (hKt hkp3 (hKb _ _ _ _ hl3 rfl))⟩
        · rw [hrec]; exact World.putObj_heap_same (Array.getElem?_eq_some_iff.1 hl3).1
        · exact (World.putObj_heap_other (by omega)).trans (hk3.same _ _ hk2 rfl)
      | ret => exact hp.elim
      | exit id => exact hp.elim
      | goto t => exact hp.elim
      | panic ch => exact hp.elim
      | outgrown => exact hp.elim
    · rintro e W2 ⟨⟨v, rfl⟩, hi, hl, hk⟩
      have he := run_endLoop (P := P) hl (by rw [hrec]; simp)
      rw [hrec] at he
      exact ⟨none, _, he, hdone _ _ (Nat.le_refl _) (put_I _ _ _ _ hi hl rfl) ((World.putObj_heap_other (by omega)).trans hk)⟩
end

theorem manIn_store_row {F : Fence} {n : Nat} {P : Program} {ops : Array Oper} {rest : List Oper} {o : Oper} {a : Act} {w : World} {Q : Exit → Act → World → Prop} (hgd : o.guard = none) (ty : TypeId) (x y : Operand) (ho : o.op = .store ty x y)
    (g : Nat) (cells : Array Value) (hx : a.eval x = .pointer (some ⟨g, 0, none⟩)) (hy : a.eval y = .agg cells)
    (t : TypeId) (old : Array Value) (hg : w.heap[g]? = some (.cells old t (0, 0))) (hi : (P.info? ty).map (·.size) = some cells.size)
    (hold : old.size = cells.size) (h1 : cells.all (·.oneCell') = true)
    (h : wpListIn F n P ops Q rest (a.put o.dst undef) (w.setRow g cells)) : wpListIn F n P ops Q (o :: rest) a w := by
  refine wpListIn_plain hgd fun K hK' => ?_
  have hrun := run_storeVar_row (P := P) w g t ty old cells hg hi hold h1
  unfold Oper.wpIn
  refine ⟨by simp [Oper.about, ho], ?_⟩
  rw [Oper.semAt_plain F _ _ (by rw [ho]; intro c hc'; cases hc')]
  simp only [execOp, ho, hx, hy, Instr.storeAt, Instr.sureAddr, Sem.run_bind, Sem.run_pure, Result.andThen_ok, hrun]
  exact hK' _ _ h
/-- A byte's word. -/
def huff_w (c : Int) : Int × Int := huff_words.getD c.toNat (0, 0)
/-- The bits of a text. -/
def huff_enc : List Int → List Int
  | [] => []
  | c :: r => huff_low (huff_w c).1 (huff_w c).2.toNat ++ huff_enc r
theorem huff_bits.calls (s : ByteArray) (w : World) :
    Calls Tryz.prog 58 #[.string s] w fun e w' => e = .returned (.func (.func 87) #[] #[.pointer (some ⟨w.heap.size, 0, none⟩)]) ∧ w' = w.alloc (.cells #[.string s] 9) := by
  go_enter Tryz.func58, Tryz.ntmps58
  go_wp2
  go_ret
  exact ⟨rfl, rfl⟩
/-- What each round over a text's bits keeps. -/
def huff_Kp (W W' : World) : Prop := ∀ (g : Nat) (cs : Array Value) (t : TypeId) (fr : Nat × Nat), (t = 9 ∨ t = 141 ∨ t = 142) → W.heap[g]? = some (.cells cs t fr) → W'.heap[g]? = some (.cells cs t fr)
theorem huff_w_bd : ∀ n : Nat, n < 257 → 0 ≤ (huff_w n).1 ∧ (huff_w n).1 < 4294967296 ∧ 5 ≤ (huff_w n).2 ∧ (huff_w n).2 ≤ 30 := by
  have h : (List.range 257).all (fun n => decide (0 ≤ (huff_w n).1) && decide ((huff_w n).1 < 4294967296) && decide (5 ≤ (huff_w n).2) && decide ((huff_w n).2 ≤ 30)) = true := by decide +kernel
  intro n hn
  have := List.all_eq_true.1 h n (List.mem_range.2 hn)
  simp only [Bool.and_eq_true, decide_eq_true_eq] at this
  exact ⟨this.1.1.1, this.1.1.2, this.1.2, this.2⟩
set_option maxHeartbeats 3200000 in
set_option maxRecDepth 100000 in
theorem huff_bits.runs (N : Nat) (hN : 1 ≤ N) (Bn : Nat) (s : ByteArray) (hs : s.size ≤ 140737488351232) (w : World) (hb : Boxed w Bn 9 (.string s)) :
    SeqRuns Fence.wide N Tryz.prog 87 #[.pointer (some ⟨Bn, 0, none⟩)] (fun x => #[.bool (x == 1)]) Bn 9 huff_Kp (huff_enc (bytesOf s)) w := by
  have hro : Fence.wide.round = none := rfl
  intro l J W hW hJ hY hJ0
  have hbW : Boxed W Bn 9 (.string s) := (hW.block Bn hb.lt).trans hb
  have HBOX := Aside0.mk hbW
  have HY := Aside0.mk hY
  have HJ := Aside0.mk hJ
  have HJ0 := Aside0.mk hJ0
  clear hY hJ hbW hJ0 hb
  have hz := huff_code.zero
  obtain ⟨Z, hZ⟩ : ∃ Z : Array Value, Z = (huff_flat (List.replicate 257 (0, 0))).toArray := ⟨_, rfl⟩
  have hZs : Z.size = 514 := by rw [hZ, List.size_toArray, huff_flat_length, List.length_replicate]
  rw [← hZ] at hz
  obtain ⟨F, hF⟩ : ∃ F, F = (huff_flat huff_words).toArray := ⟨_, rfl⟩
  have hcall : ∀ w, Calls Tryz.prog 88 #[] w fun e w' => e = .returned (.agg F) ∧ Below w.heap.size w w' := by rw [hF]; exact huff_code.calls
  have HCALL := Aside0.mk hcall
  have HFs := Aside0.mk (show F.size = 514 by rw [hF, List.size_toArray, huff_flat_length, huff_words_length])
  have HF1 := Aside0.mk (show F.all (·.oneCell') = true by rw [hF]; exact huff_flat_one huff_words)
  have HZs := Aside0.mk hZs
  have HF := Aside0.mk hF
  clear hcall hF hZ hZs
  refine callsIn_of_wp Tryz.func87 rfl trivial ?_ hro
  simp only [Tryz.ntmps87, List.size_toArray, List.length_cons, List.length_nil, Nat.reduceAdd, Nat.reduceSub, Array.replicate_succ, Array.replicate_zero, List.push_toArray, List.append_toArray, List.nil_append, List.cons_append]
  gi_wp2
  refine ⟨trivial, (callsIn_wide.2 (HCALL.out _)).mono ?_⟩
  rintro e w1 ⟨rfl, hb1⟩
  have B1 := Aside0.mk hb1
  clear hb1
  gi_upto_region 1 with (refine manIn_store_row rfl 142 _ _ rfl w1.heap.size F rfl rfl 142 Z (man_alloc_block _ _ _) (by rw [HFs.out]; exact huff_code.size) (by rw [HFs.out]; exact HZs.out) HF1.out ?_)
  obtain ⟨B3, hB3⟩ : ∃ n, n = w1.heap.size := ⟨_, rfl⟩
  have G3 : ((w1.alloc (Obj.cells Z 142)).setRow B3 F).heap[B3]? = some (.cells F 142 (0, 0)) := by
    have := man_alloc_block w1 Z 142
    rw [← hB3] at this
    exact setRow_heap _ _ _ _ _ _ this
  have B2 : Below W.heap.size W ((w1.alloc (Obj.cells Z 142)).setRow B3 F) := man_below_setRow (below_alloc B1.out _) _ _ (by have := B1.out.size; omega)
  rw [← hB3]
  clear B1 hB3 hz
  generalize (w1.alloc (Obj.cells Z 142)).setRow B3 F = w2 at G3 B2 ⊢
  have HG3 := Aside0.mk G3
  have HBX := Aside0.mk (show Boxed w2 Bn 9 (.string s) from (B2.block Bn HBOX.out.lt).trans HBOX.out)
  have HJ2 := Aside0.mk (HJ.out [] W w2 none HJ0.out ⟨B2.os, B2.tape, B2.output, B2.size, fun i hi _ => B2.block i hi⟩ (fun r e => by cases e))
  clear G3 B2 HJ0 HBOX
  have hc := HBX.out.cell
  gi_wp2
  clear hc
  gi_loopw [10] (fun v10 wr => ∃ (k : Nat) (pre : List Int), k ≤ s.size ∧ v10 = .int .i64 k ∧ Aside0 (huff_enc (bytesOf s) = pre ++ huff_enc ((bytesOf s).drop k)) ∧ Aside0 (J pre wr) ∧ Aside0 (Boxed wr Bn 9 (.string s)) ∧ Aside0 (wr.heap[B3]? = some (.cells F 142 (0, 0)))) (fun v10 _ => s.size - (intOf v10).toNat)
  case atStart => exact ⟨0, [], by omega, rfl, ⟨rfl⟩, HJ2, HBX, HG3⟩
  case round =>
    clear HJ2 HBX HG3
    obtain ⟨k, pre, hk, rfl, HE, HJ2, HBX, HG3⟩ := hrel
    have hc := HBX.out.cell
    by_cases hlt : k < s.size
    · have hcb : s[k].toNat < 256 := s[k].toNat_lt
      have he := HE.out
      rw [man_bytesOf_drop s k hlt, huff_enc] at he
      obtain ⟨x, n, hxn⟩ : ∃ x n, huff_w (s[k].toNat : Nat) = (x, n) := ⟨_, _, rfl⟩
      have hbd := huff_w_bd s[k].toNat (by omega)
      rw [hxn] at he hbd
      simp only at he hbd
      have hp : F.extract (s[k].toNat * 2) (s[k].toNat * 2 + 2) = #[.int .u32 x, .int .u8 n] := by
        rw [HF.out, List.extract_toArray, List.extract_eq_take_drop]
        rw [show s[k].toNat * 2 + 2 - s[k].toNat * 2 = 2 by omega, huff_flat_at _ _ (by rw [huff_words_length]; omega)]
        have e : huff_words.getD s[k].toNat (0, 0) = (x, n) := by rw [← hxn]; unfold huff_w; rw [Int.toNat_natCast]
        rw [e]
      have hx0 : wr.cell? ⟨B3, s[k].toNat * 2, none⟩ = some (.int .u32 x) := by
        refine (blk_cell HG3.out _).trans ?_
        have := congrArg (fun A : Array Value => A[0]?) hp
        simp only [Array.getElem?_extract] at this
        rw [if_pos (by rw [HFs.out]; omega)] at this
        exact this
      have hx1 : wr.cell? ⟨B3, s[k].toNat * 2 + 1, none⟩ = some (.int .u8 n) := by
        refine (blk_cell HG3.out _).trans ?_
        have := congrArg (fun A : Array Value => A[1]?) hp
        simp only [Array.getElem?_extract] at this
        rw [if_pos (by rw [HFs.out]; omega)] at this
        exact this
      have HE := Aside0.mk he
      clear he hp hxn
      have hcb2 : (s[k].toNat : Int) < 257 := by omega
      gi_wp2
      obtain ⟨B5, hB5⟩ : ∃ g, g = wr.heap.size := ⟨_, rfl⟩
      have G5 := man_alloc_block wr #[Value.int IntKind.u32 x, Value.int IntKind.u8 n] 141
      rw [← hB5] at G5 ⊢
      have HG5 := Aside0.mk G5
      have HBX := Aside0.mk (HBX.out.alloc (.cells #[Value.int IntKind.u32 x, Value.int IntKind.u8 n] 141))
      have HG3 := Aside0.mk ((heap_alloc_old wr (.cells #[Value.int IntKind.u32 x, Value.int IntKind.u8 n] 141) (Array.getElem?_eq_some_iff.1 HG3.out).1).trans HG3.out)
      have HJ2 := Aside0.mk (HJ.out pre wr _ none HJ2.out (World.grownBy_alloc wr (.cells #[Value.int IntKind.u32 x, Value.int IntKind.u8 n] 141) none) (fun r e => by cases e))
      clear G5 hB5 hc hx0 hx1 hcb hcb2
      generalize wr.alloc (.cells #[Value.int IntKind.u32 x, Value.int IntKind.u8 n] 141) = w5 at HG5 HBX HG3 HJ2 ⊢
      obtain ⟨m, rfl⟩ := Int.eq_ofNat_of_zero_le (show 0 ≤ n by omega)
      rw [Int.toNat_natCast] at HE
      gi_loopw [6] (fun v6 wr => ∃ (j : Nat) (pre : List Int), j ≤ 30 ∧ v6 = .int .u8 j ∧ Aside0 (huff_enc (bytesOf s) = pre ++ (huff_low x j ++ huff_enc ((bytesOf s).drop (k + 1)))) ∧ Aside0 (J pre wr) ∧ Aside0 (Boxed wr Bn 9 (.string s)) ∧ Aside0 (wr.heap[B3]? = some (.cells F 142 (0, 0))) ∧ Aside0 (wr.heap[B5]? = some (.cells #[.int .u32 x, .int .u8 m] 141 (0, 0)))) (fun v6 _ => (intOf v6).toNat)
      case atStart => exact ⟨m, pre, by omega, rfl, HE, HJ2, HBX, HG3, HG5⟩
      case round =>
        clear HE HJ2 HBX HG3 HG5
        obtain ⟨j, pre, hj, rfl, HE, HJ2, HBX, HG3, HG5⟩ := hrel
        by_cases hj0 : j = 0
        · subst hj0
          have he := HE.out
          rw [huff_low, List.nil_append] at he
          have HE := Aside0.mk he
          clear he
          gi_wp2
          go_roundw
          case rel => exact ⟨k + 1, pre, by omega, by go_num, HE, HJ2, HBX, HG3⟩
          case measure => simp [intOf]; omega
        · obtain ⟨i, rfl⟩ : ∃ i, j = i + 1 := ⟨j - 1, by omega⟩
          have he := HE.out
          rw [huff_low, List.cons_append, Int.emod_eq_of_lt hbd.1 hbd.2.1] at he
          have hq : 0 ≤ x / 2 ^ i ∧ x / 2 ^ i < 4294967296 := by
            have := huff_quo_bd x i
            rwa [Int.emod_eq_of_lt hbd.1 hbd.2.1] at this
          have hand := huff_and (x / 2 ^ i) hq.1 hq.2
          obtain ⟨b, hb⟩ : ∃ b, x / 2 ^ i % 2 = b := ⟨_, rfl⟩
          rw [hb] at he hand
          have HE := Aside0.mk he
          have hx0 : wr.cell? ⟨B5, 0, none⟩ = some (.int .u32 x) := (blk_cell HG5.out 0).trans rfl
          obtain ⟨fn, tmps, assign, body, hy, hR⟩ := HY.out pre b _ wr HE.out HJ2.out
          clear he hb hq
          gi_wp2
          refine hR.mono ?_
          rintro e W3 ⟨rfl, hJ3, hk3⟩
          have HJ3 := Aside0.mk hJ3
          have HBX3 := Aside0.mk (show Boxed W3 Bn 9 (.string s) from hk3 _ _ _ _ (.inl rfl) HBX.out)
          have HG33 := Aside0.mk (hk3 _ _ _ _ (.inr (.inr rfl)) HG3.out)
          have HG53 := Aside0.mk (hk3 _ _ _ _ (.inr (.inl rfl)) HG5.out)
          clear hJ3 hk3 hR hy hx0
          gi_wp2
          go_roundw
          case rel => exact ⟨i, pre ++ [b], by omega, by go_num, ⟨by rw [HE.out]; simp⟩, HJ3, HBX3, HG33, HG53⟩
          case measure => simp [intOf]
    · obtain rfl : k = s.size := by omega
      have he := HE.out
      rw [List.drop_eq_nil_of_le (by rw [man_bytesOf_length]; exact Nat.le_refl _), huff_enc, List.append_nil] at he
      have HE := Aside0.mk he
      clear he
      gi_wp2
      go_end0
      exact ⟨⟨_, rfl⟩, by rw [HE.out]; exact HJ2.out⟩

/-! ### A region that draws its order, in a round of a range over a function: reads ahead of one chain of operations (Derived/StillTail's theorem, under the fence of a round) -/
def man_notDefer (o : Oper) : Bool := match o.op with | .defer _ => false | _ => true
theorem man_notDefer_spec {o : Oper} (h : man_notDefer o = true) : ∀ c, o.op ≠ .defer c := by
  intro c e
  unfold man_notDefer at h
  rw [e] at h
  cases h
section
variable {P : Program} {ops : Array Oper} {md : Region.Mode} {w : World} {lr m : Nat}
theorem man_wpIn_of_still {o : Oper} {a : Act} {K : Act → Prop} {K' : Act → World → Prop} {Q' : Exit → Act → World → Prop} (hd : man_notDefer o = true) (h : ∀ a, K a → K' a w) (hh : o.still P a w K) : o.wpIn (Fence.wide.inRound lr) m P a w K' Q' := by
  unfold Oper.still at hh
  unfold Oper.wpIn
  refine ⟨fun _ _ => trivial, ?_⟩
  rw [show (Fence.wide.inRound lr).round = some lr from rfl, Oper.semAt_some lr _ _ (man_notDefer_spec hd)]
  generalize (execOp a.eval o).run P w = r at *
  cases r with
  | ok n w' =>
    cases n <;> simp only [Oper.stillUpon] at hh <;> simp only [Oper.uponIn]
    case enter f args =>
      obtain ⟨rfl, v, hc, hn⟩ := hh
      refine ⟨(fun e => by cases e), ?_⟩
      refine CallsIn.inRound lr (callsIn_wide.2 ?_)
      refine hc.mono ?_
      rintro e w'' ⟨rfl, rfl⟩
      exact h _ hn
    all_goals (obtain ⟨rfl, h2⟩ := hh; exact h _ h2)
  | halt x w' => simp only [Oper.stillUpon] at hh
theorem man_wpOpIn_of_stOp {i : Nat} {a : Act} {K : Act → Prop} {K' : Act → World → Prop} {Q' : Exit → Act → World → Prop} (hd : ∀ (j : Nat) (o : Oper), ops[j]? = some o → man_notDefer o = true) (h : ∀ a, K a → K' a w) (hh : stOp P ops w i K a) : wpOpIn (Fence.wide.inRound lr) m P ops Q' i K' a w := by
  unfold stOp at hh
  unfold wpOpIn
  split
  · rename_i ho; simp only [ho] at hh; exact h _ hh
  · rename_i o ho
    simp only [ho] at hh
    split
    · rename_i hw; simp only [hw, if_true] at hh; exact man_wpIn_of_still (hd i o ho) h hh
    · rename_i hw; simp only [hw] at hh; exact ⟨fun _ _ => trivial, h _ hh⟩
theorem man_wpAnyIn_of_head {n g : Nat} {L : Array Bool → Act → Prop} {Q' : Exit → Act → World → Prop} (hd : ∀ (j : Nat) (o : Oper), ops[j]? = some o → man_notDefer o = true) (hL : ∀ listed a, L listed a → wpAnyIn (Fence.wide.inRound lr) m P md ops Q' g listed a w) :
    ∀ (f : Nat) (listed : Array Bool) (a : Act), wpAnyL P md ops w n L f listed a → wpAnyIn (Fence.wide.inRound lr) m P md ops Q' (f + g) listed a w
  | 0, listed, a, h => by rw [Nat.zero_add]; exact hL _ _ h
  | f + 1, listed, a, h => by
    rw [show f + 1 + g = (f + g) + 1 by omega]
    exact ⟨fun h0 => absurd h0 h.1, fun i hi => man_wpOpIn_of_stOp hd (fun a' h' => man_wpAnyIn_of_head hd hL f _ a' h') (h.2 i hi).2⟩
theorem man_wpAnyIn_of_seq {Q' : Exit → Act → World → Prop} {F : Fence} : ∀ (l : List Oper) (k : Nat) (listed : Array Bool) (a : Act) (w : World), (∀ j, l[j]? = ops[k + j]?) →
    Region.seqB md ops l.length k listed = true → wpListIn F m P ops Q' l a w → wpAnyIn F m P md ops Q' l.length listed a w
  | [], _, _, _, _, _, hB, h => ⟨by simpa [Region.seqB] using hB, h⟩
  | o :: l, k, listed, a, w, hl, hB, h => by
    have h0 : ops[k]? = some o := by simpa using (hl 0).symm
    simp only [List.length_cons, Region.seqB, Bool.and_eq_true, decide_eq_true_eq] at hB
    refine ⟨fun h1 => (by rw [hB.1] at h1; cases h1), fun i hi => ?_⟩
    rw [hB.1] at hi
    have hik : i = k := by simpa using hi
    subst hik
    have hw : wpOpIn F m P ops Q' i (wpListIn F m P ops Q' l) a w := by unfold wpOpIn; simp only [h0]; exact h
    exact wpOpIn_mono (fun a' w' h' => man_wpAnyIn_of_seq l (i + 1) _ a' w' (fun j => by have := hl (j + 1); simpa [Nat.add_assoc, Nat.add_comm 1 j] using this) hB.2 h') hw
theorem man_region_round_tail {id : Nat} {Q : Exit → Act → World → Prop} {a : Act} {w : World} {l : List Oper} (n : Nat) (hm : P.follows .mixedOrders = true) (hB : Region.lexTailB .any l.toArray n = true) (hdB : l.all man_notDefer = true)
    (h : wpStill P l.toArray { w with drawn := w.drawn + 1 } (fun a' => wpListIn (Fence.wide.inRound lr) m P l.toArray Q (l.drop n) a' { w with drawn := w.drawn + 1 }) (l.take n) a) : (Code.region id l.toArray true).wpIn (Fence.wide.inRound lr) m P Q a w := by
  simp only [Region.lexTailB, Bool.and_eq_true, decide_eq_true_eq] at hB
  obtain ⟨⟨⟨⟨hsel, hn⟩, hs⟩, hc⟩, hlex⟩ := hB
  have hd : ∀ (j : Nat) o, l.toArray[j]? = some o → man_notDefer o = true := fun j o ho => List.all_eq_true.1 hdB o (by rw [List.getElem?_toArray] at ho; exact List.mem_of_getElem? ho)
  have hn' : n < l.length := by simpa using hn
  have htl : (l.take n).length = n := by simp; omega
  have hdl : (l.drop n).length = l.toArray.size - n := by simp
  have inv0 : HeadInv .any l.toArray n (Array.replicate l.toArray.size false) :=
    ⟨by simp, fun j oj _ hl => (by rw [getD_replicate_false] at hl; cases hl), fun t _ ht => getD_in (by simpa using ht) (getD_replicate_false _ _)⟩
  have H := wpAnyL_lex (md := .any) (g := l.toArray.size - n) hsel hs hc hn (l.take n) 0 _ a (fun j hj => by
    have hj' : j < n := by rw [htl] at hj; exact hj
    simp [hj']) (by simpa using htl) inv0 (by rw [htl]; exact hlex) h
  refine wpIn_region_any hm ?_
  have := man_wpAnyIn_of_head (Q' := Q) (g := l.toArray.size - n) hd (fun listed a' hL => by
    have := man_wpAnyIn_of_seq (md := .any) (Q' := Q) (F := Fence.wide.inRound lr) (m := m) (P := P) (l.drop n) n listed a' { w with drawn := w.drawn + 1 } (fun j => by simp [List.getElem?_drop]) (by rw [hdl]; exact hL.1) hL.2
    rwa [hdl] at this) _ _ _ H
  rw [htl, show n + (l.toArray.size - n) = l.toArray.size by omega] at this
  exact this
end

/-- One bit more: a new byte of ones where the last one is full; a zero is taken out of them. -/
def huff_room (at_ : Nat) (out : List Int) : List Int := if at_ % 8 = 0 then out ++ [255] else out
def huff_put1 (b : Int) (at_ : Nat) (out : List Int) : List Int :=
  if b = 1 then huff_room at_ out else (huff_room at_ out).set (at_ / 8) (bits .andNot .u8 (rd (huff_room at_ out) (at_ / 8 : Nat)) (128 / 2 ^ (at_ % 8)))
def huff_pack : List Int → Nat → List Int → List Int
  | [], _, out => out
  | b :: bs, i, out => huff_pack bs (i + 1) (huff_put1 b i out)
theorem huff_pack_snoc : ∀ (a : List Int) (b : Int) (i : Nat) (out : List Int), huff_pack (a ++ [b]) i out = huff_put1 b (i + a.length) (huff_pack a i out)
  | [], b, i, out => rfl
  | x :: a, b, i, out => by
    simp only [List.cons_append, huff_pack, List.length_cons]
    rw [huff_pack_snoc a b (i + 1)]
    congr 1
    omega
theorem huff_room_length (i : Nat) (out : List Int) (h : out.length = (i + 7) / 8) : (huff_room i out).length = (i + 1 + 7) / 8 := by
  unfold huff_room
  split
  · rw [List.length_append, h]; simp; omega
  · omega
theorem huff_put1_length (b : Int) (i : Nat) (out : List Int) (h : out.length = (i + 7) / 8) : (huff_put1 b i out).length = (i + 1 + 7) / 8 := by
  unfold huff_put1
  split
  · exact huff_room_length i out h
  · rw [List.length_set]; exact huff_room_length i out h
theorem huff_pack_length : ∀ (a : List Int) (i : Nat) (out : List Int), out.length = (i + 7) / 8 → (huff_pack a i out).length = (i + a.length + 7) / 8
  | [], i, out, h => h
  | x :: a, i, out, h => by
    rw [huff_pack, huff_pack_length a (i + 1) _ (huff_put1_length x i out h)]
    simp only [List.length_cons]
    omega
theorem huff_low_length (c : Int) : ∀ j, (huff_low c j).length = j
  | 0 => rfl
  | j + 1 => by simp [huff_low, huff_low_length c j]
theorem huff_enc_length_le : ∀ l : List Int, (∀ c ∈ l, 0 ≤ c ∧ c < 256) → (huff_enc l).length ≤ 30 * l.length
  | [], _ => by simp [huff_enc]
  | c :: r, h => by
    have ih := huff_enc_length_le r (fun x hx => h x (List.mem_cons_of_mem _ hx))
    have hc := h c List.mem_cons_self
    have h1 := huff_w_bd c.toNat (by omega)
    rw [show ((c.toNat : Nat) : Int) = c by omega] at h1
    rw [huff_enc, List.length_append, huff_low_length]
    simp only [List.length_cons]
    omega
def huff_Put.f (a0 : ByteArray) : Option (List Int × Int) := if 65536 < a0.size then some ([], 3) else some (huff_pack (huff_enc (bytesOf a0)) 0 [], 0)
theorem huff_Kp_of {W W' : World} {row : Option Nat} (hg : W.grownBy W' row) (hr : ∀ r, row = some r → ∃ cs t, W.heap[r]? = some (.cells cs t (0, 0)) ∧ ¬ (t = 9 ∨ t = 141 ∨ t = 142)) : huff_Kp W W' := by
  intro g cs t fr ht hc
  refine (hg.block g (Array.getElem?_eq_some_iff.1 hc).1 (fun e => ?_)).trans hc
  obtain ⟨cs', t', h1, h2⟩ := hr g e.symm
  rw [hc] at h1
  cases h1
  exact h2 ht
theorem huff_Kp_trans {A B C : World} (h : huff_Kp A B) (k : huff_Kp B C) : huff_Kp A C := fun g cs t fr ht hc => k g cs t fr ht (h g cs t fr ht hc)
theorem huff_low_01 (c : Int) : ∀ j, ∀ b ∈ huff_low c j, b = 0 ∨ b = 1
  | 0, b, h => by cases h
  | j + 1, b, h => by
    rw [huff_low] at h
    rcases List.mem_cons.1 h with rfl | h
    · omega
    · exact huff_low_01 c j b h
theorem huff_enc_01 : ∀ l, ∀ b ∈ huff_enc l, b = 0 ∨ b = 1
  | [], b, h => by cases h
  | c :: r, b, h => by
    rw [huff_enc] at h
    rcases List.mem_append.1 h with h | h
    · exact huff_low_01 _ _ b h
    · exact huff_enc_01 r b h
/-- What holds of huff.Put's memory: what is written so far, behind so many bits. -/
def huff_St (w : World) (W : World) (out : List Int) (at_ : Nat) : Prop :=
  ∃ v, Boxed W w.heap.size 23 v ∧ W.ownsRow w.heap.size 5 1 v out.length (nums .u8 out) ∧ Boxed W (w.heap.size + 1) 3 (.int .i64 at_) ∧ (∃ u, Boxed W (w.heap.size + 2) 9 u) ∧ Below w.heap.size w W
theorem huff_grow {w W w1 : World} {v v' u : Value} {k m : Nat} {xs ys : List Value} {at_ : Value} {tmp : Obj} (hv : Boxed W w.heap.size 23 v) (ho : W.ownsRow w.heap.size 5 1 v k xs) (hat : Boxed W (w.heap.size + 1) 3 at_) (hu : Boxed W (w.heap.size + 2) 9 u) (hB : Below w.heap.size w W)
    (hown' : w1.ownsRow w.heap.size 5 1 v' m ys) (hgrow : (W.alloc tmp).grownBy w1 v.ownBlock) :
    KeepsOthers W (w1.setCell ⟨w.heap.size, 0, none⟩ v') ∧ huff_Kp W (w1.setCell ⟨w.heap.size, 0, none⟩ v') ∧ Boxed (w1.setCell ⟨w.heap.size, 0, none⟩ v') w.heap.size 23 v' ∧ (w1.setCell ⟨w.heap.size, 0, none⟩ v').ownsRow w.heap.size 5 1 v' m ys ∧
      Boxed (w1.setCell ⟨w.heap.size, 0, none⟩ v') (w.heap.size + 1) 3 at_ ∧ Boxed (w1.setCell ⟨w.heap.size, 0, none⟩ v') (w.heap.size + 2) 9 u ∧ Below w.heap.size w (w1.setCell ⟨w.heap.size, 0, none⟩ v') := by
  obtain ⟨hv1, hv2, hr2, hk2, hb2⟩ := hv.appended (by decide) ho hB.size (Nat.le_refl _) hown' hgrow
  refine ⟨hk2, huff_Kp_trans (huff_Kp_of (World.grownBy_alloc W tmp none) (fun r e => by cases e)) (huff_Kp_trans (huff_Kp_of hgrow (fun r e => ?_)) (huff_Kp_of (grownBy_setCell' w1 w.heap.size v') (fun r e => ?_))), hv2, hr2, ((hat.alloc _).kept hgrow (hat.not_row (by decide) ho)).other (by omega) _, ((hu.alloc _).kept hgrow (hu.not_row (by decide) ho)).other (by omega) _, hB.trans hb2⟩
  · obtain ⟨cells, hc⟩ := own_typed ho r e
    exact ⟨_, _, (Below.heap_alloc W tmp r (Array.getElem?_eq_some_iff.1 hc).1).trans hc, by decide⟩
  · cases e
    exact ⟨_, _, hv1, by decide⟩
theorem huff_store {w W : World} {u : Value} {g' cap' : Nat} {R : List Int} {at_ : Value} (q : Nat) (x : Int) (hv : Boxed W w.heap.size 23 (.slice (some ⟨g', 0, none⟩) R.length cap')) (ho : W.ownsRow w.heap.size 5 1 (.slice (some ⟨g', 0, none⟩) R.length cap') R.length (nums .u8 R)) (hat : Boxed W (w.heap.size + 1) 3 at_) (hu : Boxed W (w.heap.size + 2) 9 u) (hB : Below w.heap.size w W) :
    KeepsOthers W (W.drew.setCell ⟨g', q, none⟩ (.int .u8 x)) ∧ huff_Kp W (W.drew.setCell ⟨g', q, none⟩ (.int .u8 x)) ∧ Boxed (W.drew.setCell ⟨g', q, none⟩ (.int .u8 x)) w.heap.size 23 (.slice (some ⟨g', 0, none⟩) R.length cap') ∧ (W.drew.setCell ⟨g', q, none⟩ (.int .u8 x)).ownsRow w.heap.size 5 1 (.slice (some ⟨g', 0, none⟩) R.length cap') R.length (nums .u8 (R.set q x)) ∧
      Boxed (W.drew.setCell ⟨g', q, none⟩ (.int .u8 x)) (w.heap.size + 1) 3 at_ ∧ Boxed (W.drew.setCell ⟨g', q, none⟩ (.int .u8 x)) (w.heap.size + 2) 9 u ∧ Below w.heap.size w (W.drew.setCell ⟨g', q, none⟩ (.int .u8 x)) := by
  have ho' : W.drew.ownsRow w.heap.size 5 1 (.slice (some ⟨g', 0, none⟩) R.length cap') R.length (nums .u8 R) := ho
  obtain ⟨h1, h2⟩ := own_store ho' (q : Int) x
  rw [Int.toNat_natCast] at h1 h2
  have hv' : Boxed W.drew w.heap.size 23 (.slice (some ⟨g', 0, none⟩) R.length cap') := hv
  have hat' : Boxed W.drew (w.heap.size + 1) 3 at_ := hat
  have hu' : Boxed W.drew (w.heap.size + 2) 9 u := hu
  have hB' : Below w.heap.size w W.drew := below_drew1 hB
  refine ⟨(KeepsOthers.drew W).trans (KeepsOthers.setCell _ _ _), huff_Kp_of (W := W.drew) h2 (fun r e => ?_), hv'.kept h2 (hv'.not_row (by decide) ho'), h1, hat'.kept h2 (hat'.not_row (by decide) ho'), hu'.kept h2 (hu'.not_row (by decide) ho'), hB'.grown h2 hB'.size (fun k e => ?_)⟩
  · cases e
    obtain ⟨cells, hc⟩ := own_typed ho' g' rfl
    exact ⟨_, _, hc, by decide⟩
  · cases e
    exact own_base ho' g' rfl
theorem huff_count {w W : World} {v u : Value} {R : List Int} {at_ : Value} (n : Nat) (hv : Boxed W w.heap.size 23 v) (ho : W.ownsRow w.heap.size 5 1 v R.length (nums .u8 R)) (hat : Boxed W (w.heap.size + 1) 3 at_) (hu : Boxed W (w.heap.size + 2) 9 u) (hB : Below w.heap.size w W) :
    KeepsOthers W (W.setCell ⟨w.heap.size + 1, 0, none⟩ (.int .i64 ((n : Int) + 1))) ∧ huff_Kp W (W.setCell ⟨w.heap.size + 1, 0, none⟩ (.int .i64 ((n : Int) + 1))) ∧ huff_St w (W.setCell ⟨w.heap.size + 1, 0, none⟩ (.int .i64 ((n : Int) + 1))) R (n + 1) := by
  have h2 := grownBy_setCell' W (w.heap.size + 1) (.int .i64 ((n : Int) + 1))
  refine ⟨KeepsOthers.setCell _ _ _, huff_Kp_of h2 (fun r e => ?_), v, hv.kept h2 (by simp), ho.kept h2 ?_, ?_, ⟨u, hu.kept h2 (by simp)⟩, hB.grown h2 hB.size (fun k e => by cases e; omega)⟩
  · cases e
    exact ⟨_, _, hat, by decide⟩
  · exact .inr (fun e => hat.not_row (by decide) ho e.symm)
  · have := hat.set (.int .i64 ((n : Int) + 1))
    have e : (n : Int) + 1 = ((n + 1 : Nat) : Int) := by omega
    rw [e] at this ⊢
    exact this
section
attribute [local go_sem] Oper.semAt_some
set_option maxHeartbeats 3200000 in
set_option maxRecDepth 100000 in
theorem huff_Put.great (a0 : ByteArray) (w : World) (hsz : a0.size ≤ 65536) :
    Calls Tryz.prog 13 #[.string a0] w fun e w' => ∃ v, e = .returned (.tuple #[v, .int .i64 0]) ∧ Kd.R (Kd.int .u8) 5 w' w.heap.size (fun _ => True) v (huff_pack (huff_enc (bytesOf a0)) 0 []) ∧ Below w.heap.size w w' := by
  have hd1 : decide (65536 < (a0.size : Int)) = false := decide_eq_false (by omega)
  obtain ⟨i0, hi, hzz⟩ := Option.map_eq_some_iff.1 man_info_u8
  simp only [Prod.mk.injEq] at hzz
  obtain ⟨hz0, hz1, hz2⟩ := hzz
  refine (callsIn_wide (n := 6)).1 ?_
  have hro : Fence.wide.round = none := rfl
  refine callsIn_of_wp_marks Tryz.func13 rfl trivial ?_ hro
  simp only [Tryz.ntmps13, List.size_toArray, List.length_cons, List.length_nil, Nat.reduceAdd, Nat.reduceSub, Array.replicate_succ, Array.replicate_zero, List.push_toArray, List.append_toArray, List.nil_append, List.cons_append]
  gi_wp2
  refine ⟨trivial, (callsIn_wide.2 (huff_bits.calls _ _)).mono ?_⟩
  rintro e w' ⟨rfl, rfl⟩
  gi_wp2
  obtain ⟨W2, hW2⟩ : ∃ W2, ((w.alloc (Obj.cells #[Value.slice none 0 0] 23)).alloc (Obj.cells #[Value.int IntKind.i64 0] 3)).alloc (Obj.cells #[Value.string a0] 9) = W2 := ⟨_, rfl⟩
  have hsz2 : W2.heap.size = w.heap.size + 3 := by rw [← hW2]; simp
  have hbox : Boxed W2 (w.heap.size + 1 + 1) 9 (.string a0) := by
    rw [← hW2]
    have := Boxed.new ((w.alloc (Obj.cells #[Value.slice none 0 0] 23)).alloc (Obj.cells #[Value.int IntKind.i64 0] 3)) 9 (.string a0)
    simpa using this
  have hat0 : Boxed W2 (w.heap.size + 1) 3 (.int .i64 0) := by
    rw [← hW2]
    have := (Boxed.new (w.alloc (Obj.cells #[Value.slice none 0 0] 23)) 3 (.int .i64 0)).alloc (Obj.cells #[Value.string a0] 9)
    simpa using this
  have hout : Boxed W2 w.heap.size 23 (.slice none 0 0) := by
    rw [← hW2]
    exact ((Boxed.new w 23 (.slice none 0 0)).alloc _).alloc _
  have hbel : Below w.heap.size w W2 := by
    rw [← hW2]
    exact ((((Below.refl _ w).alloc (Nat.le_refl _) _).alloc (by simp) _).alloc (by simp; omega) _)
  have HST0 := Aside0.mk (show huff_St w W2 (huff_pack [] 0 []) ([] : List Int).length from ⟨_, hout, World.ownsRow_nil _ _ _ _, hat0, ⟨_, hbox⟩, hbel⟩)
  rw [hW2]
  have HSZ := Aside0.mk hsz2
  clear hW2 hsz2 hat0 hout hbel
  refine wpIn_runs2 (n := 6) hro (by omega) (gf := 87) (lb := #[.pointer (some ⟨w.heap.size + 1 + 1, 0, none⟩)]) rfl trivial (enters_of Tryz.func87 (by kernel_rfl) rfl)
    (huff_bits.runs 5 (by omega) (w.heap.size + 1 + 1) a0 (by omega) W2 hbox) (by rw [HSZ.out]; omega) (fun h1 h2 => huff_Kp_trans h1 h2) ?hKb (fun _ => rfl)
    (fun pre W => huff_St w W (huff_pack pre 0 []) pre.length) ?hI HST0.out ?a1 ?assign ?body ?done
  case assign =>
    intro l x W K hK
    gi_wp2
    exact hK
  case hKb =>
    intro W l o o' hl ho g cs t fr _ hc
    refine (World.putObj_heap_other (fun e => ?_)).trans hc
    subst e
    rw [hl] at hc
    cases hc
    cases ho
  case hI =>
    rintro s X Y row ⟨v, hv, ho, hat, ⟨u, hu⟩, hB⟩ hg hr
    have hne : ∀ r, row = some r → r ≠ w.heap.size ∧ r ≠ w.heap.size + 1 ∧ some r ≠ v.ownBlock ∧ w.heap.size ≤ r ∧ (r = w.heap.size + 2 → ∃ u, Boxed Y (w.heap.size + 2) 9 u) := by
      intro r e
      rcases hr r e with ⟨rfl, hu'⟩ | ⟨hr1, o, hro1, hro2⟩
      · exact ⟨by omega, by omega, hu.not_row (by decide) ho, by omega, fun _ => hu'⟩
      · rw [HSZ.out] at hr1
        refine ⟨by omega, by omega, fun e2 => ?_, by omega, fun e2 => ?_⟩
        · obtain ⟨cells, hc⟩ := own_typed ho r e2.symm
          rw [hc] at hro1; cases hro1; cases hro2
        · omega
    refine ⟨v, hv.kept hg (fun e => (hne _ e.symm).1 rfl), ho.kept hg ?_, hat.kept hg (fun e => (hne _ e.symm).2.1 rfl), ?_, hB.grown hg hB.size (fun k e => (hne k e).2.2.2.1)⟩
    · cases hvb : v.ownBlock with
      | none => exact .inl rfl
      | some k => exact .inr (fun e => (hne k e.symm).2.2.1 hvb.symm)
    · by_cases e : row = some (w.heap.size + 2)
      · exact (hne _ e).2.2.2.2 rfl
      · exact ⟨u, hu.kept hg (fun e2 => e e2.symm)⟩
  case body =>
    rintro l pre x rest W hx hl ⟨v, hv, ho, hat, ⟨u, hu⟩, hB⟩
    have hx01 : x = 0 ∨ x = 1 := huff_enc_01 (bytesOf a0) x (by rw [hx]; simp)
    have hlen : pre.length + 1 ≤ 1966080 := by
      have h1 := huff_enc_length_le (bytesOf a0) (man_bytesOf_bd a0)
      rw [hx, man_bytesOf_length] at h1
      simp at h1
      omega
    have hpl := huff_pack_length pre 0 [] rfl
    have HX := Aside0.mk (huff_pack_snoc pre x 0 [])
    clear hx
    rw [Nat.zero_add] at hpl HX
    obtain ⟨out, hout⟩ : ∃ out, huff_pack pre 0 [] = out := ⟨_, rfl⟩
    rw [hout] at ho hpl HX
    obtain ⟨n, hn⟩ : ∃ n, pre.length = n := ⟨_, rfl⟩
    rw [hn] at hat hlen hpl HX
    have HN := Aside0.mk hn
    have HV := Aside0.mk hv
    have HU := Aside0.mk hu
    have HB := Aside0.mk hB
    have HO := Aside0.mk ho
    have HAT := Aside0.mk hat
    have hc := hv.cell
    have hf := hv.frozen
    have hca := hat.cell
    have hfa := hat.frozen
    have HPL := Aside0.mk hpl
    clear hv hu hB ho hat hout hn hpl
    by_cases h8 : n % 8 = 0
    · have h8b : ((n : Int) % 8 == 0) = true := beq_iff_eq.mpr (by omega)
      gi_upto_region 9 with (gi_at_builtin; go_must (refine wpListIn_append_own _ rfl _ _ 23 rfl w.heap.size 5 i0 (.int .u8 0) 1 1 Tryz.underlying23 hi hz0 hz1 hz2 rfl (by decide) _ _ _ rfl (HO.out.alloc _) ⟨W.heap.size, 0, none⟩ 1 1 [.int .u8 255] rfl rfl (cell_one_new _ _ _) (by simp [Value.oneCell']) (by simp only [maxLen]; have := HPL.out; omega) (by have := HPL.out; omega) (by have := HB.out.size; simp; omega) ?_; intro v' w1 hown' hgrow _; obtain ⟨g', cap', rfl⟩ := ownsRow_succ hown'; have hv1 := (HV.out.alloc _).kept hgrow (HV.out.not_row (by decide) HO.out); have hc1 := hv1.cell; have hf1 := hv1.frozen))
      obtain ⟨hk3, hkp3, hv3, hr3, ha3, hu3, hb3⟩ := huff_grow HV.out HO.out HAT.out HU.out HB.out hown' hgrow
      have e255 : nums .u8 out ++ [Value.int .u8 255] = nums .u8 (huff_room n out) := by rw [huff_room, if_pos h8]; simp [nums]
      rw [e255] at hr3
      clear hown' hgrow hv1 hc1 hf1 hc hf hca hfa e255
      generalize w1.setCell ⟨w.heap.size, 0, none⟩ (Value.slice (some { block := g', off := 0 }) (out.length + 1) cap') = W3 at hk3 hkp3 hv3 hr3 ha3 hu3 hb3 ⊢
      have eL : out.length + 1 = (huff_room n out).length := by rw [huff_room, if_pos h8, List.length_append]; rfl
      rw [eL] at hv3 hr3 ⊢
      clear eL h8b h8
      have hRl : n / 8 < (huff_room n out).length := by rw [huff_room_length n out HPL.out]; omega
      have hx2 := HX.out
      rw [huff_put1] at hx2
      have hlB : (huff_room n out).length ≤ 1966081 := by rw [huff_room_length n out HPL.out]; omega
      generalize huff_room n out = R at hv3 hr3 hRl hx2 hlB ⊢
      have HX := Aside0.mk hx2
      have HK3 := Aside0.mk hk3
      have HKP3 := Aside0.mk hkp3
      have HV3 := Aside0.mk hv3
      have HR3 := Aside0.mk hr3
      have HA3 := Aside0.mk ha3
      have HU3 := Aside0.mk hu3
      have HB3 := Aside0.mk hb3
      have hc3 := hv3.cell
      have hf3 := hv3.frozen
      have hca3 := ha3.cell
      have hfa3 := ha3.frozen
      clear hx2 hk3 hkp3 hv3 hr3 ha3 hu3 hb3 HV HU HB HO HAT
      rcases hx01 with rfl | rfl
      · obtain ⟨q, hq⟩ : ∃ q, n / 8 = q := ⟨_, rfl⟩
        obtain ⟨m, hm⟩ : ∃ m, n % 8 = m := ⟨_, rfl⟩
        obtain ⟨hx8, hf8⟩ := own_at HR3.out ((q : Nat) : Int) (by omega) (by omega)
        rw [Int.toNat_natCast] at hx8 hf8
        have hq0 : (0 : Int) ≤ (q : Int) := by omega
        have hq1 : (q : Int) < R.length := by omega
        have hm1 : (m : Int) < 8 := by omega
        have hdv : IntKind.i64.wrap ((n : Int) / 8) = (q : Int) := by rw [IntWalk.i64_in _ (by omega)]; omega
        have hmd : (n : Int).tmod 8 = (m : Int) := by rw [Int.tmod_eq_emod_of_nonneg (by omega)]; omega
        have hm0 : (0 : Int) ≤ (m : Int) := by omega
        have hx2 := HX.out
        rw [hq, hm, if_neg (by decide)] at hx2
        have HX := Aside0.mk hx2
        clear hx2 hq hm
        gi_upto_region 10 with (fail)
        have hmix : Tryz.prog.follows .mixedOrders = true := by kernel_rfl
        refine man_region_round_tail 10 hmix (by kernel_rfl) (by kernel_rfl) ?_
        simp only [List.take_succ_cons, List.take_zero, List.drop_succ_cons, List.drop_zero]
        repeat still_step
        refine wpStill_nil ?_
        change wpListIn _ _ _ _ _ _ _ (World.drew _)
        clear hmix hdv hmd
        gi_upto_region 11 with (fail)
        have hcl := huff_store q (bits .andNot .u8 (rd R (q : Int)) (128 / 2 ^ m)) HV3.out HR3.out HA3.out HU3.out HB3.out
        have hlR : (R.set q (bits .andNot .u8 (rd R (q : Int)) (128 / 2 ^ m))).length = R.length := List.length_set
        clear hx8 hf8 hc3 hf3 hca3 hfa3
        simp only [World.setCell_drew] at hcl
        obtain ⟨hk4, hkp4, hv4, hr4, ha4, hu4, hb4⟩ := hcl
        rw [← hlR] at hv4 hr4
        generalize (W3.setCell ⟨g', q, none⟩ (Value.int .u8 (bits .andNot .u8 (rd R (q : Int)) (128 / 2 ^ m)))).drew = W4 at hk4 hkp4 hv4 hr4 ha4 hu4 hb4 ⊢
        have hca4 := ha4.cell
        have hfa4 := ha4.frozen
        obtain ⟨hk5, hkp5, hst⟩ := huff_count n hv4 hr4 ha4 hu4 hb4
        have HFIN := Aside0.mk (show roundGoes huff_Kp (fun pre W => huff_St w W (huff_pack pre 0 []) pre.length) (pre ++ [0]) W .normal ⟨#[], []⟩ (W4.setCell ⟨w.heap.size + 1, 0, none⟩ (.int .i64 ((n : Int) + 1))) from
          ⟨(HK3.out.trans hk4).trans hk5, huff_Kp_trans (huff_Kp_trans HKP3.out hkp4) hkp5, by show huff_St w _ (huff_pack (pre ++ [0]) 0 []) (pre ++ [0]).length; rw [HX.out, List.length_append, HN.out]; exact hst⟩)
        clear hk4 hkp4 hv4 hr4 ha4 hu4 hb4 hk5 hkp5 hst
        gi_wp2
        exact HFIN.out
      · have hx2 := HX.out
        rw [if_pos rfl] at hx2
        obtain ⟨hk5, hkp5, hst⟩ := huff_count n HV3.out HR3.out HA3.out HU3.out HB3.out
        have HFIN := Aside0.mk (show roundGoes huff_Kp (fun pre W => huff_St w W (huff_pack pre 0 []) pre.length) (pre ++ [1]) W .normal ⟨#[], []⟩ (W3.setCell ⟨w.heap.size + 1, 0, none⟩ (.int .i64 ((n : Int) + 1))) from
          ⟨HK3.out.trans hk5, huff_Kp_trans HKP3.out hkp5, by show huff_St w _ (huff_pack (pre ++ [1]) 0 []) (pre ++ [1]).length; rw [hx2, List.length_append, HN.out]; exact hst⟩)
        clear hk5 hkp5 hst hx2
        gi_wp2
        exact HFIN.out
    · have h8b : ((n : Int) % 8 == 0) = false := beq_eq_false_iff_ne.mpr (by omega)
      obtain ⟨g', cap', rfl, -, -⟩ := HO.out.form (by have := HPL.out; omega)
      gi_upto_region 9 with (fail)
      have hk3 := KeepsOthers.refl W
      have hkp3 : huff_Kp W W := fun _ _ _ _ _ h => h
      have hv3 := HV.out
      have hr3 := HO.out
      have ha3 := HAT.out
      have hu3 := HU.out
      have hb3 := HB.out
      have eR : huff_room n out = out := by rw [huff_room, if_neg h8]
      rw [← eR] at hv3 hr3
      clear hc hf hca hfa h8b h8 eR
      have hRl : n / 8 < (huff_room n out).length := by rw [huff_room_length n out HPL.out]; omega
      have hx2 := HX.out
      rw [huff_put1] at hx2
      have hlB : (huff_room n out).length ≤ 1966081 := by rw [huff_room_length n out HPL.out]; omega
      generalize huff_room n out = R at hv3 hr3 hRl hx2 hlB ⊢
      have HX := Aside0.mk hx2
      have HK3 := Aside0.mk hk3
      have HKP3 := Aside0.mk hkp3
      have HV3 := Aside0.mk hv3
      have HR3 := Aside0.mk hr3
      have HA3 := Aside0.mk ha3
      have HU3 := Aside0.mk hu3
      have HB3 := Aside0.mk hb3
      have hc3 := hv3.cell
      have hf3 := hv3.frozen
      have hca3 := ha3.cell
      have hfa3 := ha3.frozen
      clear hx2 hk3 hkp3 hv3 hr3 ha3 hu3 hb3 HV HU HB HO HAT
      rcases hx01 with rfl | rfl
      · obtain ⟨q, hq⟩ : ∃ q, n / 8 = q := ⟨_, rfl⟩
        obtain ⟨m, hm⟩ : ∃ m, n % 8 = m := ⟨_, rfl⟩
        obtain ⟨hx8, hf8⟩ := own_at HR3.out ((q : Nat) : Int) (by omega) (by omega)
        rw [Int.toNat_natCast] at hx8 hf8
        have hq0 : (0 : Int) ≤ (q : Int) := by omega
        have hq1 : (q : Int) < R.length := by omega
        have hm1 : (m : Int) < 8 := by omega
        have hdv : IntKind.i64.wrap ((n : Int) / 8) = (q : Int) := by rw [IntWalk.i64_in _ (by omega)]; omega
        have hmd : (n : Int).tmod 8 = (m : Int) := by rw [Int.tmod_eq_emod_of_nonneg (by omega)]; omega
        have hm0 : (0 : Int) ≤ (m : Int) := by omega
        have hx2 := HX.out
        rw [hq, hm, if_neg (by decide)] at hx2
        have HX := Aside0.mk hx2
        clear hx2 hq hm
        gi_upto_region 10 with (fail)
        have hmix : Tryz.prog.follows .mixedOrders = true := by kernel_rfl
        refine man_region_round_tail 10 hmix (by kernel_rfl) (by kernel_rfl) ?_
        simp only [List.take_succ_cons, List.take_zero, List.drop_succ_cons, List.drop_zero]
        repeat still_step
        refine wpStill_nil ?_
        change wpListIn _ _ _ _ _ _ _ (World.drew _)
        clear hmix hdv hmd
        gi_upto_region 11 with (fail)
        have hcl := huff_store q (bits .andNot .u8 (rd R (q : Int)) (128 / 2 ^ m)) HV3.out HR3.out HA3.out HU3.out HB3.out
        have hlR : (R.set q (bits .andNot .u8 (rd R (q : Int)) (128 / 2 ^ m))).length = R.length := List.length_set
        clear hx8 hf8 hc3 hf3 hca3 hfa3
        simp only [World.setCell_drew] at hcl
        obtain ⟨hk4, hkp4, hv4, hr4, ha4, hu4, hb4⟩ := hcl
        rw [← hlR] at hv4 hr4
        generalize (W.setCell ⟨g', q, none⟩ (Value.int .u8 (bits .andNot .u8 (rd R (q : Int)) (128 / 2 ^ m)))).drew = W4 at hk4 hkp4 hv4 hr4 ha4 hu4 hb4 ⊢
        have hca4 := ha4.cell
        have hfa4 := ha4.frozen
        obtain ⟨hk5, hkp5, hst⟩ := huff_count n hv4 hr4 ha4 hu4 hb4
        have HFIN := Aside0.mk (show roundGoes huff_Kp (fun pre W => huff_St w W (huff_pack pre 0 []) pre.length) (pre ++ [0]) W .normal ⟨#[], []⟩ (W4.setCell ⟨w.heap.size + 1, 0, none⟩ (.int .i64 ((n : Int) + 1))) from
          ⟨(HK3.out.trans hk4).trans hk5, huff_Kp_trans (huff_Kp_trans HKP3.out hkp4) hkp5, by show huff_St w _ (huff_pack (pre ++ [0]) 0 []) (pre ++ [0]).length; rw [HX.out, List.length_append, HN.out]; exact hst⟩)
        clear hk4 hkp4 hv4 hr4 ha4 hu4 hb4 hk5 hkp5 hst
        gi_wp2
        exact HFIN.out
      · have hx2 := HX.out
        rw [if_pos rfl] at hx2
        obtain ⟨hk5, hkp5, hst⟩ := huff_count n HV3.out HR3.out HA3.out HU3.out HB3.out
        have HFIN := Aside0.mk (show roundGoes huff_Kp (fun pre W => huff_St w W (huff_pack pre 0 []) pre.length) (pre ++ [1]) W .normal ⟨#[], []⟩ (W.setCell ⟨w.heap.size + 1, 0, none⟩ (.int .i64 ((n : Int) + 1))) from
          ⟨HK3.out.trans hk5, huff_Kp_trans HKP3.out hkp5, by show huff_St w _ (huff_pack (pre ++ [1]) 0 []) (pre ++ [1]).length; rw [hx2, List.length_append, HN.out]; exact hst⟩)
        clear hk5 hkp5 hst hx2
        gi_wp2
        exact HFIN.out
  case done =>
    rintro D W hD ⟨v, hv, ho, hat, ⟨u, hu⟩, hB⟩ hK
    have hc := hv.cell
    have hf := hv.frozen
    have HV := Aside0.mk hv
    have HU := Aside0.mk hu
    have HB := Aside0.mk hB
    have HO := Aside0.mk ho
    clear hv hu hB ho hat
    gi_wp2
    refine ⟨by simp, .inl ⟨_, _, rfl, run_takeDeferred hK, ?_⟩⟩
    refine ⟨.tuple #[v, .int .i64 0], ?_, ⟨v, rfl, man_R_of_own (ownsRow_putObj HO.out _ hK rfl), HB.out.trans (belowK_b (w := w) (Nat.le_refl _) W D _ _ (by rw [HSZ.out] at hD; omega) hK rfl rfl)⟩⟩
    simp [results, Tryz.results13, go_sem]
end
theorem huff_Put.calls (a0 : ByteArray) (r1 : List Int) (r2 : Int) (w : World) (h : huff_Put.f a0 = some (r1, r2)) :
    Calls Tryz.prog 13 #[.string a0] w fun e w' => ∃ v0_ : Value, e = .returned (.tuple #[v0_, .int .i64 r2]) ∧ Kd.R (Kd.int .u8) 5 w' w.heap.size (fun _ => True) v0_ r1 ∧ Below w.heap.size w w' := by
  unfold huff_Put.f at h
  by_cases hb : 65536 < a0.size
  · rw [if_pos hb] at h
    simp only [Option.some.injEq, Prod.mk.injEq] at h
    obtain ⟨rfl, rfl⟩ := h
    have hd1 : decide (65536 < (a0.size : Int)) = true := decide_eq_true (by omega)
    go_enter Tryz.func13, Tryz.ntmps13
    go_wp2
    go_ret2
    exact ⟨_, rfl, Kd.R_nil _ _ _ _ _, Below.refl _ _⟩
  · rw [if_neg hb] at h
    simp only [Option.some.injEq, Prod.mk.injEq] at h
    obtain ⟨rfl, rfl⟩ := h
    exact huff_Put.great a0 w (by omega)

theorem text_wide.t (a1 : Int) (h : 2 ≤ a1) (h8 : a1 ≤ 8) : text_wide.f a1 = some true := by unfold text_wide.f; rw [if_pos h, decide_eq_true h8]
theorem text_wide.n (a1 : Int) (h : a1 < 2 ∨ 8 < a1) : text_wide.f a1 = some false := by
  unfold text_wide.f
  by_cases h2 : a1 ≥ 2
  · rw [if_pos h2, decide_eq_false (by omega)]
  · rw [if_neg h2]

theorem text_plain.calls (w : World) : Calls Tryz.prog 11 #[] w fun e w' => e = .returned (.func (.func 56) #[] #[]) ∧ w' = w := by
  go_enter Tryz.func11, Tryz.ntmps11
  go_wp2
  go_ret
  exact ⟨rfl, rfl⟩
theorem text_plain1.calls (s : ByteArray) (w : World) (hs : s.size ≤ 140737488351232) :
    Calls Tryz.prog 56 #[.string s] w fun e w' => ∃ A c, e = .returned (.tuple #[.slice A s.size c, .int .i64 0]) ∧ ReadsInt w' .u8 A s.size (bytesOf s) ∧ Below w.heap.size w w' := by
  have kb := fun W => print_bytes (P := Tryz.prog) 9 23 5 Tryz.underlying9 Tryz.underlying23 Tryz.underlying5 s W
  go_enter Tryz.func56, Tryz.ntmps56
  go_wp2
  go_ret2
  exact ⟨_, _, rfl, bytes_reads w _ s (by omega), bytes_below (Below.refl _ _) (Nat.le_refl _) _ _⟩
/-- What text.Put makes, behind what stands in the first byte. -/
def text_Put.out (first bits : Int) (b : List Int) : List Int :=
  (if (b.length : Int) < varint_GetPrefix.M (bits - 1) then [first + b.length] else (first + varint_GetPrefix.M (bits - 1)) :: varint_sevens.L 9 (b.length - varint_GetPrefix.M (bits - 1))) ++ b
def text_Put.f (a0 a1 : Int) (a2 : ByteArray) : Option (List Int × Int) :=
  if a1 < 2 ∨ 8 < a1 then some ([], 1)
  else if a0 < 0 ∨ 256 ≤ a0 then none
  else if a0 % 2 ^ a1.toNat ≠ 0 then some ([], 1)
  else if 65536 < a2.size then some ([], 3)
  else if (huff_sum (bytesOf a2) + 7) / 8 < a2.size then some (text_Put.out (a0 + 2 ^ (a1 - 1).toNat) a1 (huff_pack (huff_enc (bytesOf a2)) 0 []), 0)
  else some (text_Put.out a0 a1 (bytesOf a2), 0)
theorem text_Put.arith (a1 a0 : Int) (h2 : 2 ≤ a1) (h8 : a1 ≤ 8) (x0 : 0 ≤ a0) (x1 : a0 < 256) :
    bits .and .u8 a0 ((2 ^ a1.toNat - 1) % 256) = a0 % 2 ^ a1.toNat ∧ (a0 % 2 ^ a1.toNat = 0 → bits .or .u8 a0 (2 ^ (a1 - 1).toNat % 256) = a0 + 2 ^ (a1 - 1).toNat ∧ a0 + 2 ^ (a1 - 1).toNat < 256 ∧ (a0 + 2 ^ (a1 - 1).toNat) % 2 ^ (a1 - 1).toNat = 0 ∧ a0 % 2 ^ (a1 - 1).toNat = 0) := by
  obtain ⟨n, rfl⟩ := Int.eq_ofNat_of_zero_le x0
  have hn : n < 256 := by omega
  have key : (List.range 256).all (fun n => (List.range 9).all fun b => decide (b < 2) || (decide (bits .and .u8 (n : Int) ((2 ^ b - 1) % 256) = (n : Int) % 2 ^ b) && (decide ((n : Int) % 2 ^ b ≠ 0) || (decide (bits .or .u8 (n : Int) (2 ^ (b - 1) % 256) = (n : Int) + 2 ^ (b - 1)) && decide ((n : Int) + 2 ^ (b - 1) < 256) && decide (((n : Int) + 2 ^ (b - 1)) % 2 ^ (b - 1) = 0) && decide ((n : Int) % 2 ^ (b - 1) = 0))))) = true := by decide +kernel
  obtain ⟨b, rfl⟩ := Int.eq_ofNat_of_zero_le (show 0 ≤ a1 by omega)
  have h := List.all_eq_true.1 (List.all_eq_true.1 key n (List.mem_range.2 hn)) b (List.mem_range.2 (by omega))
  rw [show ((b : Int) - 1).toNat = b - 1 by omega, Int.toNat_natCast]
  simp only [Bool.or_eq_true, Bool.and_eq_true, decide_eq_true_eq] at h
  rcases h with h | ⟨h1, h3⟩
  · omega
  · refine ⟨h1, fun h0 => ?_⟩
    rcases h3 with h3 | ⟨⟨⟨g1, g2⟩, g3⟩, g4⟩
    · exact absurd h0 h3
    · exact ⟨g1, g2, g3, g4⟩
theorem text_Put.prefix (first bits : Int) (n : Nat) (h1 : 2 ≤ bits) (h8 : bits ≤ 8) (f0 : 0 ≤ first) (f1 : first < 256) (hm : first % 2 ^ (bits - 1).toNat = 0) (hn : (n : Int) ≤ 4611686018427387903) :
    varint_PutPrefix.f first (bits - 1) n = some (if (n : Int) < varint_GetPrefix.M (bits - 1) then [first + n] else (first + varint_GetPrefix.M (bits - 1)) :: varint_sevens.L 9 (n - varint_GetPrefix.M (bits - 1)), 0) := by
  unfold varint_PutPrefix.f
  rw [if_neg (by omega), if_neg (by omega), if_neg (by rw [hm]; simp)]
  by_cases h : (n : Int) < varint_GetPrefix.M (bits - 1)
  · rw [if_pos h, if_pos h]
  · rw [if_neg h, if_neg h]
theorem text_Put.prefix_length (first bits : Int) (n : Nat) : (if (n : Int) < varint_GetPrefix.M (bits - 1) then [first + n] else (first + varint_GetPrefix.M (bits - 1)) :: varint_sevens.L 9 (n - varint_GetPrefix.M (bits - 1))).length ≤ 12 := by
  split
  · simp
  · have := varint_sevens.L_length 9 (n - varint_GetPrefix.M (bits - 1))
    simp only [List.length_cons]
    omega
set_option maxHeartbeats 1600000 in
set_option maxRecDepth 100000 in
theorem text_Put.bad (a0 a1 : Int) (a2 : ByteArray) (w : World) (h : a1 < 2 ∨ 8 < a1) :
    Calls Tryz.prog 5 #[.int .u8 a0, .int .i64 a1, .string a2] w fun e w' => e = .returned (.tuple #[.slice none 0 0, .int .i64 1]) ∧ Below w.heap.size w w' := by
  have HW := Aside0.mk (text_wide.n a1 h)
  clear h
  go_enter Tryz.func5, Tryz.ntmps5
  go_wp2_with (go_at_call 10; refine (text_wide.calls a1 false _ HW.out).mono ?_; rintro e w1 ⟨rfl, hd⟩; have HB1 := Aside0.mk hd.below; clear hd)
  go_ret2
  exact ⟨rfl, HB1.out⟩
set_option maxHeartbeats 1600000 in
set_option maxRecDepth 100000 in
theorem text_Put.set (a0 a1 : Int) (a2 : ByteArray) (w : World) (h2 : 2 ≤ a1) (h8 : a1 ≤ 8) (x0 : 0 ≤ a0) (x1 : a0 < 256) (hs : a0 % 2 ^ a1.toNat ≠ 0 ∨ 65536 < a2.size) :
    Calls Tryz.prog 5 #[.int .u8 a0, .int .i64 a1, .string a2] w fun e w' => e = .returned (.tuple #[.slice none 0 0, .int .i64 (if a0 % 2 ^ a1.toNat ≠ 0 then 1 else 3)]) ∧ Below w.heap.size w w' := by
  have HW := Aside0.mk (text_wide.t a1 h2 h8)
  have HA := Aside0.mk (text_Put.arith a1 a0 h2 h8 x0 x1)
  have hand := HA.out.1
  obtain ⟨K, hK⟩ : ∃ K, a0 % 2 ^ a1.toNat = K := ⟨_, rfl⟩
  rw [hK] at hand hs ⊢
  go_enter Tryz.func5, Tryz.ntmps5
  by_cases hk : K = 0
  · subst hk
    have hl : (65536 : Int) < a2.size := by omega
    go_wp2_with (go_at_call 10; refine (text_wide.calls a1 true _ HW.out).mono ?_; rintro e w1 ⟨rfl, hd⟩; have HB1 := Aside0.mk hd.below; clear hd)
    go_ret2
    exact ⟨rfl, HB1.out⟩
  · have hk1 : (K != 0) = true := bne_iff_ne.2 hk
    rw [if_pos hk]
    clear hs hk
    go_wp2_with (go_at_call 10; refine (text_wide.calls a1 true _ HW.out).mono ?_; rintro e w1 ⟨rfl, hd⟩; have HB1 := Aside0.mk hd.below; clear hd)
    go_ret2
    exact ⟨rfl, HB1.out⟩
theorem text_Put.len (s : ByteArray) (h : s.size ≤ 65536) : huff_Len.f s = some ((huff_sum (bytesOf s) + 7) / 8) := by unfold huff_Len.f; rw [if_pos (by omega)]
theorem man_reads_below {w w1 : World} {k : IntKind} {A : Option Addr} {n : Nat} {xs : List Int} (h : ReadsInt w k A n xs) (hb : Below w.heap.size w w1) (hlt : ∀ ad, A = some ad → 0 < n → ad.block < w.heap.size) : ReadsInt w1 k A n xs :=
  ⟨h.1, h.2.1, fun hp => by
    obtain ⟨ad, e, hc⟩ := h.2.2 hp
    refine ⟨ad, e, fun j hj => ?_⟩
    refine Eq.trans ?_ (hc j hj)
    refine hb.cell ?_
    have : (ad.add j).block = ad.block := by unfold Addr.add; split <;> rfl
    rw [this]
    exact hlt ad e hp⟩
set_option maxHeartbeats 1600000 in
set_option maxRecDepth 100000 in
theorem text_Put.few (a0 a1 : Int) (a2 : ByteArray) (w : World) (h2 : 2 ≤ a1) (h8 : a1 ≤ 8) (x0 : 0 ≤ a0) (x1 : a0 < 256) (hs : a0 % 2 ^ a1.toNat = 0) (hsz : a2.size ≤ 65536) (hlt : (huff_sum (bytesOf a2) + 7) / 8 < a2.size) :
    Calls Tryz.prog 5 #[.int .u8 a0, .int .i64 a1, .string a2] w fun e w' => ∃ v, e = .returned (.tuple #[v, .int .i64 0]) ∧ Kd.R (Kd.int .u8) 5 w' w.heap.size (fun _ => True) v (text_Put.out (a0 + 2 ^ (a1 - 1).toNat) a1 (huff_pack (huff_enc (bytesOf a2)) 0 [])) ∧ Below w.heap.size w w' := by
  have HW := Aside0.mk (text_wide.t a1 h2 h8)
  obtain ⟨hand, hA⟩ := text_Put.arith a1 a0 h2 h8 x0 x1
  obtain ⟨hor, hF1, hF2, hF3⟩ := hA hs
  rw [hs] at hand
  have hb := huff_sum_bd (bytesOf a2) (man_bytesOf_bd a2)
  have HLN := Aside0.mk (text_Put.len a2 hsz)
  have HPK := Aside0.mk (huff_pack_length (huff_enc (bytesOf a2)) 0 [] rfl)
  have HEL := Aside0.mk (huff_enc_length_le (bytesOf a2) (man_bytesOf_bd a2))
  have hpl : (huff_pack (huff_enc (bytesOf a2)) 0 []).length ≤ 300000 := by
    have h1 := HPK.out
    have h3 := HEL.out
    rw [man_bytesOf_length] at h3
    omega
  have HPUT := Aside0.mk (show huff_Put.f a2 = some (huff_pack (huff_enc (bytesOf a2)) 0 [], 0) by unfold huff_Put.f; rw [if_neg (by omega)])
  obtain ⟨L, hL⟩ : ∃ L, (huff_sum (bytesOf a2) + 7) / 8 = L := ⟨_, rfl⟩
  rw [hL] at hlt
  rw [hL] at HLN
  obtain ⟨F, hF⟩ : ∃ F, a0 + 2 ^ (a1 - 1).toNat = F := ⟨_, rfl⟩
  rw [hF] at hor hF1 hF2 ⊢
  have hor2 : bits .or .u8 a0 (2 ^ (a1.toNat - 1) % 256) = F := by rw [show a1.toNat - 1 = (a1 - 1).toNat by omega]; exact hor
  clear hor
  have hF0 : 0 ≤ F := by rw [← hF]; have hp : (0 : Int) < 2 ^ (a1 - 1).toNat := Int.pow_pos (by decide); omega
  obtain ⟨pk, hpk⟩ : ∃ pk, huff_pack (huff_enc (bytesOf a2)) 0 [] = pk := ⟨_, rfl⟩
  rw [hpk] at HPUT hpl ⊢
  have HPF := Aside0.mk (text_Put.prefix F a1 pk.length h2 h8 hF0 hF1 hF2 (by omega))
  have HPN := Aside0.mk (text_Put.prefix_length F a1 pk.length)
  rw [text_Put.out]
  obtain ⟨pf, hpf⟩ : ∃ pf, (if (pk.length : Int) < varint_GetPrefix.M (a1 - 1) then [F + pk.length] else (F + varint_GetPrefix.M (a1 - 1)) :: varint_sevens.L 9 (pk.length - varint_GetPrefix.M (a1 - 1))) = pf := ⟨_, rfl⟩
  rw [hpf] at HPF HPN ⊢
  have hl0 : (L < (a2.size : Int)) := hlt
  have hdl : decide (L < (a2.size : Int)) = true := decide_eq_true hlt
  clear hs hA hb hL hF hpk hpf hF2 hF3 HPK HEL
  go_enter Tryz.func5, Tryz.ntmps5
  go_wp2_with (first | (go_at_call 10; refine (text_wide.calls a1 true _ HW.out).mono ?_; rintro e w1 ⟨rfl, hd⟩; have HB1 := Aside0.mk hd.below; clear hd) | (go_at_call 11; refine (text_plain.calls _).mono ?_; rintro e w2 ⟨rfl, rfl⟩) | (go_at_call 12; refine (huff_Len.calls a2 L _ HLN.out).mono ?_; rintro e w3 ⟨rfl, hd⟩; have HB3 := Aside0.mk (below_step HB1.out hd); clear hd) | (go_at_call 13; refine (huff_Put.calls a2 pk 0 _ HPUT.out).mono ?_; rintro e w4 ⟨v4, rfl, hr4, hd⟩; have HB4 := Aside0.mk (below_step HB3.out hd); obtain ⟨A4, c4, rfl⟩ := Kd.R_slice hr4; have HR4 := Aside0.mk (own_reads' (k := .u8) (show w4.ownsRow w3.heap.size 5 1 (.slice A4 pk.length c4) pk.length (nums .u8 pk) from Kd.own_of_R hr4)); clear hd hr4) | (go_at_call 14; refine (varint_PutPrefix.calls F (a1 - 1) pk.length pf 0 _ HPF.out).mono ?_; rintro e w5 ⟨v5, rfl, hr5, hd⟩; have HB5 := Aside0.mk (below_step HB4.out hd); have HRD := Aside0.mk (ReadsInt.below HR4.out hd); have HR5 := Aside0.mk (own_weaken (Kd.own_of_R hr5) HB4.out.size); clear hd hr5) | (at_builtin; refine print_append_row (w0 := w) w.heap.size rfl (.tmp 61) (.tmp 62) 23 5 .u8 1 rfl Tryz.underlying23 man_info_u8 (by decide) v5 pf pk A4 pk.length c4 rfl rfl HR5.out HRD.out HB5.out HB5.out.size (by have := HPN.out; omega) ?_; intro v6 w6 ho6 hb6 hg6 hat6; have HO6 := Aside0.mk ho6; have HB6 := Aside0.mk hb6; clear ho6 hb6 hg6 hat6))
  go_ret2
  exact ⟨_, rfl, man_R_of_own HO6.out, HB6.out⟩
set_option maxHeartbeats 1600000 in
set_option maxRecDepth 100000 in
theorem text_Put.plain (a0 a1 : Int) (a2 : ByteArray) (w : World) (h2 : 2 ≤ a1) (h8 : a1 ≤ 8) (x0 : 0 ≤ a0) (x1 : a0 < 256) (hs : a0 % 2 ^ a1.toNat = 0) (hsz : a2.size ≤ 65536) (hlt : ¬ (huff_sum (bytesOf a2) + 7) / 8 < a2.size) :
    Calls Tryz.prog 5 #[.int .u8 a0, .int .i64 a1, .string a2] w fun e w' => ∃ v, e = .returned (.tuple #[v, .int .i64 0]) ∧ Kd.R (Kd.int .u8) 5 w' w.heap.size (fun _ => True) v (text_Put.out a0 a1 (bytesOf a2)) ∧ Below w.heap.size w w' := by
  have HW := Aside0.mk (text_wide.t a1 h2 h8)
  obtain ⟨hand, hA⟩ := text_Put.arith a1 a0 h2 h8 x0 x1
  obtain ⟨hor, hF1, hF2, hF3⟩ := hA hs
  rw [hs] at hand
  have hb := huff_sum_bd (bytesOf a2) (man_bytesOf_bd a2)
  have HLN := Aside0.mk (text_Put.len a2 hsz)
  obtain ⟨L, hL⟩ : ∃ L, (huff_sum (bytesOf a2) + 7) / 8 = L := ⟨_, rfl⟩
  rw [hL] at hlt
  rw [hL] at HLN
  have HPF := Aside0.mk (text_Put.prefix a0 a1 a2.size h2 h8 x0 x1 hF3 (by omega))
  have HPN := Aside0.mk (text_Put.prefix_length a0 a1 a2.size)
  rw [text_Put.out, man_bytesOf_length]
  obtain ⟨pf, hpf⟩ : ∃ pf, (if (a2.size : Int) < varint_GetPrefix.M (a1 - 1) then [a0 + a2.size] else (a0 + varint_GetPrefix.M (a1 - 1)) :: varint_sevens.L 9 (a2.size - varint_GetPrefix.M (a1 - 1))) = pf := ⟨_, rfl⟩
  rw [hpf] at HPF HPN ⊢
  have hdl : decide (L < (a2.size : Int)) = false := decide_eq_false hlt
  have hge : (a2.size : Int) ≤ L := by omega
  clear hs hA hb hL hpf hF2 hF3 hF1 hor hlt
  go_enter Tryz.func5, Tryz.ntmps5
  go_wp2_with (first | (go_at_call 10; refine (text_wide.calls a1 true _ HW.out).mono ?_; rintro e w1 ⟨rfl, hd⟩; have HB1 := Aside0.mk hd.below; clear hd) | (go_at_call 11; refine (text_plain.calls _).mono ?_; rintro e w2 ⟨rfl, rfl⟩) | (go_at_call 12; refine (huff_Len.calls a2 L _ HLN.out).mono ?_; rintro e w3 ⟨rfl, hd⟩; have HB3 := Aside0.mk (below_step HB1.out hd); clear hd) | (go_at_call 56; refine (text_plain1.calls a2 _ (by omega)).mono ?_; rintro e w4 ⟨A4, c4, rfl, hr4, hd⟩; have HB4 := Aside0.mk (below_step HB3.out hd); have HR4 := Aside0.mk hr4; clear hd hr4) | (go_at_call 14; refine (varint_PutPrefix.calls a0 (a1 - 1) a2.size pf 0 _ HPF.out).mono ?_; rintro e w5 ⟨v5, rfl, hr5, hd⟩; have HB5 := Aside0.mk (below_step HB4.out hd); have HRD := Aside0.mk (ReadsInt.below HR4.out hd); have HR5 := Aside0.mk (own_weaken (Kd.own_of_R hr5) HB4.out.size); clear hd hr5) | (at_builtin; refine print_append_row (w0 := w) w.heap.size rfl (.tmp 61) (.tmp 62) 23 5 .u8 1 rfl Tryz.underlying23 man_info_u8 (by decide) v5 pf (bytesOf a2) A4 a2.size c4 rfl rfl HR5.out HRD.out HB5.out HB5.out.size (by have := HPN.out; omega) ?_; intro v6 w6 ho6 hb6 hg6 hat6; have HO6 := Aside0.mk ho6; have HB6 := Aside0.mk hb6; clear ho6 hb6 hg6 hat6))
  go_ret2
  exact ⟨_, rfl, man_R_of_own HO6.out, HB6.out⟩
theorem text_Put.calls (a0 a1 : Int) (a2 : ByteArray) (r1 : List Int) (r2 : Int) (w : World) (h : text_Put.f a0 a1 a2 = some (r1, r2)) :
    Calls Tryz.prog 5 #[.int .u8 a0, .int .i64 a1, .string a2] w fun e w' => ∃ v0_ : Value, e = .returned (.tuple #[v0_, .int .i64 r2]) ∧ Kd.R (Kd.int .u8) 5 w' w.heap.size (fun _ => True) v0_ r1 ∧ Below w.heap.size w w' := by
  unfold text_Put.f at h
  by_cases hb : a1 < 2 ∨ 8 < a1
  · rw [if_pos hb] at h
    simp only [Option.some.injEq, Prod.mk.injEq] at h
    obtain ⟨rfl, rfl⟩ := h
    exact (text_Put.bad a0 a1 a2 w hb).mono fun e w' ⟨he, hB⟩ => ⟨_, he, Kd.R_nil _ _ _ _ _, hB⟩
  · rw [if_neg hb] at h
    by_cases hr : a0 < 0 ∨ 256 ≤ a0
    · rw [if_pos hr] at h
      cases h
    · rw [if_neg hr] at h
      by_cases hm : a0 % 2 ^ a1.toNat ≠ 0
      · rw [if_pos hm] at h
        simp only [Option.some.injEq, Prod.mk.injEq] at h
        obtain ⟨rfl, rfl⟩ := h
        have hc := text_Put.set a0 a1 a2 w (by omega) (by omega) (by omega) (by omega) (.inl hm)
        rw [if_pos hm] at hc
        exact hc.mono fun e w' ⟨he, hB⟩ => ⟨_, he, Kd.R_nil _ _ _ _ _, hB⟩
      · rw [if_neg hm] at h
        by_cases hz : 65536 < a2.size
        · rw [if_pos hz] at h
          simp only [Option.some.injEq, Prod.mk.injEq] at h
          obtain ⟨rfl, rfl⟩ := h
          have hc := text_Put.set a0 a1 a2 w (by omega) (by omega) (by omega) (by omega) (.inr hz)
          rw [if_neg hm] at hc
          exact hc.mono fun e w' ⟨he, hB⟩ => ⟨_, he, Kd.R_nil _ _ _ _ _, hB⟩
        · rw [if_neg hz] at h
          have hm0 : a0 % 2 ^ a1.toNat = 0 := by omega
          by_cases hl : (huff_sum (bytesOf a2) + 7) / 8 < a2.size
          · rw [if_pos hl] at h
            simp only [Option.some.injEq, Prod.mk.injEq] at h
            obtain ⟨rfl, rfl⟩ := h
            exact text_Put.few a0 a1 a2 w (by omega) (by omega) (by omega) (by omega) hm0 (by omega) hl
          · rw [if_neg hl] at h
            simp only [Option.some.injEq, Prod.mk.injEq] at h
            obtain ⟨rfl, rfl⟩ := h
            exact text_Put.plain a0 a1 a2 w (by omega) (by omega) (by omega) (by omega) hm0 (by omega) hl


end Go.Proofs.YtmkmefdajbdceaaGreatDoor.PTQ
