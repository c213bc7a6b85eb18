-- Written by wip/mprint.py (the kit's printer, and texts of this claim's own for what it does not take). Not trusted: Lean checks it.
import Derived.Test.YtmkmefdajbdceaaDoorPVQx0
namespace Go.Proofs.YtmkmefdajbdceaaDoor.PVQ
open Go.RowKit Go.Proofs.YtmkmefdajbdceaaDoorW.PrintWords Go.Proofs.YtmkmefdajbdceaaDoorW.PrintLast Go.Proofs.YtmkmefdajbdceaaDoorW.PrintMore
attribute [local go_sem] max2_int min2_int max_two min_two max_three min_three max_four min_four   -- for this text's walks alone
set_option linter.unusedVariables false
set_option linter.unusedSimpArgs false

/-! ### varint_sevens: function 57, by hand -/
/-! ### A range over a function whose iterator may write a variable of its own (block Bn), and whose rounds all go on -/
section
variable {F : Fence} {n : Nat} {P : Program}
/-- What an iterator may do beside its rounds: lay blocks; write block Bn. -/
def StepsOf {β : Type} (Bn : Nat) (tn : TypeId) (J : β → World → Prop) : Prop :=
  ∀ s W W' (row : Option Nat), J s W → W.grownBy W' row → (∀ r, row = some r → r = Bn ∧ ∃ u, Boxed W' Bn tn u) → J s W'
/-- The iterator's contract: it hands the rounds just xs, one by one. Kp: what each round keeps. -/
def SeqRuns {α : Type} (F : Fence) (n : Nat) (P : Program) (g : Nat) (lb : Array Value) (encs : α → Array Value) (Bn : Nat) (tn : TypeId) (Kp : World → World → Prop) (xs : List α) (w : World) : Prop :=
  ∀ (l : Nat) (J : List α → World → Prop) (W : World), Below w.heap.size w W → StepsOf Bn tn J →
    (∀ pre x rest W1, xs = pre ++ x :: rest → J pre W1 → YieldAt F (n - 1) P l (encs x) W1 fun e W' => e = .returned (.bool true) ∧ J (pre ++ [x]) W' ∧ Kp W1 W') →
    J [] W → CallsIn F n P g (#[.func (.yield l) #[] #[]] ++ lb) W fun e W' => (∃ v, e = .returned v) ∧ J xs W'
/-- How a round's body is left: off its end. -/
def roundGoes {α : Type} (Kp : World → World → Prop) (I : List α → World → Prop) (xs : List α) (W : World) : Exit → Act → World → Prop
  | .normal, _, W' => KeepsOthers W W' ∧ Kp W W' ∧ I xs W'
  | _, _, _ => False
theorem wpIn_runs {α : Type} {g : Operand} {ps : Array Tmp} {assign body : Code} {Q : Exit → Act → World → Prop} {a : Act} {w : World}
    (hro : F.round = none) (h1 : 1 ≤ n) {gf : Nat} {lb : Array Value} (hg : a.eval g = .func (.func gf) #[] lb) (hFg : F.fn gf) (eg : ∀ args w, (callFunc gf args).run P w = .ok (.enter gf args) w)
    {encs : α → Array Value} {Bn : Nat} {tn : TypeId} {Kp : World → World → Prop} {xs : List α} (hseq : SeqRuns F (n - 1) P gf lb encs Bn tn Kp xs w) (hBn : Bn < w.heap.size)
    (hKt : ∀ {A B C : World}, Kp A B → Kp B C → Kp A C) (hKb : ∀ (W : World) (l : Nat) (o : Obj), w.heap.size ≤ l → Kp W (W.putObj l o)) (hps : ∀ x, (encs x).size = ps.size)
    (I : List α → World → Prop) (hI : ∀ s W W' (row : Option Nat), I s W → W.grownBy W' row → (∀ r, row = some r → (r = Bn ∧ ∃ u, Boxed W' Bn tn u) ∨ (w.heap.size ≤ r ∧ ∃ o : Obj, W.heap[r]? = some o ∧ o.isCells = false)) → I s W')
    (h0 : I [] w) (a₁ : α → Act)
    (hassign : ∀ (l : Nat) (x : α) (W : World) (K : Act → World → Prop), K (a₁ x) W → assign.wpIn (F.inRound l) (n - 1 - 1) P (Exit.then K (fun _ _ _ => False)) { tmps := (ps.zip (encs x)).foldl (fun t (p, v) => t.setIfInBounds p v) a.tmps, defers := [] } W)
    (hbody : ∀ (l : Nat) (pre : List α) (x : α) (rest : List α) (W : World), xs = pre ++ x :: rest → w.heap.size ≤ l → I pre W → body.wpIn (F.inRound l) (n - 1 - 1) P (roundGoes Kp I (pre ++ [x]) W) (a₁ x) W)
    (hdone : ∀ (D : Nat) (W : World), w.heap.size ≤ D → I xs W → W.heap[D]? = some (.deferred (some [])) → Q .normal { a with defers := { target := .collected D, args := #[] } :: a.defers } W) :
    (Code.rangeFunc g ps assign body).wpIn F n P Q a w := by
  refine wpIn_rangeFunc ?_
  intro fn hfn
  rw [hro]
  obtain ⟨rec, hrec⟩ : ∃ rec : LoopState → Option Code → Loop, rec = fun st pe => { state := st, pending := pe, fn, tmps := a.tmps, params := ps, assign, body, defers := w.heap.size } := ⟨_, rfl⟩
  obtain ⟨W1, hW1⟩ : ∃ W1, (w.alloc (.deferred (some []))).alloc (.loop (rec .ready none)) = W1 := ⟨_, rfl⟩
  have hL1 : W1.heap[w.heap.size + 1]? = some (.loop (rec .ready none)) := by
    rw [← hW1]; have := World.alloc_heap_new (w.alloc (.deferred (some []))) (.loop (rec .ready none)); rwa [World.size_alloc] at this
  have hK1 : W1.heap[w.heap.size]? = some (.deferred (some [])) := by
    rw [← hW1]; exact (Below.heap_alloc _ _ _ (by simp)).trans (World.alloc_heap_new w _)
  have hI1 : I [] W1 := by
    rw [← hW1]
    exact hI _ _ _ none (hI _ _ _ none h0 (World.grownBy_alloc w _ none) (by simp)) (World.grownBy_alloc _ _ none) (by simp)
  have hb1 : Below w.heap.size w W1 := by rw [← hW1]; exact ((Below.refl _ w).alloc (Nat.le_refl _) _).alloc (by simp) _
  have put_I : ∀ (s : List α) (W : World) (o o' : Obj), I s W → W.heap[w.heap.size + 1]? = some o → o.isCells = false → I s (W.putObj (w.heap.size + 1) o') := fun s W o o' hs hl ho =>
    hI s W _ (some (w.heap.size + 1)) hs (grownBy_putObj' W _ o') (fun r e => by cases e; exact .inr ⟨by omega, o, hl, ho⟩)
  refine ⟨w.heap.size + 1, [{ target := .collected w.heap.size, args := #[] }], W1, { target := .fn (.func gf) lb, args := #[.func (.yield (w.heap.size + 1)) #[] #[]] }, W1, gf,
    #[.func (.yield (w.heap.size + 1)) #[] #[]] ++ lb, W1, ?_, ?_, ?_, ?_, fun _ => h1, ?_⟩
  · rw [← hW1, hrec]; exact run_enterLoop_outer _ _ _ _ _
  · simp only [resolve, hg]
    simp [go_sem]
  · intro f' hf'; simp [Target.leads] at hf'; subst hf'; exact hFg
  · simp [invoke, go_sem, eg]
  · refine (hseq (w.heap.size + 1) (fun pre W => I pre W ∧ W.heap[w.heap.size + 1]? = some (.loop (rec .ready none)) ∧ W.heap[w.heap.size]? = some (.deferred (some []))) W1 hb1 ?_ ?_ ⟨hI1, hL1, hK1⟩).mono ?_
    · intro s A B row hs hg' hr
      refine ⟨hI s A B row hs.1 hg' (fun r e => .inl (hr r e)), ?_, ?_⟩
      · exact (hg'.block _ (Array.getElem?_eq_some_iff.1 hs.2.1).1 (fun e => by have := (hr _ e.symm).1; omega)).trans hs.2.1
      · exact (hg'.block _ (Array.getElem?_eq_some_iff.1 hs.2.2).1 (fun e => by have := (hr _ e.symm).1; omega)).trans hs.2.2
    · rintro pre x rest W hx ⟨hi, hl, hk⟩
      have hlt : w.heap.size + 1 < W.heap.size := (Array.getElem?_eq_some_iff.1 hl).1
      have hy := run_yield (P := P) (args := encs x) hl (by rw [hrec]; exact hps x)
      rw [hrec] at hy
      refine ⟨fn, _, assign, body, hy, roundIn_of_wpIn hfn (hassign _ x W _ ?_)⟩
      clear hy
      refine ⟨_, run_beginRound hl (by rw [hrec]), ?_⟩
      have hl2 : (W.putObj (w.heap.size + 1) (.loop { rec .ready none with state := .busy })).heap[w.heap.size + 1]? = some (.loop { rec .ready none with state := .busy }) := World.putObj_heap_same hlt
      have hk2 : (W.putObj (w.heap.size + 1) (.loop { rec .ready none with state := .busy })).heap[w.heap.size]? = some (.deferred (some [])) := (World.putObj_heap_other (by omega)).trans hk
      have hw2 : Kp W (W.putObj (w.heap.size + 1) (.loop { rec .ready none with state := .busy })) := hKb _ _ _ (by omega)
      refine wpIn_mono (hbody _ pre x rest _ hx (by omega) (put_I _ _ _ _ hi hl rfl)) ?_
      rintro e a3 W3 hp
      cases e with
      | normal =>
        obtain ⟨hk3, hkp3, hi3⟩ := hp
        have hl3 := hk3.same _ _ hl2 rfl
        have hr := run_endRound (P := P) none hl3
        rw [hrec] at hr hl3
        refine ⟨_, _, hr, rfl, ⟨put_I _ _ _ _ hi3 hl3 rfl, ?_, ?_⟩, hKt hw2 (hKt hkp3 (hKb _ _ _ (by omega)))⟩
        · rw [hrec]; exact World.putObj_heap_same (Array.getElem?_eq_some_iff.1 hl3).1
        · exact (World.putObj_heap_other (by omega)).trans (hk3.same _ _ hk2 rfl)
      | ret => exact hp.elim
      | exit id => exact hp.elim
      | goto t => exact hp.elim
      | panic ch => exact hp.elim
      | outgrown => exact hp.elim
    · rintro e W2 ⟨⟨v, rfl⟩, hi, hl, hk⟩
      have he := run_endLoop (P := P) hl (by rw [hrec]; simp)
      rw [hrec] at he
      exact ⟨none, _, he, hdone _ _ (Nat.le_refl _) (put_I _ _ _ _ hi hl rfl) ((World.putObj_heap_other (by omega)).trans hk)⟩
end

def varint_sevens.L : Nat → Int → List Int
  | 0, n => [n % 256]
  | k + 1, n => if 128 ≤ n then (n % 128 + 128) :: varint_sevens.L k (n / 128) else [n]
theorem varint_sevens.calls (n : Int) (w : World) :
    Calls Tryd.prog 57 #[.int .u64 n] w fun e w' => e = .returned (.func (.func 87) #[] #[.pointer (some ⟨w.heap.size, 0, none⟩)]) ∧ w' = w.alloc (.cells #[.int .u64 n] 22) := by
  go_enter Tryd.func57, Tryd.ntmps57
  go_wp2
  go_ret
  exact ⟨rfl, rfl⟩
theorem varint_sevens.or128 (n : Int) : bits .or .u8 (n % 256) 128 = n % 128 + 128 := by
  have h0 : 0 ≤ n % 256 := Int.emod_nonneg _ (by decide)
  have h1 : n % 256 < 256 := Int.emod_lt_of_pos _ (by decide)
  have e : n % 128 = n % 256 % 128 := by omega
  rw [e]
  have hb : n % 256 = (((n % 256).toNat : Nat) : Int) := by omega
  have hl : (n % 256).toNat < 256 := by omega
  rw [hb]
  exact of_decide_eq_true (List.all_eq_true.1 (show (List.range 256).all (fun m => decide (bits .or .u8 (m : Int) 128 = (m : Int) % 128 + 128)) = true by decide +kernel) _ (List.mem_range.2 hl))
/-- What the box holds, for the loop's measure. -/
def boxInt (w : World) (B : Nat) : Nat := match w.cell? ⟨B, 0, none⟩ with | some (.int _ m) => m.toNat | _ => 0
theorem boxInt_of {w : World} {B : Nat} {t : TypeId} {k : IntKind} {m : Int} (h : Boxed w B t (.int k m)) : boxInt w B = m.toNat := by unfold boxInt; rw [h.cell]
set_option maxHeartbeats 1600000 in
set_option maxRecDepth 100000 in
theorem varint_sevens.runs (F : Fence) (N : Nat) (hF : F.fn 87) (hro : F.round = none) (hN : 1 ≤ N) (Bn : Nat) (n : Int) (h0 : 0 ≤ n) (h1 : n < 18446744073709551616) (w : World) (hb : Boxed w Bn 22 (.int .u64 n)) :
    SeqRuns F N Tryd.prog 87 #[.pointer (some ⟨Bn, 0, none⟩)] (fun x => #[.int .u8 x]) Bn 22 (fun W W' => ∀ v, Boxed W Bn 22 v → Boxed W' Bn 22 v) (varint_sevens.L 9 n) w := by
  intro l J W hW hJ hY hJ0
  have hbW : Boxed W Bn 22 (.int .u64 n) := (hW.block Bn hb.lt).trans hb
  refine callsIn_of_wp Tryd.func87 rfl hF ?_ hro
  simp only [Tryd.ntmps87, List.size_toArray, List.length_cons, List.length_nil, Nat.reduceAdd, Nat.reduceSub, Array.replicate_succ, Array.replicate_zero, List.push_toArray, List.append_toArray, List.nil_append, List.cons_append]
  gi_wp2
  gi_loopw [] (fun wr => ∃ (k : Nat) (m : Int) (pre : List Int), Boxed wr Bn 22 (.int .u64 m) ∧ 0 ≤ m ∧ Aside0 (m < 2 ^ (7 * (k + 1))) ∧ varint_sevens.L 9 n = pre ++ varint_sevens.L k m ∧ J pre wr) (fun wr => boxInt wr Bn)
  case atStart => exact ⟨9, n, [], hbW, h0, ⟨by simp only [Nat.reduceMul, Nat.reduceAdd, Int.reducePow]; omega⟩, rfl, hJ0⟩
  case round =>
    obtain ⟨k, m, pre, hB, hm0, hmk, hx, hJs⟩ := hrel
    have hc := hB.cell
    have hf := hB.frozen
    by_cases hge : 128 ≤ m
    · obtain ⟨j, rfl⟩ : ∃ j, k = j + 1 := by
        refine ⟨k - 1, ?_⟩
        rcases Nat.eq_zero_or_pos k with rfl | hk
        · have := hmk.out
          simp only [Nat.reduceMul, Nat.reduceAdd, Int.reducePow] at this
          omega
        · omega
      have hx2 : varint_sevens.L 9 n = pre ++ (m % 128 + 128) :: varint_sevens.L j (m / 128) := by rw [hx]; simp only [varint_sevens.L]; rw [if_pos hge]
      have HX := Aside0.mk hx2
      have hor := varint_sevens.or128 m
      clear hx hx2
      obtain ⟨fn, tmps, assign, body, hy, hR⟩ := hY pre (m % 128 + 128) _ wr HX.out hJs
      gi_wp2
      refine hR.mono ?_
      rintro e W3 ⟨rfl, hJ3, hk3⟩
      have hB3 := hk3 _ hB
      have hc3 := hB3.cell
      have hf3 := hB3.frozen
      gi_wp2
      go_roundw
      case rel =>
        refine ⟨j, m / 128, pre ++ [m % 128 + 128], hB3.set _, by omega, ⟨?_⟩, by rw [HX.out]; simp, hJ _ _ _ (some Bn) hJ3 (grownBy_setCell' W3 Bn _) (fun r e => by cases e; exact ⟨rfl, _, hB3.set _⟩)⟩
        have := hmk.out
        rw [show 7 * (j + 1 + 1) = 7 * (j + 1) + 7 by omega, Int.pow_add] at this
        simp only [Int.reducePow] at this
        omega
      case measure =>
        rw [boxInt_of (hB3.set _), boxInt_of hB]
        omega
    · have hx2 : varint_sevens.L 9 n = pre ++ m :: [] := by
        rw [hx]
        cases k with
        | zero => simp only [varint_sevens.L]; rw [Int.emod_eq_of_lt hm0 (by omega)]
        | succ k => simp only [varint_sevens.L]; rw [if_neg hge]
      have HX := Aside0.mk hx2
      clear hx hx2
      obtain ⟨fn, tmps, assign, body, hy, hR⟩ := hY pre m [] wr HX.out hJs
      gi_wp2
      refine hR.mono ?_
      rintro e W3 ⟨rfl, hJ3, hk3⟩
      gi_wp2
      go_end0
      exact ⟨⟨_, rfl⟩, by rw [HX.out]; exact hJ3⟩


end Go.Proofs.YtmkmefdajbdceaaDoor.PVQ
