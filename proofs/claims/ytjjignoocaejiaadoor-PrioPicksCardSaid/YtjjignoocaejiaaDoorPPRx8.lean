-- Written by wip/mprint.py (the kit's printer, and texts of this claim's own for what it does not take). Not trusted: Lean checks it.
import Derived.Test.YtjjignoocaejiaaDoorPPRx0
import Derived.Test.YtjjignoocaejiaaDoorPPRx4
import Derived.Test.YtjjignoocaejiaaDoorPPRx7
namespace Go.Proofs.YtjjignoocaejiaaDoor.PPR
open Go.RowKit Go.Proofs.YtjjignoocaejiaaDoorW.PrintWords Go.Proofs.YtjjignoocaejiaaDoorW.PrintLast Go.Proofs.YtjjignoocaejiaaDoorW.PrintMore
attribute [local go_sem] max2_int min2_int max_two min_two max_three min_three max_four min_four   -- for this text's walks alone
set_option linter.unusedVariables false
set_option linter.unusedSimpArgs false

/-! ### prio_Parse: function 11, by hand -/
theorem man_R_of_own {w : World} {base : Nat} {e : TypeId} {k : IntKind} {v : Value} {n : Nat} {xs : List Int} (h : w.ownsRow base e 1 v n (nums k xs)) : Kd.R (Kd.int k) e w base (fun _ => True) v xs := by
  have hl : xs.length = n := by have := h.1; simp [nums] at this; exact this
  subst hl
  exact Kd.R_of_own (enc := Value.int k) (h1 := fun _ => rfl) h (fun _ _ => trivial)

/-! ### strings.Index at one byte, strings.HasPrefix and their like: what the library's functions come to -/
theorem lib_IndexByteS (s : ByteArray) (c : Int) (w : World) :
    Calls Tryd.prog 67 #[.string s, .int .u8 c] w fun e w' => e = .returned (.int .i64 (Lib.indexByte s.data.toList c.toNat.toUInt8)) ∧ w' = w := by
  go_enter Tryd.func67, Tryd.ntmps67
  go_wp2
  rw [run_callFunc_extern Tryd.func75 (by kernel_rfl) (by kernel_rfl) (by kernel_rfl) (e := Extern.BytealgIndexByte.indexByte) (by kernel_rfl), Lib.run_indexByteString]
  simp only [Result.andThen]
  rw [Oper.upon_value]
  go_wp2
  go_ret
  exact ⟨rfl, rfl⟩
theorem lib_Index1S (s : ByteArray) (c : UInt8) (w : World) :
    Calls Tryd.prog 59 #[.string s, .string ⟨#[c]⟩] w fun e w' => e = .returned (.int .i64 (Lib.indexByte s.data.toList c)) ∧ w' = w := by
  go_enter Tryd.func59, Tryd.ntmps59
  go_wp2_with (go_at_call 67; refine (lib_IndexByteS s _ _).mono ?_; rintro e w' ⟨rfl, rfl⟩)
  · have h : ([c] == s.toList) = true := by assumption
    go_ret
    refine ⟨?_, rfl⟩
    have e : s.data.toList = [c] := by rw [← Lib.toList_data]; exact (beq_iff_eq.1 h).symm
    rw [e]
    simp [Lib.indexByte]
  · go_ret
    exact ⟨rfl, rfl⟩
theorem lib_Index1 (s : ByteArray) (c : UInt8) (w : World) :
    Calls Tryd.prog 47 #[.string s, .string ⟨#[c]⟩] w fun e w' => e = .returned (.int .i64 (Lib.indexByte s.data.toList c)) ∧ w' = w := by
  go_enter Tryd.func47, Tryd.ntmps47
  go_wp2_with (go_at_call 59; refine (lib_Index1S s c _).mono ?_; rintro e w' ⟨rfl, rfl⟩)
  go_ret
  exact ⟨rfl, rfl⟩

/-! ### A range over a function whose iterator may write a variable of its own (block Bn), and whose rounds all go on -/
section
variable {F : Fence} {n : Nat} {P : Program}
/-- What an iterator may do beside its rounds: lay blocks; write block Bn. -/
def StepsOf {β : Type} (Bn : Nat) (tn : TypeId) (J : β → World → Prop) : Prop :=
  ∀ s W W' (row : Option Nat), J s W → W.grownBy W' row → (∀ r, row = some r → r = Bn ∧ ∃ u, Boxed W' Bn tn u) → J s W'
/-- The iterator's contract: it hands the rounds just xs, one by one. Kp: what each round keeps. -/
def SeqRuns {α : Type} (F : Fence) (n : Nat) (P : Program) (g : Nat) (lb : Array Value) (encs : α → Array Value) (Bn : Nat) (tn : TypeId) (Kp : World → World → Prop) (xs : List α) (w : World) : Prop :=
  ∀ (l : Nat) (J : List α → World → Prop) (W : World), Below w.heap.size w W → StepsOf Bn tn J →
    (∀ pre x rest W1, xs = pre ++ x :: rest → J pre W1 → YieldAt F (n - 1) P l (encs x) W1 fun e W' => e = .returned (.bool true) ∧ J (pre ++ [x]) W' ∧ Kp W1 W') →
    J [] W → CallsIn F n P g (#[.func (.yield l) #[] #[]] ++ lb) W fun e W' => (∃ v, e = .returned v) ∧ J xs W'
/-- How a round's body is left: off its end. -/
def roundGoes {α : Type} (Kp : World → World → Prop) (I : List α → World → Prop) (xs : List α) (W : World) : Exit → Act → World → Prop
  | .normal, _, W' => KeepsOthers W W' ∧ Kp W W' ∧ I xs W'
  | _, _, _ => False
theorem wpIn_runs {α : Type} {g : Operand} {ps : Array Tmp} {assign body : Code} {Q : Exit → Act → World → Prop} {a : Act} {w : World}
    (hro : F.round = none) (h1 : 1 ≤ n) {gf : Nat} {lb : Array Value} (hg : a.eval g = .func (.func gf) #[] lb) (hFg : F.fn gf) (eg : ∀ args w, (callFunc gf args).run P w = .ok (.enter gf args) w)
    {encs : α → Array Value} {Bn : Nat} {tn : TypeId} {Kp : World → World → Prop} {xs : List α} (hseq : SeqRuns F (n - 1) P gf lb encs Bn tn Kp xs w) (hBn : Bn < w.heap.size)
    (hKt : ∀ {A B C : World}, Kp A B → Kp B C → Kp A C) (hKb : ∀ (W : World) (l : Nat) (o : Obj), w.heap.size ≤ l → Kp W (W.putObj l o)) (hps : ∀ x, (encs x).size = ps.size)
    (I : List α → World → Prop) (hI : ∀ s W W' (row : Option Nat), I s W → W.grownBy W' row → (∀ r, row = some r → (r = Bn ∧ ∃ u, Boxed W' Bn tn u) ∨ (w.heap.size ≤ r ∧ ∃ o : Obj, W.heap[r]? = some o ∧ o.isCells = false)) → I s W')
    (h0 : I [] w) (a₁ : α → Act)
    (hassign : ∀ (l : Nat) (x : α) (W : World) (K : Act → World → Prop), K (a₁ x) W → assign.wpIn (F.inRound l) (n - 1 - 1) P (Exit.then K (fun _ _ _ => False)) { tmps := (ps.zip (encs x)).foldl (fun t (p, v) => t.setIfInBounds p v) a.tmps, defers := [] } W)
    (hbody : ∀ (l : Nat) (pre : List α) (x : α) (rest : List α) (W : World), xs = pre ++ x :: rest → w.heap.size ≤ l → I pre W → body.wpIn (F.inRound l) (n - 1 - 1) P (roundGoes Kp I (pre ++ [x]) W) (a₁ x) W)
    (hdone : ∀ (D : Nat) (W : World), w.heap.size ≤ D → I xs W → W.heap[D]? = some (.deferred (some [])) → Q .normal { a with defers := { target := .collected D, args := #[] } :: a.defers } W) :
    (Code.rangeFunc g ps assign body).wpIn F n P Q a w := by
  refine wpIn_rangeFunc ?_
  intro fn hfn
  rw [hro]
  obtain ⟨rec, hrec⟩ : ∃ rec : LoopState → Option Code → Loop, rec = fun st pe => { state := st, pending := pe, fn, tmps := a.tmps, params := ps, assign, body, defers := w.heap.size } := ⟨_, rfl⟩
  obtain ⟨W1, hW1⟩ : ∃ W1, (w.alloc (.deferred (some []))).alloc (.loop (rec .ready none)) = W1 := ⟨_, rfl⟩
  have hL1 : W1.heap[w.heap.size + 1]? = some (.loop (rec .ready none)) := by
    rw [← hW1]; have := World.alloc_heap_new (w.alloc (.deferred (some []))) (.loop (rec .ready none)); rwa [World.size_alloc] at this
  have hK1 : W1.heap[w.heap.size]? = some (.deferred (some [])) := by
    rw [← hW1]; exact (Below.heap_alloc _ _ _ (by simp)).trans (World.alloc_heap_new w _)
  have hI1 : I [] W1 := by
    rw [← hW1]
    exact hI _ _ _ none (hI _ _ _ none h0 (World.grownBy_alloc w _ none) (by simp)) (World.grownBy_alloc _ _ none) (by simp)
  have hb1 : Below w.heap.size w W1 := by rw [← hW1]; exact ((Below.refl _ w).alloc (Nat.le_refl _) _).alloc (by simp) _
  have put_I : ∀ (s : List α) (W : World) (o o' : Obj), I s W → W.heap[w.heap.size + 1]? = some o → o.isCells = false → I s (W.putObj (w.heap.size + 1) o') := fun s W o o' hs hl ho =>
    hI s W _ (some (w.heap.size + 1)) hs (grownBy_putObj' W _ o') (fun r e => by cases e; exact .inr ⟨by omega, o, hl, ho⟩)
  refine ⟨w.heap.size + 1, [{ target := .collected w.heap.size, args := #[] }], W1, { target := .fn (.func gf) lb, args := #[.func (.yield (w.heap.size + 1)) #[] #[]] }, W1, gf,
    #[.func (.yield (w.heap.size + 1)) #[] #[]] ++ lb, W1, ?_, ?_, ?_, ?_, fun _ => h1, ?_⟩
  · rw [← hW1, hrec]; exact run_enterLoop_outer _ _ _ _ _
  · simp only [resolve, hg]
    simp [go_sem]
  · intro f' hf'; simp [Target.leads] at hf'; subst hf'; exact hFg
  · simp [invoke, go_sem, eg]
  · refine (hseq (w.heap.size + 1) (fun pre W => I pre W ∧ W.heap[w.heap.size + 1]? = some (.loop (rec .ready none)) ∧ W.heap[w.heap.size]? = some (.deferred (some []))) W1 hb1 ?_ ?_ ⟨hI1, hL1, hK1⟩).mono ?_
    · intro s A B row hs hg' hr
      refine ⟨hI s A B row hs.1 hg' (fun r e => .inl (hr r e)), ?_, ?_⟩
      · exact (hg'.block _ (Array.getElem?_eq_some_iff.1 hs.2.1).1 (fun e => by have := (hr _ e.symm).1; omega)).trans hs.2.1
      · exact (hg'.block _ (Array.getElem?_eq_some_iff.1 hs.2.2).1 (fun e => by have := (hr _ e.symm).1; omega)).trans hs.2.2
    · rintro pre x rest W hx ⟨hi, hl, hk⟩
      have hlt : w.heap.size + 1 < W.heap.size := (Array.getElem?_eq_some_iff.1 hl).1
      have hy := run_yield (P := P) (args := encs x) hl (by rw [hrec]; exact hps x)
      rw [hrec] at hy
      refine ⟨fn, _, assign, body, hy, roundIn_of_wpIn hfn (hassign _ x W _ ?_)⟩
      clear hy
      refine ⟨_, run_beginRound hl (by rw [hrec]), ?_⟩
      have hl2 : (W.putObj (w.heap.size + 1) (.loop { rec .ready none with state := .busy })).heap[w.heap.size + 1]? = some (.loop { rec .ready none with state := .busy }) := World.putObj_heap_same hlt
      have hk2 : (W.putObj (w.heap.size + 1) (.loop { rec .ready none with state := .busy })).heap[w.heap.size]? = some (.deferred (some [])) := (World.putObj_heap_other (by omega)).trans hk
      have hw2 : Kp W (W.putObj (w.heap.size + 1) (.loop { rec .ready none with state := .busy })) := hKb _ _ _ (by omega)
      refine wpIn_mono (hbody _ pre x rest _ hx (by omega) (put_I _ _ _ _ hi hl rfl)) ?_
      rintro e a3 W3 hp
      cases e with
      | normal =>
        obtain ⟨hk3, hkp3, hi3⟩ := hp
        have hl3 := hk3.same _ _ hl2 rfl
        have hr := run_endRound (P := P) none hl3
        rw [hrec] at hr hl3
        refine ⟨_, _, hr, rfl, ⟨put_I _ _ _ _ hi3 hl3 rfl, ?_, ?_⟩, hKt hw2 (hKt hkp3 (hKb _ _ _ (by omega)))⟩
        · rw [hrec]; exact World.putObj_heap_same (Array.getElem?_eq_some_iff.1 hl3).1
        · exact (World.putObj_heap_other (by omega)).trans (hk3.same _ _ hk2 rfl)
      | ret => exact hp.elim
      | exit id => exact hp.elim
      | goto t => exact hp.elim
      | panic ch => exact hp.elim
      | outgrown => exact hp.elim
    · rintro e W2 ⟨⟨v, rfl⟩, hi, hl, hk⟩
      have he := run_endLoop (P := P) hl (by rw [hrec]; simp)
      rw [hrec] at he
      exact ⟨none, _, he, hdone _ _ (Nat.le_refl _) (put_I _ _ _ _ hi hl rfl) ((World.putObj_heap_other (by omega)).trans hk)⟩
end

/-! ### The same, where a round keeps what it keeps of a loop's own block alone -/
section
variable {F : Fence} {n : Nat} {P : Program}
theorem wpIn_runs2 {α : Type} {g : Operand} {ps : Array Tmp} {assign body : Code} {Q : Exit → Act → World → Prop} {a : Act} {w : World}
    (hro : F.round = none) (h1 : 1 ≤ n) {gf : Nat} {lb : Array Value} (hg : a.eval g = .func (.func gf) #[] lb) (hFg : F.fn gf) (eg : ∀ args w, (callFunc gf args).run P w = .ok (.enter gf args) w)
    {encs : α → Array Value} {Bn : Nat} {tn : TypeId} {Kp : World → World → Prop} {xs : List α} (hseq : SeqRuns F (n - 1) P gf lb encs Bn tn Kp xs w) (hBn : Bn < w.heap.size)
    (hKt : ∀ {A B C : World}, Kp A B → Kp B C → Kp A C) (hKb : ∀ (W : World) (l : Nat) (o o' : Obj), W.heap[l]? = some o → o.isCells = false → Kp W (W.putObj l o')) (hps : ∀ x, (encs x).size = ps.size)
    (I : List α → World → Prop) (hI : ∀ s W W' (row : Option Nat), I s W → W.grownBy W' row → (∀ r, row = some r → (r = Bn ∧ ∃ u, Boxed W' Bn tn u) ∨ (w.heap.size ≤ r ∧ ∃ o : Obj, W.heap[r]? = some o ∧ o.isCells = false)) → I s W')
    (h0 : I [] w) (a₁ : α → Act)
    (hassign : ∀ (l : Nat) (x : α) (W : World) (K : Act → World → Prop), K (a₁ x) W → assign.wpIn (F.inRound l) (n - 1 - 1) P (Exit.then K (fun _ _ _ => False)) { tmps := (ps.zip (encs x)).foldl (fun t (p, v) => t.setIfInBounds p v) a.tmps, defers := [] } W)
    (hbody : ∀ (l : Nat) (pre : List α) (x : α) (rest : List α) (W : World), xs = pre ++ x :: rest → w.heap.size ≤ l → I pre W → body.wpIn (F.inRound l) (n - 1 - 1) P (roundGoes Kp I (pre ++ [x]) W) (a₁ x) W)
    (hdone : ∀ (D : Nat) (W : World), w.heap.size ≤ D → I xs W → W.heap[D]? = some (.deferred (some [])) → Q .normal { a with defers := { target := .collected D, args := #[] } :: a.defers } W) :
    (Code.rangeFunc g ps assign body).wpIn F n P Q a w := by
  refine wpIn_rangeFunc ?_
  intro fn hfn
  rw [hro]
  obtain ⟨rec, hrec⟩ : ∃ rec : LoopState → Option Code → Loop, rec = fun st pe => { state := st, pending := pe, fn, tmps := a.tmps, params := ps, assign, body, defers := w.heap.size } := ⟨_, rfl⟩
  obtain ⟨W1, hW1⟩ : ∃ W1, (w.alloc (.deferred (some []))).alloc (.loop (rec .ready none)) = W1 := ⟨_, rfl⟩
  have hL1 : W1.heap[w.heap.size + 1]? = some (.loop (rec .ready none)) := by
    rw [← hW1]; have := World.alloc_heap_new (w.alloc (.deferred (some []))) (.loop (rec .ready none)); rwa [World.size_alloc] at this
  have hK1 : W1.heap[w.heap.size]? = some (.deferred (some [])) := by
    rw [← hW1]; exact (Below.heap_alloc _ _ _ (by simp)).trans (World.alloc_heap_new w _)
  have hI1 : I [] W1 := by
    rw [← hW1]
    exact hI _ _ _ none (hI _ _ _ none h0 (World.grownBy_alloc w _ none) (by simp)) (World.grownBy_alloc _ _ none) (by simp)
  have hb1 : Below w.heap.size w W1 := by rw [← hW1]; exact ((Below.refl _ w).alloc (Nat.le_refl _) _).alloc (by simp) _
  have put_I : ∀ (s : List α) (W : World) (o o' : Obj), I s W → W.heap[w.heap.size + 1]? = some o → o.isCells = false → I s (W.putObj (w.heap.size + 1) o') := fun s W o o' hs hl ho =>
    hI s W _ (some (w.heap.size + 1)) hs (grownBy_putObj' W _ o') (fun r e => by cases e; exact .inr ⟨by omega, o, hl, ho⟩)
  refine ⟨w.heap.size + 1, [{ target := .collected w.heap.size, args := #[] }], W1, { target := .fn (.func gf) lb, args := #[.func (.yield (w.heap.size + 1)) #[] #[]] }, W1, gf,
    #[.func (.yield (w.heap.size + 1)) #[] #[]] ++ lb, W1, ?_, ?_, ?_, ?_, fun _ => h1, ?_⟩
  · rw [← hW1, hrec]; exact run_enterLoop_outer _ _ _ _ _
  · simp only [resolve, hg]
    simp [go_sem]
  · intro f' hf'; simp [Target.leads] at hf'; subst hf'; exact hFg
  · simp [invoke, go_sem, eg]
  · refine (hseq (w.heap.size + 1) (fun pre W => I pre W ∧ W.heap[w.heap.size + 1]? = some (.loop (rec .ready none)) ∧ W.heap[w.heap.size]? = some (.deferred (some []))) W1 hb1 ?_ ?_ ⟨hI1, hL1, hK1⟩).mono ?_
    · intro s A B row hs hg' hr
      refine ⟨hI s A B row hs.1 hg' (fun r e => .inl (hr r e)), ?_, ?_⟩
      · exact (hg'.block _ (Array.getElem?_eq_some_iff.1 hs.2.1).1 (fun e => by have := (hr _ e.symm).1; omega)).trans hs.2.1
      · exact (hg'.block _ (Array.getElem?_eq_some_iff.1 hs.2.2).1 (fun e => by have := (hr _ e.symm).1; omega)).trans hs.2.2
    · rintro pre x rest W hx ⟨hi, hl, hk⟩
      have hlt : w.heap.size + 1 < W.heap.size := (Array.getElem?_eq_some_iff.1 hl).1
      have hy := run_yield (P := P) (args := encs x) hl (by rw [hrec]; exact hps x)
      rw [hrec] at hy
      refine ⟨fn, _, assign, body, hy, roundIn_of_wpIn hfn (hassign _ x W _ ?_)⟩
      clear hy
      refine ⟨_, run_beginRound hl (by rw [hrec]), ?_⟩
      have hl2 : (W.putObj (w.heap.size + 1) (.loop { rec .ready none with state := .busy })).heap[w.heap.size + 1]? = some (.loop { rec .ready none with state := .busy }) := World.putObj_heap_same hlt
      have hk2 : (W.putObj (w.heap.size + 1) (.loop { rec .ready none with state := .busy })).heap[w.heap.size]? = some (.deferred (some [])) := (World.putObj_heap_other (by omega)).trans hk
      have hw2 : Kp W (W.putObj (w.heap.size + 1) (.loop { rec .ready none with state := .busy })) := hKb _ _ _ _ hl rfl
      refine wpIn_mono (hbody _ pre x rest _ hx (by omega) (put_I _ _ _ _ hi hl rfl)) ?_
      rintro e a3 W3 hp
      cases e with
      | normal =>
        obtain ⟨hk3, hkp3, hi3⟩ := hp
        have hl3 := hk3.same _ _ hl2 rfl
        have hr := run_endRound (P := P) none hl3
        rw [hrec] at hr hl3
        refine ⟨_, _, hr, rfl, ⟨put_I _ _ _ _ hi3 hl3 rfl, ?_, ?_⟩, hKt hw2 (hKt hkp3 (hKb _ _ _ _ hl3 rfl))⟩
        · rw [hrec]; exact World.putObj_heap_same (Array.getElem?_eq_some_iff.1 hl3).1
        · exact (World.putObj_heap_other (by omega)).trans (hk3.same _ _ hk2 rfl)
      | ret => exact hp.elim
      | exit id => exact hp.elim
      | goto t => exact hp.elim
      | panic ch => exact hp.elim
      | outgrown => exact hp.elim
    · rintro e W2 ⟨⟨v, rfl⟩, hi, hl, hk⟩
      have he := run_endLoop (P := P) hl (by rw [hrec]; simp)
      rw [hrec] at he
      exact ⟨none, _, he, hdone _ _ (Nat.le_refl _) (put_I _ _ _ _ hi hl rfl) ((World.putObj_heap_other (by omega)).trans hk)⟩
end

/-! ### strings.SplitSeq at one byte: its pieces, one by one -/
theorem SplitSeq.calls (s t : ByteArray) (w : World) :
    Calls Tryd.prog 18 #[.string s, .string t] w fun e w' => e = .returned (.func (.func 45) #[] #[.pointer (some ⟨w.heap.size + 1, 0, none⟩), .pointer (some ⟨w.heap.size, 0, none⟩), .pointer (some ⟨w.heap.size + 2, 0, none⟩)]) ∧
      w' = ((w.alloc (.cells #[.string s] 9)).alloc (.cells #[.string t] 9)).alloc (.cells #[.int .i64 0] 3) := by
  have h : Calls Tryd.prog 32 #[.string s, .string t, .int .i64 0] w fun e w' => e = .returned (.func (.func 45) #[] #[.pointer (some ⟨w.heap.size + 1, 0, none⟩), .pointer (some ⟨w.heap.size, 0, none⟩), .pointer (some ⟨w.heap.size + 2, 0, none⟩)]) ∧
      w' = ((w.alloc (.cells #[.string s] 9)).alloc (.cells #[.string t] 9)).alloc (.cells #[.int .i64 0] 3) := by
    go_enter Tryd.func32, Tryd.ntmps32
    go_wp2
    go_ret
    exact ⟨by simp, rfl⟩
  go_enter Tryd.func18, Tryd.ntmps18
  go_wp2_with (go_at_call 32; refine h.mono ?_; rintro e w' ⟨rfl, rfl⟩)
  go_ret
  exact ⟨rfl, rfl⟩
/-- The pieces of a text between the bytes c. -/
def seq_pieces (c : UInt8) : Nat → ByteArray → List ByteArray
  | 0, s => [s]
  | k + 1, s => if Lib.indexByte s.data.toList c < 0 then [s] else s.extract 0 (Lib.indexByte s.data.toList c).toNat :: seq_pieces c k (s.extract ((Lib.indexByte s.data.toList c).toNat + 1) s.size)
theorem seq_index_lt (s : ByteArray) (c : UInt8) (h : ¬ Lib.indexByte s.data.toList c < 0) : (Lib.indexByte s.data.toList c).toNat < s.size := by
  obtain ⟨o, ho⟩ := Int.eq_ofNat_of_zero_le (show 0 ≤ Lib.indexByte s.data.toList c by omega)
  have h1 := (Lib.indexByte_some ho).1
  rw [ho, Int.toNat_natCast]
  have := (List.getElem?_eq_some_iff.1 h1).1
  simpa using this
/-- What the box holds, for the loop's measure. -/
def boxStr (w : World) (B : Nat) : Nat := match w.cell? ⟨B, 0, none⟩ with | some (.string s) => s.size | _ => 0
theorem boxStr_of {w : World} {B : Nat} {t : TypeId} {s : ByteArray} (h : Boxed w B t (.string s)) : boxStr w B = s.size := by unfold boxStr; rw [h.cell]
/-- What a round over the pieces keeps: the boxes of strings and of numbers. -/
def seq_Kp (W W' : World) : Prop := ∀ (g : Nat) (cs : Array Value) (t : TypeId) (fr : Nat × Nat), (t = 9 ∨ t = 3) → W.heap[g]? = some (.cells cs t fr) → W'.heap[g]? = some (.cells cs t fr)
theorem seq_Kp.trans {A B C : World} (h : seq_Kp A B) (k : seq_Kp B C) : seq_Kp A C := fun g cs t fr ht hc => k g cs t fr ht (h g cs t fr ht hc)
set_option maxHeartbeats 1600000 in
set_option maxRecDepth 100000 in
theorem SplitSeq.runs (c : UInt8) (N : Nat) (hN : 1 ≤ N) (Bs Bt Bi : Nat) (hst : Bs ≠ Bt) (hsi : Bs ≠ Bi) (s : ByteArray) (hs : s.size ≤ 140737488355328) (w : World) (hb : Boxed w Bs 9 (.string s)) (ht : Boxed w Bt 9 (.string ⟨#[c]⟩)) (hi : Boxed w Bi 3 (.int .i64 0)) :
    SeqRuns Fence.wide N Tryd.prog 45 #[.pointer (some ⟨Bt, 0, none⟩), .pointer (some ⟨Bs, 0, none⟩), .pointer (some ⟨Bi, 0, none⟩)] (fun x => #[.string x]) Bs 9 seq_Kp (seq_pieces c s.size s) w := by
  have hro : Fence.wide.round = none := rfl
  intro l J W hW hJ hY hJ0
  have hbW : Boxed W Bs 9 (.string s) := (hW.block Bs hb.lt).trans hb
  have htW : Boxed W Bt 9 (.string ⟨#[c]⟩) := (hW.block Bt ht.lt).trans ht
  have hiW : Boxed W Bi 3 (.int .i64 0) := (hW.block Bi hi.lt).trans hi
  have HY := Aside0.mk hY
  have HJ := Aside0.mk hJ
  clear hY hJ hb ht hi
  refine callsIn_of_wp Tryd.func45 rfl trivial ?_ hro
  simp only [Tryd.ntmps45, List.size_toArray, List.length_cons, List.length_nil, Nat.reduceAdd, Nat.reduceSub, Array.replicate_succ, Array.replicate_zero, List.push_toArray, List.append_toArray, List.nil_append, List.cons_append]
  have hct := htW.cell
  gi_wp2
  clear hct
  gi_loopw [] (fun wr => ∃ (k : Nat) (s1 : ByteArray) (pre : List ByteArray), Boxed wr Bs 9 (.string s1) ∧ Boxed wr Bt 9 (.string ⟨#[c]⟩) ∧ Boxed wr Bi 3 (.int .i64 0) ∧ s1.size ≤ s.size ∧ s1.size ≤ k ∧ Aside0 (seq_pieces c s.size s = pre ++ seq_pieces c k s1) ∧ J pre wr) (fun wr => boxStr wr Bs)
  case atStart => exact ⟨s.size, s, [], hbW, htW, hiW, by omega, by omega, ⟨rfl⟩, hJ0⟩
  case round =>
    obtain ⟨k, s1, pre, hB, hT, hI, hsz, hk, hx, hJs⟩ := hrel
    have hc := hB.cell
    have hf := hB.frozen
    have hct := hT.cell
    have hci := hI.cell
    by_cases hneg : Lib.indexByte s1.data.toList c < 0
    · have hx2 : seq_pieces c s.size s = pre ++ [s1] := by
        rw [hx.out]
        cases k with
        | zero => rfl
        | succ k => rw [seq_pieces, if_pos hneg]
      have HX := Aside0.mk hx2
      clear hx hx2
      obtain ⟨fn, tmps, assign, body, hy, hR⟩ := HY.out pre s1 [] wr HX.out hJs
      obtain ⟨i, hi⟩ : ∃ i, Lib.indexByte s1.data.toList c = i := ⟨_, rfl⟩
      rw [hi] at hneg
      have HI := Aside0.mk hi
      clear hi
      gi_wp2_with (refine ⟨trivial, ?_⟩; gi_at_call 47; refine (callsIn_wide.2 (lib_Index1 s1 c _)).mono ?_; rintro e w1 ⟨rfl, rfl⟩; rw [HI.out])
      refine hR.mono ?_
      rintro e W3 ⟨rfl, hJ3, hk3⟩
      gi_wp2
      go_end0
      exact ⟨⟨_, rfl⟩, by rw [HX.out]; exact hJ3⟩
    · have hlt := seq_index_lt s1 c hneg
      obtain ⟨j, rfl⟩ : ∃ j, k = j + 1 := ⟨k - 1, by omega⟩
      have hx2 : seq_pieces c s.size s = pre ++ s1.extract 0 (Lib.indexByte s1.data.toList c).toNat :: seq_pieces c j (s1.extract ((Lib.indexByte s1.data.toList c).toNat + 1) s1.size) := by rw [hx.out, seq_pieces, if_neg hneg]
      obtain ⟨i, hi⟩ := Int.eq_ofNat_of_zero_le (show 0 ≤ Lib.indexByte s1.data.toList c by omega)
      rw [hi, Int.toNat_natCast] at hlt hx2
      have HI := Aside0.mk hi
      have HX := Aside0.mk hx2
      clear hx hx2 hneg hi
      obtain ⟨fn, tmps, assign, body, hy, hR⟩ := HY.out pre _ _ wr HX.out hJs
      gi_wp2_with (refine ⟨trivial, ?_⟩; gi_at_call 47; refine (callsIn_wide.2 (lib_Index1 s1 c _)).mono ?_; rintro e w1 ⟨rfl, rfl⟩; rw [HI.out])
      refine hR.mono ?_
      rintro e W3 ⟨rfl, hJ3, hk3⟩
      have hB3 : Boxed W3 Bs 9 (.string s1) := hk3 _ _ _ _ (.inl rfl) hB
      have hT3 : Boxed W3 Bt 9 (.string ⟨#[c]⟩) := hk3 _ _ _ _ (.inl rfl) hT
      have hI3 : Boxed W3 Bi 3 (.int .i64 0) := hk3 _ _ _ _ (.inr rfl) hI
      have hc3 := hB3.cell
      have hf3 := hB3.frozen
      have hct3 := hT3.cell
      have hes : (s1.extract (i + 1) s1.size).size = s1.size - (i + 1) := by rw [ByteArray.size_extract]; omega
      have HES := Aside0.mk hes
      clear hc hf hct hci hes hk3 hR hy
      gi_wp2
      go_roundw
      case rel => exact ⟨j, s1.extract (i + 1) s1.size, pre ++ [s1.extract 0 i], hB3.set _, hT3.other (Ne.symm hst) _, hI3.other (Ne.symm hsi) _, by have := HES.out; omega, by have := HES.out; omega, ⟨by rw [HX.out]; simp⟩, HJ.out _ _ _ (some Bs) hJ3 (grownBy_setCell' W3 Bs _) (fun r e => by cases e; exact ⟨rfl, _, hB3.set _⟩)⟩
      case measure =>
        rw [boxStr_of (hB3.set _), boxStr_of hB, HES.out]
        omega

/-! ### prio.Parse -/
/-- What one part of a text says of a prio. -/
def prio_step (t : ByteArray) (p : Int × Bool) : Int × Bool :=
  if t.toList = [105] then (p.1, true)
  else if t.toList = [105, 61, 63, 49] then (p.1, true)
  else if t.toList = [105, 61, 63, 48] then (p.1, false)
  else if (t.size : Int) = 3 then
    (if (t.extract 0 2).toList = [117, 61] then (if 48 ≤ bt t 2 then (if bt t 2 ≤ 55 then (bt t 2 - 48, p.2) else p) else p) else p)
  else p
def prio_fold (l : List ByteArray) : Int × Bool := l.foldl (fun p x => prio_step (strL (trim_both x.data.toList)) p) (3, false)
theorem prio_fold_snoc (l : List ByteArray) (x : ByteArray) : prio_fold (l ++ [x]) = prio_step (strL (trim_both x.data.toList)) (prio_fold l) := by unfold prio_fold; rw [List.foldl_append]; rfl
def prio_Parse.f (a0 : ByteArray) : Option (Int × Bool) := if a0.size ≤ 140737488355328 then some (prio_fold (seq_pieces 44 a0.size a0)) else none
theorem seq_pieces_size (c : UInt8) : ∀ (k : Nat) (s : ByteArray), ∀ x ∈ seq_pieces c k s, x.size ≤ s.size
  | 0, s, x, hx => by rw [seq_pieces, List.mem_singleton] at hx; rw [hx]; exact Nat.le_refl _
  | k + 1, s, x, hx => by
    rw [seq_pieces] at hx
    split at hx
    · rw [List.mem_singleton] at hx; rw [hx]; exact Nat.le_refl _
    · rcases List.mem_cons.1 hx with rfl | hx
      · rw [ByteArray.size_extract]; omega
      · have := seq_pieces_size c k _ x hx
        rw [ByteArray.size_extract] at this
        omega
theorem prio_has (t : ByteArray) (h : t.size = 3) : strings_HasPrefix.f t ⟨#[117, 61]⟩ = some (decide ((t.extract 0 2).toList = [117, 61])) := by
  unfold strings_HasPrefix.f stringslite_HasPrefix.f
  have h2 : ((⟨#[117, 61]⟩ : ByteArray).size : Int) = 2 := rfl
  rw [h2, if_pos (by omega), if_pos (by omega), if_pos (by omega)]
  simp only [Option.bind_some]
  have : (⟨#[117, 61]⟩ : ByteArray).toList = [117, 61] := by rw [Lib.toList_data]
  rw [this, show ((2 : Int)).toNat = 2 from rfl]
  congr 1
  rw [Bool.eq_iff_iff]
  simp
/-- The box of the prio that is being read. -/
def prio_St (w : World) (W : World) (p : Int × Bool) : Prop :=
  W.heap[w.heap.size + 1]? = some (.cells #[.int .i64 p.1, .bool p.2] 23 (0, 0)) ∧ (∃ c, W.heap[w.heap.size]? = some (.cells #[.int .i64 c, .bool false] 23 (0, 0))) ∧ (∃ u, Boxed W (w.heap.size + 2) 9 u) ∧ Below w.heap.size w W
theorem prio_set (w W : World) (p q : Int × Bool) (o : Nat) (v : Value) (h : prio_St w W p) (he : #[Value.int .i64 q.1, .bool q.2] = #[Value.int .i64 p.1, .bool p.2].setIfInBounds o v) :
    KeepsOthers W (W.setCell ⟨w.heap.size + 1, o, none⟩ v) ∧ seq_Kp W (W.setCell ⟨w.heap.size + 1, o, none⟩ v) ∧ prio_St w (W.setCell ⟨w.heap.size + 1, o, none⟩ v) q := by
  obtain ⟨h1, ⟨c, h2⟩, ⟨u, h3⟩, h4⟩ := h
  have e := setCell_eq_setRow W (w.heap.size + 1) o _ _ _ v h1
  refine ⟨KeepsOthers.setCell _ _ _, ?_, ?_⟩
  · intro g cs t fr ht hc
    by_cases hg : g = w.heap.size + 1
    · subst hg
      rw [h1] at hc
      cases hc
      rcases ht with ht | ht <;> exact absurd ht (by decide)
    · rw [e]
      exact (setRow_other _ _ _ _ hg).trans hc
  · rw [e, ← he]
    exact ⟨setRow_heap _ _ _ _ _ _ h1, ⟨c, (setRow_other _ _ _ _ (by omega)).trans h2⟩, ⟨u, (setRow_other _ _ _ _ (by omega)).trans h3⟩, man_below_setRow h4 _ _ (by omega)⟩
theorem prio_drawn {w W W1 : World} {p : Int × Bool} (hd : Drawn0 W W1) (h : prio_St w W p) : KeepsOthers W W1 ∧ seq_Kp W W1 ∧ prio_St w W1 p := by
  obtain ⟨m, rfl⟩ := hd
  obtain ⟨h1, h2, h3, h4⟩ := h
  exact ⟨⟨Nat.le_refl _, fun _ _ h _ => h⟩, fun _ _ _ _ _ h => h, h1, h2, h3, pw_below_drewN h4 m⟩
theorem prio_c0 {w W : World} {p : Int × Bool} (h : prio_St w W p) : W.cell? ⟨w.heap.size + 1, 0, none⟩ = some (.int .i64 p.1) ∧ W.frozen? ⟨w.heap.size + 1, 0, none⟩ = false := ⟨(blk_cell h.1 0).trans rfl, blk_frozen h.1 0⟩
theorem prio_c1 {w W : World} {p : Int × Bool} (h : prio_St w W p) : W.cell? ⟨w.heap.size + 1, 1, none⟩ = some (.bool p.2) ∧ W.frozen? ⟨w.heap.size + 1, 1, none⟩ = false := ⟨(blk_cell h.1 1).trans rfl, blk_frozen h.1 1⟩
section
attribute [local go_sem] Oper.semAt_some
set_option maxHeartbeats 3200000 in
set_option maxRecDepth 100000 in
theorem prio_Parse.all (a0 : ByteArray) (w : World) (hsz : a0.size ≤ 140737488355328) :
    Calls Tryd.prog 11 #[.string a0] w fun e w' => e = .returned (.agg #[.int .i64 (prio_fold (seq_pieces 44 a0.size a0)).1, .bool (prio_fold (seq_pieces 44 a0.size a0)).2]) ∧ Below w.heap.size w w' := by
  refine (callsIn_wide (n := 6)).1 ?_
  have hro : Fence.wide.round = none := rfl
  refine callsIn_of_wp_marks Tryd.func11 rfl trivial ?_ hro
  simp only [Tryd.ntmps11, List.size_toArray, List.length_cons, List.length_nil, Nat.reduceAdd, Nat.reduceSub, Array.replicate_succ, Array.replicate_zero, List.push_toArray, List.append_toArray, List.nil_append, List.cons_append]
  gi_wp2
  refine ⟨trivial, (callsIn_wide.2 (SplitSeq.calls _ _ _)).mono ?_⟩
  rintro e w' ⟨rfl, rfl⟩
  gi_wp2
  obtain ⟨W2, hW2⟩ : ∃ W2, (((((w.alloc (.cells #[.int .i64 0, .bool false] 23)).alloc (.cells #[.int .i64 3, .bool false] 23)).alloc (.cells #[.string a0] 9)).alloc (.cells #[.string ⟨#[44]⟩] 9)).alloc (.cells #[.int .i64 0] 3)) = W2 := ⟨_, rfl⟩
  have hsz2 : W2.heap.size = w.heap.size + 5 := by rw [← hW2]; simp
  have hs : Boxed W2 (w.heap.size + 1 + 1) 9 (.string a0) := by
    rw [← hW2]
    have := ((Boxed.new ((w.alloc (.cells #[.int .i64 0, .bool false] 23)).alloc (.cells #[.int .i64 3, .bool false] 23)) 9 (.string a0)).alloc (.cells #[.string ⟨#[44]⟩] 9)).alloc (.cells #[.int .i64 0] 3)
    simpa using this
  have ht : Boxed W2 (w.heap.size + 1 + 1 + 1) 9 (.string ⟨#[44]⟩) := by
    rw [← hW2]
    have := (Boxed.new (((w.alloc (.cells #[.int .i64 0, .bool false] 23)).alloc (.cells #[.int .i64 3, .bool false] 23)).alloc (.cells #[.string a0] 9)) 9 (.string ⟨#[44]⟩)).alloc (.cells #[.int .i64 0] 3)
    simpa using this
  have hi : Boxed W2 (w.heap.size + 1 + 1 + 2) 3 (.int .i64 0) := by
    rw [← hW2]
    have := Boxed.new ((((w.alloc (.cells #[.int .i64 0, .bool false] 23)).alloc (.cells #[.int .i64 3, .bool false] 23)).alloc (.cells #[.string a0] 9)).alloc (.cells #[.string ⟨#[44]⟩] 9)) 3 (.int .i64 0)
    simpa using this
  have hp : W2.heap[w.heap.size + 1]? = some (.cells #[.int .i64 3, .bool false] 23 (0, 0)) := by
    rw [← hW2]
    have h0 := man_alloc_block (w.alloc (.cells #[.int .i64 0, .bool false] 23)) #[.int .i64 3, .bool false] 23
    rw [World.size_alloc] at h0
    exact (Below.heap_alloc _ _ _ (by simp)).trans ((Below.heap_alloc _ _ _ (by simp)).trans ((Below.heap_alloc _ _ _ (by simp)).trans h0))
  have hr : W2.heap[w.heap.size]? = some (.cells #[.int .i64 0, .bool false] 23 (0, 0)) := by
    rw [← hW2]
    have h0 := man_alloc_block w #[.int .i64 0, .bool false] 23
    exact (Below.heap_alloc _ _ _ (by simp; omega)).trans ((Below.heap_alloc _ _ _ (by simp; omega)).trans ((Below.heap_alloc _ _ _ (by simp; omega)).trans ((Below.heap_alloc _ _ _ (by simp)).trans h0)))
  have hbel : Below w.heap.size w W2 := by
    rw [← hW2]
    exact ((((((Below.refl _ w).alloc (Nat.le_refl _) _).alloc (by simp) _).alloc (by simp; omega) _).alloc (by simp; omega) _).alloc (by simp; omega) _)
  have HST0 := Aside0.mk (show prio_St w W2 (prio_fold []) from ⟨hp, ⟨_, hr⟩, ⟨_, hs⟩, hbel⟩)
  rw [hW2]
  have HSZ := Aside0.mk hsz2
  have HPS := Aside0.mk (seq_pieces_size 44 a0.size a0)
  clear hW2 hsz2 hp hr hbel
  refine wpIn_runs2 (n := 6) hro (by omega) (gf := 45) (lb := #[.pointer (some ⟨w.heap.size + 1 + 1 + 1, 0, none⟩), .pointer (some ⟨w.heap.size + 1 + 1, 0, none⟩), .pointer (some ⟨w.heap.size + 1 + 1 + 2, 0, none⟩)]) rfl trivial (enters_of Tryd.func45 (by kernel_rfl) rfl)
    (SplitSeq.runs 44 5 (by omega) (w.heap.size + 1 + 1) (w.heap.size + 1 + 1 + 1) (w.heap.size + 1 + 1 + 2) (by omega) (by omega) a0 (by omega) W2 hs ht hi) (by rw [HSZ.out]; omega) (fun h1 h2 => h1.trans h2) ?hKb (fun _ => rfl)
    (fun pre W => prio_St w W (prio_fold pre)) ?hI HST0.out ?a1 ?assign ?body ?done
  case assign =>
    intro l x W K hK
    gi_wp2
    exact hK
  case hKb =>
    intro W l o o' hl ho g cs t fr _ hc
    refine (World.putObj_heap_other (fun e => ?_)).trans hc
    subst e
    rw [hl] at hc
    cases hc
    cases ho
  case hI =>
    rintro s X Y row ⟨h1, ⟨c, h2⟩, ⟨u, hu⟩, hB⟩ hg hr
    have hne : ∀ r, row = some r → r ≠ w.heap.size ∧ r ≠ w.heap.size + 1 ∧ w.heap.size ≤ r ∧ (r = w.heap.size + 2 → ∃ u, Boxed Y (w.heap.size + 2) 9 u) := by
      intro r e
      rcases hr r e with ⟨rfl, hu'⟩ | ⟨hr1, o, hro1, hro2⟩
      · exact ⟨by omega, by omega, by omega, fun _ => hu'⟩
      · rw [HSZ.out] at hr1
        exact ⟨by omega, by omega, by omega, fun e2 => by omega⟩
    refine ⟨blk_grown h1 hg (fun e => (hne _ e.symm).2.1 rfl), ⟨c, blk_grown h2 hg (fun e => (hne _ e.symm).1 rfl)⟩, ?_, hB.grown hg hB.size (fun k e => (hne k e).2.2.1)⟩
    by_cases e : row = some (w.heap.size + 2)
    · exact (hne _ e).2.2.2 rfl
    · exact ⟨u, hu.kept hg (fun e2 => e e2.symm)⟩
  case body =>
    rintro l pre x rest W hx hl hst
    have hxs : x.size ≤ a0.size := HPS.out x (by rw [hx]; simp)
    have HF := Aside0.mk (prio_fold_snoc pre x)
    clear hx
    obtain ⟨t, ht⟩ : ∃ t, strL (trim_both x.data.toList) = t := ⟨_, rfl⟩
    obtain ⟨p, hp⟩ : ∃ p, prio_fold pre = p := ⟨_, rfl⟩
    rw [ht, hp] at HF
    rw [hp] at hst
    have HT := Aside0.mk ht
    have HST := Aside0.mk hst
    clear ht hp hst
    have hn1 : 1 ≤ 6 - 1 - 1 := by omega
    obtain ⟨p1, p2⟩ := p
    obtain ⟨p, hp⟩ : ∃ p : Int × Bool, p = (p1, p2) := ⟨_, rfl⟩
    rw [← hp] at HF HST
    by_cases hA : t.toList = [105]
    · have hA1 : (t.toList == [105]) = true := by simpa using hA
      have HF := Aside0.mk (show prio_fold (pre ++ [x]) = (p.1, true) by rw [HF.out, prio_step, if_pos hA])
      clear hA
      gi_wp2_with (first | (refine ⟨trivial, ?_⟩; gi_at_call 19; refine (CallsIn.inRound l (callsIn_wide.2 (Trim.calls x _ (by omega)))).mono ?_; rintro e W1 ⟨rfl, hd⟩; rw [HT.out]; have hs1 := prio_drawn hd HST.out; have HK1 := Aside0.mk hs1.1; have HP1 := Aside0.mk hs1.2.1; have HS1 := Aside0.mk hs1.2.2; have hc0 := prio_c0 hs1.2.2; have hc1 := prio_c1 hs1.2.2; clear hs1 hd) | (refine ⟨trivial, ?_⟩; gi_at_call 20; refine (CallsIn.inRound l (callsIn_wide.2 (strings_HasPrefix.calls t ⟨#[117, 61]⟩ _ _ HH.out))).mono ?_; rintro e W3 ⟨rfl, hd⟩; have hs1 := prio_drawn hd HS1.out; have HK1 := Aside0.mk (HK1.out.trans hs1.1); have HP1 := Aside0.mk (HP1.out.trans hs1.2.1); have HS1 := Aside0.mk hs1.2.2; have hc0 := prio_c0 hs1.2.2; have hc1 := prio_c1 hs1.2.2; clear hs1 hd))
      obtain ⟨k1, k2, k3⟩ := prio_set w _ p (p.1, true) 1 (.bool true) HS1.out rfl
      exact ⟨HK1.out.trans k1, HP1.out.trans k2, by show prio_St w _ (prio_fold (pre ++ [x])); rw [HF.out]; exact k3⟩
    have hA1 : (t.toList == [105]) = false := by simpa using hA
    by_cases hB : t.toList = [105, 61, 63, 49]
    · have hB1 : (t.toList == [105, 61, 63, 49]) = true := by simpa using hB
      have HF := Aside0.mk (show prio_fold (pre ++ [x]) = (p.1, true) by rw [HF.out, prio_step, if_neg hA, if_pos hB])
      clear hA hB
      gi_wp2_with (first | (refine ⟨trivial, ?_⟩; gi_at_call 19; refine (CallsIn.inRound l (callsIn_wide.2 (Trim.calls x _ (by omega)))).mono ?_; rintro e W1 ⟨rfl, hd⟩; rw [HT.out]; have hs1 := prio_drawn hd HST.out; have HK1 := Aside0.mk hs1.1; have HP1 := Aside0.mk hs1.2.1; have HS1 := Aside0.mk hs1.2.2; have hc0 := prio_c0 hs1.2.2; have hc1 := prio_c1 hs1.2.2; clear hs1 hd) | (refine ⟨trivial, ?_⟩; gi_at_call 20; refine (CallsIn.inRound l (callsIn_wide.2 (strings_HasPrefix.calls t ⟨#[117, 61]⟩ _ _ HH.out))).mono ?_; rintro e W3 ⟨rfl, hd⟩; have hs1 := prio_drawn hd HS1.out; have HK1 := Aside0.mk (HK1.out.trans hs1.1); have HP1 := Aside0.mk (HP1.out.trans hs1.2.1); have HS1 := Aside0.mk hs1.2.2; have hc0 := prio_c0 hs1.2.2; have hc1 := prio_c1 hs1.2.2; clear hs1 hd))
      obtain ⟨k1, k2, k3⟩ := prio_set w _ p (p.1, true) 1 (.bool true) HS1.out rfl
      exact ⟨HK1.out.trans k1, HP1.out.trans k2, by show prio_St w _ (prio_fold (pre ++ [x])); rw [HF.out]; exact k3⟩
    have hB1 : (t.toList == [105, 61, 63, 49]) = false := by simpa using hB
    by_cases hC : t.toList = [105, 61, 63, 48]
    · have hC1 : (t.toList == [105, 61, 63, 48]) = true := by simpa using hC
      have HF := Aside0.mk (show prio_fold (pre ++ [x]) = (p.1, false) by rw [HF.out, prio_step, if_neg hA, if_neg hB, if_pos hC])
      clear hA hB hC
      gi_wp2_with (first | (refine ⟨trivial, ?_⟩; gi_at_call 19; refine (CallsIn.inRound l (callsIn_wide.2 (Trim.calls x _ (by omega)))).mono ?_; rintro e W1 ⟨rfl, hd⟩; rw [HT.out]; have hs1 := prio_drawn hd HST.out; have HK1 := Aside0.mk hs1.1; have HP1 := Aside0.mk hs1.2.1; have HS1 := Aside0.mk hs1.2.2; have hc0 := prio_c0 hs1.2.2; have hc1 := prio_c1 hs1.2.2; clear hs1 hd) | (refine ⟨trivial, ?_⟩; gi_at_call 20; refine (CallsIn.inRound l (callsIn_wide.2 (strings_HasPrefix.calls t ⟨#[117, 61]⟩ _ _ HH.out))).mono ?_; rintro e W3 ⟨rfl, hd⟩; have hs1 := prio_drawn hd HS1.out; have HK1 := Aside0.mk (HK1.out.trans hs1.1); have HP1 := Aside0.mk (HP1.out.trans hs1.2.1); have HS1 := Aside0.mk hs1.2.2; have hc0 := prio_c0 hs1.2.2; have hc1 := prio_c1 hs1.2.2; clear hs1 hd))
      obtain ⟨k1, k2, k3⟩ := prio_set w _ p (p.1, false) 1 (.bool false) HS1.out rfl
      exact ⟨HK1.out.trans k1, HP1.out.trans k2, by show prio_St w _ (prio_fold (pre ++ [x])); rw [HF.out]; exact k3⟩
    have hC1 : (t.toList == [105, 61, 63, 48]) = false := by simpa using hC
    have HF := Aside0.mk (show prio_fold (pre ++ [x]) = if (t.size : Int) = 3 then (if (t.extract 0 2).toList = [117, 61] then (if 48 ≤ bt t 2 then (if bt t 2 ≤ 55 then (bt t 2 - 48, p.2) else p) else p) else p) else p by rw [HF.out, prio_step, if_neg hA, if_neg hB, if_neg hC])
    clear hA hB hC
    by_cases hD : (t.size : Int) = 3
    · have hD1 : ((t.size : Int) == 3) = true := by simpa using hD
      have HH := Aside0.mk (prio_has t (by omega))
      have hq : (2 : Int) < (t.size : Int) := by omega
      have h2 : 2 < t.size := by omega
      have hx : bt t 2 = ((t[2].toNat : Nat) : Int) := (bt_at t 2 (by show 2 < t.size; exact h2)).symm
      have HF := Aside0.mk (HF.out.trans (if_pos hD))
      rw [hx] at HF
      have hcb : t[2].toNat < 256 := t[2].toNat_lt
      clear hx
      clear hD
      by_cases hE : (t.extract 0 2).toList = [117, 61]
      · rw [decide_eq_true hE] at HH
        have HF := Aside0.mk (HF.out.trans (if_pos hE))
        clear hE
        by_cases hG : 48 ≤ ((t[2].toNat : Nat) : Int)
        · have HF := Aside0.mk (HF.out.trans (if_pos hG))
          by_cases hI : ((t[2].toNat : Nat) : Int) ≤ 55
          · have HF := Aside0.mk (HF.out.trans (if_pos hI))
            gi_wp2_with (first | (refine ⟨trivial, ?_⟩; gi_at_call 19; refine (CallsIn.inRound l (callsIn_wide.2 (Trim.calls x _ (by omega)))).mono ?_; rintro e W1 ⟨rfl, hd⟩; rw [HT.out]; have hs1 := prio_drawn hd HST.out; have HK1 := Aside0.mk hs1.1; have HP1 := Aside0.mk hs1.2.1; have HS1 := Aside0.mk hs1.2.2; have hc0 := prio_c0 hs1.2.2; have hc1 := prio_c1 hs1.2.2; clear hs1 hd) | (refine ⟨trivial, ?_⟩; gi_at_call 20; refine (CallsIn.inRound l (callsIn_wide.2 (strings_HasPrefix.calls t ⟨#[117, 61]⟩ _ _ HH.out))).mono ?_; rintro e W3 ⟨rfl, hd⟩; have hs1 := prio_drawn hd HS1.out; have HK1 := Aside0.mk (HK1.out.trans hs1.1); have HP1 := Aside0.mk (HP1.out.trans hs1.2.1); have HS1 := Aside0.mk hs1.2.2; have hc0 := prio_c0 hs1.2.2; have hc1 := prio_c1 hs1.2.2; clear hs1 hd))
            obtain ⟨k1, k2, k3⟩ := prio_set w _ p (((t[2].toNat : Nat) : Int) - 48, p.2) 0 (.int .i64 (((t[2].toNat : Nat) : Int) - 48)) HS1.out rfl
            exact ⟨HK1.out.trans k1, HP1.out.trans k2, by show prio_St w _ (prio_fold (pre ++ [x])); rw [HF.out]; exact k3⟩
          · have HF := Aside0.mk (HF.out.trans (if_neg hI))
            have hI1 : 55 < ((t[2].toNat : Nat) : Int) := by omega
            clear hI
            gi_wp2_with (first | (refine ⟨trivial, ?_⟩; gi_at_call 19; refine (CallsIn.inRound l (callsIn_wide.2 (Trim.calls x _ (by omega)))).mono ?_; rintro e W1 ⟨rfl, hd⟩; rw [HT.out]; have hs1 := prio_drawn hd HST.out; have HK1 := Aside0.mk hs1.1; have HP1 := Aside0.mk hs1.2.1; have HS1 := Aside0.mk hs1.2.2; have hc0 := prio_c0 hs1.2.2; have hc1 := prio_c1 hs1.2.2; clear hs1 hd) | (refine ⟨trivial, ?_⟩; gi_at_call 20; refine (CallsIn.inRound l (callsIn_wide.2 (strings_HasPrefix.calls t ⟨#[117, 61]⟩ _ _ HH.out))).mono ?_; rintro e W3 ⟨rfl, hd⟩; have hs1 := prio_drawn hd HS1.out; have HK1 := Aside0.mk (HK1.out.trans hs1.1); have HP1 := Aside0.mk (HP1.out.trans hs1.2.1); have HS1 := Aside0.mk hs1.2.2; have hc0 := prio_c0 hs1.2.2; have hc1 := prio_c1 hs1.2.2; clear hs1 hd))
            exact ⟨HK1.out, HP1.out, by show prio_St w _ (prio_fold (pre ++ [x])); rw [HF.out]; exact HS1.out⟩
        · have HF := Aside0.mk (HF.out.trans (if_neg hG))
          have hG1 : ((t[2].toNat : Nat) : Int) < 48 := by omega
          clear hG
          gi_wp2_with (first | (refine ⟨trivial, ?_⟩; gi_at_call 19; refine (CallsIn.inRound l (callsIn_wide.2 (Trim.calls x _ (by omega)))).mono ?_; rintro e W1 ⟨rfl, hd⟩; rw [HT.out]; have hs1 := prio_drawn hd HST.out; have HK1 := Aside0.mk hs1.1; have HP1 := Aside0.mk hs1.2.1; have HS1 := Aside0.mk hs1.2.2; have hc0 := prio_c0 hs1.2.2; have hc1 := prio_c1 hs1.2.2; clear hs1 hd) | (refine ⟨trivial, ?_⟩; gi_at_call 20; refine (CallsIn.inRound l (callsIn_wide.2 (strings_HasPrefix.calls t ⟨#[117, 61]⟩ _ _ HH.out))).mono ?_; rintro e W3 ⟨rfl, hd⟩; have hs1 := prio_drawn hd HS1.out; have HK1 := Aside0.mk (HK1.out.trans hs1.1); have HP1 := Aside0.mk (HP1.out.trans hs1.2.1); have HS1 := Aside0.mk hs1.2.2; have hc0 := prio_c0 hs1.2.2; have hc1 := prio_c1 hs1.2.2; clear hs1 hd))
          exact ⟨HK1.out, HP1.out, by show prio_St w _ (prio_fold (pre ++ [x])); rw [HF.out]; exact HS1.out⟩
      · rw [decide_eq_false hE] at HH
        have HF := Aside0.mk (HF.out.trans (if_neg hE))
        clear hE
        gi_wp2_with (first | (refine ⟨trivial, ?_⟩; gi_at_call 19; refine (CallsIn.inRound l (callsIn_wide.2 (Trim.calls x _ (by omega)))).mono ?_; rintro e W1 ⟨rfl, hd⟩; rw [HT.out]; have hs1 := prio_drawn hd HST.out; have HK1 := Aside0.mk hs1.1; have HP1 := Aside0.mk hs1.2.1; have HS1 := Aside0.mk hs1.2.2; have hc0 := prio_c0 hs1.2.2; have hc1 := prio_c1 hs1.2.2; clear hs1 hd) | (refine ⟨trivial, ?_⟩; gi_at_call 20; refine (CallsIn.inRound l (callsIn_wide.2 (strings_HasPrefix.calls t ⟨#[117, 61]⟩ _ _ HH.out))).mono ?_; rintro e W3 ⟨rfl, hd⟩; have hs1 := prio_drawn hd HS1.out; have HK1 := Aside0.mk (HK1.out.trans hs1.1); have HP1 := Aside0.mk (HP1.out.trans hs1.2.1); have HS1 := Aside0.mk hs1.2.2; have hc0 := prio_c0 hs1.2.2; have hc1 := prio_c1 hs1.2.2; clear hs1 hd))
        exact ⟨HK1.out, HP1.out, by show prio_St w _ (prio_fold (pre ++ [x])); rw [HF.out]; exact HS1.out⟩
    · have hD1 : ((t.size : Int) == 3) = false := by simpa using hD
      have HF := Aside0.mk (HF.out.trans (if_neg hD))
      clear hD
      gi_wp2_with (first | (refine ⟨trivial, ?_⟩; gi_at_call 19; refine (CallsIn.inRound l (callsIn_wide.2 (Trim.calls x _ (by omega)))).mono ?_; rintro e W1 ⟨rfl, hd⟩; rw [HT.out]; have hs1 := prio_drawn hd HST.out; have HK1 := Aside0.mk hs1.1; have HP1 := Aside0.mk hs1.2.1; have HS1 := Aside0.mk hs1.2.2; have hc0 := prio_c0 hs1.2.2; have hc1 := prio_c1 hs1.2.2; clear hs1 hd) | (refine ⟨trivial, ?_⟩; gi_at_call 20; refine (CallsIn.inRound l (callsIn_wide.2 (strings_HasPrefix.calls t ⟨#[117, 61]⟩ _ _ HH.out))).mono ?_; rintro e W3 ⟨rfl, hd⟩; have hs1 := prio_drawn hd HS1.out; have HK1 := Aside0.mk (HK1.out.trans hs1.1); have HP1 := Aside0.mk (HP1.out.trans hs1.2.1); have HS1 := Aside0.mk hs1.2.2; have hc0 := prio_c0 hs1.2.2; have hc1 := prio_c1 hs1.2.2; clear hs1 hd))
      refine ⟨trivial, ?_⟩
      gi_wp2
      exact ⟨HK1.out, HP1.out, by show prio_St w _ (prio_fold (pre ++ [x])); rw [HF.out]; exact HS1.out⟩
  case done =>
    rintro D W hD ⟨h1, ⟨c, h2⟩, hu, hB⟩ hK
    have hc0 : W.cell? ⟨w.heap.size + 1, 0, none⟩ = some (.int .i64 (prio_fold (seq_pieces 44 a0.size a0)).1) := (blk_cell h1 0).trans rfl
    have hc1 : W.cell? ⟨w.heap.size + 1, 1, none⟩ = some (.bool (prio_fold (seq_pieces 44 a0.size a0)).2) := (blk_cell h1 1).trans rfl
    have hr0 : W.cell? ⟨w.heap.size, 0, none⟩ = some (.int .i64 c) ∧ W.frozen? ⟨w.heap.size, 0, none⟩ = false := ⟨(blk_cell h2 0).trans rfl, blk_frozen h2 0⟩
    have hr1 : W.cell? ⟨w.heap.size, 1, none⟩ = some (.bool false) ∧ W.frozen? ⟨w.heap.size, 1, none⟩ = false := ⟨(blk_cell h2 1).trans rfl, blk_frozen h2 1⟩
    obtain ⟨q, hq⟩ : ∃ q, prio_fold (seq_pieces 44 a0.size a0) = q := ⟨_, rfl⟩
    rw [hq] at hc0 hc1
    have HQ := Aside0.mk hq
    have H2 := Aside0.mk h2
    have HB := Aside0.mk hB
    clear hq h1 h2 hB hu
    gi_wp2
    have e1 := setCell_eq_setRow W w.heap.size 0 _ _ _ (Value.int .i64 q.1) H2.out
    have g1 := setRow_heap W w.heap.size _ (#[Value.int .i64 c, .bool false].setIfInBounds 0 (.int .i64 q.1)) _ _ H2.out
    rw [← e1] at g1
    have e2 := setCell_eq_setRow (W.setCell ⟨w.heap.size, 0, none⟩ (.int .i64 q.1)) w.heap.size 1 _ _ _ (Value.bool q.2) g1
    have g2 := setRow_heap (W.setCell ⟨w.heap.size, 0, none⟩ (.int .i64 q.1)) w.heap.size _ ((#[Value.int .i64 c, .bool false].setIfInBounds 0 (.int .i64 q.1)).setIfInBounds 1 (.bool q.2)) _ _ g1
    rw [← e2] at g2
    have b2 : Below w.heap.size w ((W.setCell ⟨w.heap.size, 0, none⟩ (.int .i64 q.1)).setCell ⟨w.heap.size, 1, none⟩ (.bool q.2)) := by
      rw [e2, e1]
      exact man_below_setRow (man_below_setRow HB.out _ _ (Nat.le_refl _)) _ _ (Nat.le_refl _)
    have hK4 : ((W.setCell ⟨w.heap.size, 0, none⟩ (.int .i64 q.1)).setCell ⟨w.heap.size, 1, none⟩ (.bool q.2)).heap[D]? = some (.deferred (some [])) := ((KeepsOthers.setCell _ _ _).trans (KeepsOthers.setCell _ _ _)).same D _ hK rfl
    clear e1 g1 e2 hc0 hc1 hr0 hr1 hK H2 HB
    generalize ((W.setCell ⟨w.heap.size, 0, none⟩ (.int .i64 q.1)).setCell ⟨w.heap.size, 1, none⟩ (.bool q.2)) = W4 at g2 b2 hK4 ⊢
    refine ⟨by simp, .inl ⟨_, _, rfl, run_takeDeferred hK4, ?_⟩⟩
    have g3 : (W4.putObj D (.deferred none)).heap[w.heap.size]? = some (.cells #[.int .i64 q.1, .bool q.2] 23 (0, 0)) := (World.putObj_heap_other (by have := HSZ.out; omega)).trans g2
    have b3 := b2.trans (belowK_b (w := w) (Nat.le_refl _) W4 D _ (.deferred none) (by rw [HSZ.out] at hD; omega) hK4 rfl rfl)
    have k0 := (blk_cell g3 0).trans rfl
    have k1 := (blk_cell g3 1).trans rfl
    refine ⟨.agg #[.int .i64 q.1, .bool q.2], ?_, ⟨by rw [HQ.out], b3⟩⟩
    clear g2 b2 hK4 g3 b3
    simp [results, Tryd.results11, go_sem, k0, k1]
end
theorem prio_Parse.calls (a0 : ByteArray) (r1 : Int) (r2 : Bool) (w : World) (h : prio_Parse.f a0 = some (r1, r2)) :
    Calls Tryd.prog 11 #[.string a0] w fun e w' => e = .returned (.agg #[.int .i64 r1, .bool r2]) ∧ Below w.heap.size w w' := by
  unfold prio_Parse.f at h
  by_cases hs : a0.size ≤ 140737488355328
  · rw [if_pos hs] at h
    have e := Option.some.inj h
    have := prio_Parse.all a0 w hs
    rw [e] at this
    exact this
  · rw [if_neg hs] at h
    cases h


end Go.Proofs.YtjjignoocaejiaaDoor.PPR
