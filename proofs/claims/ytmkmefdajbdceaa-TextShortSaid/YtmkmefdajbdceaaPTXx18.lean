-- Written by wip/mprint.py (the kit's printer, and texts of this claim's own for what it does not take). Not trusted: Lean checks it.
import Derived.Test.YtmkmefdajbdceaaPTXx0
import Derived.Test.YtmkmefdajbdceaaPTXx3
import Derived.Test.YtmkmefdajbdceaaPTXx4
import Derived.Test.YtmkmefdajbdceaaPTXx5
import Derived.Test.YtmkmefdajbdceaaPTXx16
namespace Go.Proofs.Ytmkmefdajbdceaa.PTX
open Go.RowKit Go.Proofs.YtmkmefdajbdceaaW.PrintWords Go.Proofs.YtmkmefdajbdceaaW.PrintLast Go.Proofs.YtmkmefdajbdceaaW.PrintMore
attribute [local go_sem] max2_int min2_int max_two min_two max_three min_three max_four min_four   -- for this text's walks alone
set_option linter.unusedVariables false
set_option linter.unusedSimpArgs false

/-! ### huff_bits: function 49, by hand -/
/-- How many bits a text has. -/
def huff_sum : List Int → Int
  | [] => 0
  | c :: r => rd huff_lens c + huff_sum r
theorem huff_sum_append : ∀ a b, huff_sum (a ++ b) = huff_sum a + huff_sum b
  | [], b => by simp [huff_sum]
  | c :: r, b => by simp only [List.cons_append, huff_sum, huff_sum_append r b]; omega
theorem huff_len_bd : ∀ n : Nat, n < 257 → 5 ≤ rd huff_lens n ∧ rd huff_lens n ≤ 30 := by
  have h : (List.range 257).all (fun n => decide (5 ≤ rd huff_lens n) && decide (rd huff_lens n ≤ 30)) = true := by decide +kernel
  intro n hn
  have := List.all_eq_true.1 h n (List.mem_range.2 hn)
  simpa using this
theorem huff_sum_bd : ∀ l : List Int, (∀ c ∈ l, 0 ≤ c ∧ c < 256) → 5 * (l.length : Int) ≤ huff_sum l ∧ huff_sum l ≤ 30 * l.length
  | [], _ => by simp [huff_sum]
  | c :: r, h => by
    have ih := huff_sum_bd r (fun x hx => h x (List.mem_cons_of_mem _ hx))
    have hc := h c List.mem_cons_self
    have h1 := huff_len_bd c.toNat (by omega)
    rw [show ((c.toNat : Nat) : Int) = c by omega] at h1
    simp only [huff_sum, List.length_cons]
    omega
theorem man_bytesOf_bd (s : ByteArray) : ∀ c ∈ bytesOf s, 0 ≤ c ∧ c < 256 := by
  intro c hc
  obtain ⟨b, _, rfl⟩ := List.mem_map.1 hc
  have := b.toNat_lt
  omega
theorem man_bytesOf_length (s : ByteArray) : (bytesOf s).length = s.size := by unfold bytesOf; rw [List.length_map, Array.length_toList]; rfl
theorem man_bytesOf_take (s : ByteArray) (k : Nat) (hk : k < s.size) : (bytesOf s).take (k + 1) = (bytesOf s).take k ++ [(s[k].toNat : Int)] := by
  rw [List.take_succ_eq_append_getElem (by rw [man_bytesOf_length]; exact hk)]
  congr 2
  simp [bytesOf]
  rfl
theorem man_bytesOf_drop (s : ByteArray) (k : Nat) (hk : k < s.size) : (bytesOf s).drop k = (s[k].toNat : Int) :: (bytesOf s).drop (k + 1) := by
  rw [List.drop_eq_getElem_cons (by rw [man_bytesOf_length]; exact hk)]
  congr 1
  simp [bytesOf]
  rfl
def huff_Len.f (a0 : ByteArray) : Option Int := if a0.size ≤ 140737488351232 then some ((huff_sum (bytesOf a0) + 7) / 8) else none
set_option maxHeartbeats 3200000 in
set_option maxRecDepth 100000 in
theorem huff_Len.calls (a0 : ByteArray) (r : Int) (w : World) (h : huff_Len.f a0 = some r) :
    Calls Try.prog 35 #[.string a0] w fun e w' => e = .returned (.int .i64 r) ∧ Below w.heap.size w w' := by
  unfold huff_Len.f at h
  by_cases hsz : a0.size ≤ 140737488351232
  · rw [if_pos hsz] at h
    have HH := Aside0.mk (Option.some.inj h)
    clear h
    have hz8 := huff_lengths.zero
    obtain ⟨Z8, hZ8⟩ : ∃ Z : Array Value, Z = (List.replicate 257 (Value.int .u8 0)).toArray := ⟨_, rfl⟩
    have hZ8s : Z8.size = 257 := by rw [hZ8, List.size_toArray, List.length_replicate]
    rw [← hZ8] at hz8
    have HZ8s := Aside0.mk hZ8s
    obtain ⟨L, hL⟩ : ∃ L, L = (huff_lens.map (Value.int .u8)).toArray := ⟨_, rfl⟩
    have hcall : ∀ w, Calls Try.prog 50 #[] w fun e w' => e = .returned (.agg L) ∧ Below w.heap.size w w' := by rw [hL]; exact huff_lengths.calls
    have HLs := Aside0.mk (show L.size = 257 by rw [hL]; exact huff_lens_size)
    have HCALL := Aside0.mk hcall
    have HL1 := Aside0.mk (show L.all (·.oneCell') = true by rw [hL, List.all_toArray]; exact List.all_eq_true.2 fun x hx => by obtain ⟨n, _, rfl⟩ := List.mem_map.1 hx; rfl)
    have HL := Aside0.mk hL
    clear hZ8 hL hcall hZ8s
    go_enter Try.func35, Try.ntmps35
    go_upto_region 2 with (first | (go_at_call 50; refine (HCALL.out _).mono ?_; rintro e w1 ⟨rfl, hb⟩; have B1 := Aside0.mk hb; clear hb) | (refine wpList_store_row rfl 81 _ _ rfl w1.heap.size L rfl rfl 81 Z8 (man_alloc_block _ _ _) (by rw [HLs.out]; exact huff_lengths.size) (by rw [HLs.out]; exact HZ8s.out) HL1.out ?_))
    obtain ⟨B8, hB8⟩ : ∃ n, n = w1.heap.size := ⟨_, rfl⟩
    have G8 : ((w1.alloc (Obj.cells Z8 81)).setRow B8 L).heap[B8]? = some (.cells L 81 (0, 0)) := by
      have := man_alloc_block w1 Z8 81
      rw [← hB8] at this
      exact setRow_heap _ _ _ _ _ _ this
    have B2 : Below w.heap.size w ((w1.alloc (Obj.cells Z8 81)).setRow B8 L) := man_below_setRow (below_alloc B1.out _) _ _ (by have := B1.out.size; omega)
    rw [← hB8]
    have HG8 := Aside0.mk G8
    have HB2 := Aside0.mk B2
    clear G8 B2 B1 hB8 hz8
    generalize (w1.alloc (Obj.cells Z8 81)).setRow B8 L = w2 at HG8 HB2 ⊢
    have HCELL : Aside0 (∀ n : Nat, n < 257 → w2.cell? ⟨B8, n, none⟩ = some (.int .u8 (rd huff_lens n))) := ⟨fun n hn => by
      refine (blk_cell HG8.out n).trans ?_
      rw [HL.out, List.getElem?_toArray, List.getElem?_map, List.getElem?_eq_getElem (by rw [huff_lens_length]; exact hn)]
      simp [rd, List.getD_eq_getElem?_getD, List.getElem?_eq_getElem (show n < huff_lens.length by rw [huff_lens_length]; exact hn)]⟩
    go_wp2_with (fail)
    go_loop [3, 9] (fun v3 v9 => ∃ k : Nat, k ≤ a0.size ∧ v9 = .int .i64 k ∧ v3 = .int .i64 (huff_sum ((bytesOf a0).take k))) (fun _ v9 => a0.size - (intOf v9).toNat)
    case atStart => exact ⟨0, by omega, rfl, rfl⟩
    case round =>
      obtain ⟨k, hk, rfl, rfl⟩ := hrel
      have hbd := huff_sum_bd ((bytesOf a0).take k) (fun c hc => man_bytesOf_bd a0 c (List.mem_of_mem_take hc))
      have hlk : ((bytesOf a0).take k).length ≤ k := List.length_take_le _ _
      by_cases hlt : k < a0.size
      · have hsn := congrArg huff_sum (man_bytesOf_take a0 k hlt)
        rw [huff_sum_append] at hsn
        have HSN := Aside0.mk hsn
        clear hsn
        have hcb : a0[k].toNat < 256 := a0[k].toNat_lt
        have hcell := HCELL.out a0[k].toNat (by omega)
        have hmb := huff_len_bd a0[k].toNat (by omega)
        obtain ⟨m, hm⟩ : ∃ m, rd huff_lens (a0[k].toNat : Nat) = m := ⟨_, rfl⟩
        rw [hm] at hcell hmb
        have HM := Aside0.mk hm
        clear hm
        obtain ⟨S, hS⟩ : ∃ S, huff_sum ((bytesOf a0).take k) = S := ⟨_, rfl⟩
        rw [hS] at hbd ⊢
        have HS := Aside0.mk hS
        clear hS
        go_wp2_with (fail)
        go_round
        case rel => exact ⟨k + 1, by omega, by go_num, by rw [HSN.out, HS.out]; simp only [huff_sum]; rw [HM.out]; simp⟩
        case measure => simp [intOf]; omega
      · obtain rfl : k = a0.size := by omega
        rw [List.take_of_length_le (by rw [man_bytesOf_length]; exact Nat.le_refl _)] at hbd hlk ⊢
        rw [man_bytesOf_length] at hbd
        have hh := HH.out
        obtain ⟨S, hS⟩ : ∃ S, huff_sum (bytesOf a0) = S := ⟨_, rfl⟩
        rw [hS] at hbd hh ⊢
        subst hh
        clear hS
        go_wp2_with (fail)
        go_ret
        exact ⟨rfl, HB2.out⟩
  · rw [if_neg hsz] at h
    cases h

/-! ### The same, where a round keeps what it keeps of a loop's own block alone -/
section
variable {F : Fence} {n : Nat} {P : Program}
theorem wpIn_runs2 {α : Type} {g : Operand} {ps : Array Tmp} {assign body : Code} {Q : Exit → Act → World → Prop} {a : Act} {w : World}
    (hro : F.round = none) (h1 : 1 ≤ n) {gf : Nat} {lb : Array Value} (hg : a.eval g = .func (.func gf) #[] lb) (hFg : F.fn gf) (eg : ∀ args w, (callFunc gf args).run P w = .ok (.enter gf args) w)
    {encs : α → Array Value} {Bn : Nat} {tn : TypeId} {Kp : World → World → Prop} {xs : List α} (hseq : SeqRuns F (n - 1) P gf lb encs Bn tn Kp xs w) (hBn : Bn < w.heap.size)
    (hKt : ∀ {A B C : World}, Kp A B → Kp B C → Kp A C) (hKb : ∀ (W : World) (l : Nat) (o o' : Obj), W.heap[l]? = some o → o.isCells = false → Kp W (W.putObj l o')) (hps : ∀ x, (encs x).size = ps.size)
    (I : List α → World → Prop) (hI : ∀ s W W' (row : Option Nat), I s W → W.grownBy W' row → (∀ r, row = some r → (r = Bn ∧ ∃ u, Boxed W' Bn tn u) ∨ (w.heap.size ≤ r ∧ ∃ o : Obj, W.heap[r]? = some o ∧ o.isCells = false)) → I s W')
    (h0 : I [] w) (a₁ : α → Act)
    (hassign : ∀ (l : Nat) (x : α) (W : World) (K : Act → World → Prop), K (a₁ x) W → assign.wpIn (F.inRound l) (n - 1 - 1) P (Exit.then K (fun _ _ _ => False)) { tmps := (ps.zip (encs x)).foldl (fun t (p, v) => t.setIfInBounds p v) a.tmps, defers := [] } W)
    (hbody : ∀ (l : Nat) (pre : List α) (x : α) (rest : List α) (W : World), xs = pre ++ x :: rest → w.heap.size ≤ l → I pre W → body.wpIn (F.inRound l) (n - 1 - 1) P (roundGoes Kp I (pre ++ [x]) W) (a₁ x) W)
    (hdone : ∀ (D : Nat) (W : World), w.heap.size ≤ D → I xs W → W.heap[D]? = some (.deferred (some [])) → Q .normal { a with defers := { target := .collected D, args := #[] } :: a.defers } W) :
    (Code.rangeFunc g ps assign body).wpIn F n P Q a w := by
  refine wpIn_rangeFunc ?_
  intro fn hfn
  rw [hro]
  obtain ⟨rec, hrec⟩ : ∃ rec : LoopState → Option Code → Loop, rec = fun st pe => { state := st, pending := pe, fn, tmps := a.tmps, params := ps, assign, body, defers := w.heap.size } := ⟨_, rfl⟩
  obtain ⟨W1, hW1⟩ : ∃ W1, (w.alloc (.deferred (some []))).alloc (.loop (rec .ready none)) = W1 := ⟨_, rfl⟩
  have hL1 : W1.heap[w.heap.size + 1]? = some (.loop (rec .ready none)) := by
    rw [← hW1]; have := World.alloc_heap_new (w.alloc (.deferred (some []))) (.loop (rec .ready none)); rwa [World.size_alloc] at this
  have hK1 : W1.heap[w.heap.size]? = some (.deferred (some [])) := by
    rw [← hW1]; exact (Below.heap_alloc _ _ _ (by simp)).trans (World.alloc_heap_new w _)
  have hI1 : I [] W1 := by
    rw [← hW1]
    exact hI _ _ _ none (hI _ _ _ none h0 (World.grownBy_alloc w _ none) (by simp)) (World.grownBy_alloc _ _ none) (by simp)
  have hb1 : Below w.heap.size w W1 := by rw [← hW1]; exact ((Below.refl _ w).alloc (Nat.le_refl _) _).alloc (by simp) _
  have put_I : ∀ (s : List α) (W : World) (o o' : Obj), I s W → W.heap[w.heap.size + 1]? = some o → o.isCells = false → I s (W.putObj (w.heap.size + 1) o') := fun s W o o' hs hl ho =>
    hI s W _ (some (w.heap.size + 1)) hs (grownBy_putObj' W _ o') (fun r e => by cases e; exact .inr ⟨by omega, o, hl, ho⟩)
  refine ⟨w.heap.size + 1, [{ target := .collected w.heap.size, args := #[] }], W1, { target := .fn (.func gf) lb, args := #[.func (.yield (w.heap.size + 1)) #[] #[]] }, W1, gf,
    #[.func (.yield (w.heap.size + 1)) #[] #[]] ++ lb, W1, ?_, ?_, ?_, ?_, fun _ => h1, ?_⟩
  · rw [← hW1, hrec]; exact run_enterLoop_outer _ _ _ _ _
  · simp only [resolve, hg]
    simp [go_sem]
  · intro f' hf'; simp [Target.leads] at hf'; subst hf'; exact hFg
  · simp [invoke, go_sem, eg]
  · refine (hseq (w.heap.size + 1) (fun pre W => I pre W ∧ W.heap[w.heap.size + 1]? = some (.loop (rec .ready none)) ∧ W.heap[w.heap.size]? = some (.deferred (some []))) W1 hb1 ?_ ?_ ⟨hI1, hL1, hK1⟩).mono ?_
    · intro s A B row hs hg' hr
      refine ⟨hI s A B row hs.1 hg' (fun r e => .inl (hr r e)), ?_, ?_⟩
      · exact (hg'.block _ (Array.getElem?_eq_some_iff.1 hs.2.1).1 (fun e => by have := (hr _ e.symm).1; omega)).trans hs.2.1
      · exact (hg'.block _ (Array.getElem?_eq_some_iff.1 hs.2.2).1 (fun e => by have := (hr _ e.symm).1; omega)).trans hs.2.2
    · rintro pre x rest W hx ⟨hi, hl, hk⟩
      have hlt : w.heap.size + 1 < W.heap.size := (Array.getElem?_eq_some_iff.1 hl).1
      have hy := run_yield (P := P) (args := encs x) hl (by rw [hrec]; exact hps x)
      rw [hrec] at hy
      refine ⟨fn, _, assign, body, hy, roundIn_of_wpIn hfn (hassign _ x W _ ?_)⟩
      clear hy
      refine ⟨_, run_beginRound hl (by rw [hrec]), ?_⟩
      have hl2 : (W.putObj (w.heap.size + 1) (.loop { rec .ready none with state := .busy })).heap[w.heap.size + 1]? = some (.loop { rec .ready none with state := .busy }) := World.putObj_heap_same hlt
      have hk2 : (W.putObj (w.heap.size + 1) (.loop { rec .ready none with state := .busy })).heap[w.heap.size]? = some (.deferred (some [])) := (World.putObj_heap_other (by omega)).trans hk
      have hw2 : Kp W (W.putObj (w.heap.size + 1) (.loop { rec .ready none with state := .busy })) := hKb _ _ _ _ hl rfl
      refine wpIn_mono (hbody _ pre x rest _ hx (by omega) (put_I _ _ _ _ hi hl rfl)) ?_
      rintro e a3 W3 hp
      cases e with
      | normal =>
        obtain ⟨hk3, hkp3, hi3⟩ := hp
        have hl3 := hk3.same _ _ hl2 rfl
        have hr := run_endRound (P := P) none hl3
        rw [hrec] at hr hl3
        refine ⟨_, _, hr, rfl, ⟨put_I _ _ _ _ hi3 hl3 rfl, ?_, ?_⟩, hKt hw2 (hKt hkp3 (hKb _ _ _ _ hl3 rfl))⟩
        · rw [hrec]; exact World.putObj_heap_same (Array.getElem?_eq_some_iff.1 hl3).1
        · exact (World.putObj_heap_other (by omega)).trans (hk3.same _ _ hk2 rfl)
      | ret => exact hp.elim
      | exit id => exact hp.elim
      | goto t => exact hp.elim
      | panic ch => exact hp.elim
      | outgrown => exact hp.elim
    · rintro e W2 ⟨⟨v, rfl⟩, hi, hl, hk⟩
      have he := run_endLoop (P := P) hl (by rw [hrec]; simp)
      rw [hrec] at he
      exact ⟨none, _, he, hdone _ _ (Nat.le_refl _) (put_I _ _ _ _ hi hl rfl) ((World.putObj_heap_other (by omega)).trans hk)⟩
end

theorem manIn_store_row {F : Fence} {n : Nat} {P : Program} {ops : Array Oper} {rest : List Oper} {o : Oper} {a : Act} {w : World} {Q : Exit → Act → World → Prop} (hgd : o.guard = none) (ty : TypeId) (x y : Operand) (ho : o.op = .store ty x y)
    (g : Nat) (cells : Array Value) (hx : a.eval x = .pointer (some ⟨g, 0, none⟩)) (hy : a.eval y = .agg cells)
    (t : TypeId) (old : Array Value) (hg : w.heap[g]? = some (.cells old t (0, 0))) (hi : (P.info? ty).map (·.size) = some cells.size)
    (hold : old.size = cells.size) (h1 : cells.all (·.oneCell') = true)
    (h : wpListIn F n P ops Q rest (a.put o.dst undef) (w.setRow g cells)) : wpListIn F n P ops Q (o :: rest) a w := by
  refine wpListIn_plain hgd fun K hK' => ?_
  have hrun := run_storeVar_row (P := P) w g t ty old cells hg hi hold h1
  unfold Oper.wpIn
  refine ⟨by simp [Oper.about, ho], ?_⟩
  rw [Oper.semAt_plain F _ _ (by rw [ho]; intro c hc'; cases hc')]
  simp only [execOp, ho, hx, hy, Instr.storeAt, Instr.sureAddr, Sem.run_bind, Sem.run_pure, Result.andThen_ok, hrun]
  exact hK' _ _ h
/-- A byte's word. -/
def huff_w (c : Int) : Int × Int := huff_words.getD c.toNat (0, 0)
/-- The bits of a text. -/
def huff_enc : List Int → List Int
  | [] => []
  | c :: r => huff_low (huff_w c).1 (huff_w c).2.toNat ++ huff_enc r
theorem huff_bits.calls (s : ByteArray) (w : World) :
    Calls Try.prog 49 #[.string s] w fun e w' => e = .returned (.func (.func 56) #[] #[.pointer (some ⟨w.heap.size, 0, none⟩)]) ∧ w' = w.alloc (.cells #[.string s] 9) := by
  go_enter Try.func49, Try.ntmps49
  go_wp2
  go_ret
  exact ⟨rfl, rfl⟩
/-- What each round over a text's bits keeps. -/
def huff_Kp (W W' : World) : Prop := ∀ (g : Nat) (cs : Array Value) (t : TypeId) (fr : Nat × Nat), (t = 9 ∨ t = 67 ∨ t = 68) → W.heap[g]? = some (.cells cs t fr) → W'.heap[g]? = some (.cells cs t fr)
theorem huff_w_bd : ∀ n : Nat, n < 257 → 0 ≤ (huff_w n).1 ∧ (huff_w n).1 < 4294967296 ∧ 5 ≤ (huff_w n).2 ∧ (huff_w n).2 ≤ 30 := by
  have h : (List.range 257).all (fun n => decide (0 ≤ (huff_w n).1) && decide ((huff_w n).1 < 4294967296) && decide (5 ≤ (huff_w n).2) && decide ((huff_w n).2 ≤ 30)) = true := by decide +kernel
  intro n hn
  have := List.all_eq_true.1 h n (List.mem_range.2 hn)
  simp only [Bool.and_eq_true, decide_eq_true_eq] at this
  exact ⟨this.1.1.1, this.1.1.2, this.1.2, this.2⟩
set_option maxHeartbeats 3200000 in
set_option maxRecDepth 100000 in
theorem huff_bits.runs (N : Nat) (hN : 1 ≤ N) (Bn : Nat) (s : ByteArray) (hs : s.size ≤ 140737488351232) (w : World) (hb : Boxed w Bn 9 (.string s)) :
    SeqRuns Fence.wide N Try.prog 56 #[.pointer (some ⟨Bn, 0, none⟩)] (fun x => #[.bool (x == 1)]) Bn 9 huff_Kp (huff_enc (bytesOf s)) w := by
  have hro : Fence.wide.round = none := rfl
  intro l J W hW hJ hY hJ0
  have hbW : Boxed W Bn 9 (.string s) := (hW.block Bn hb.lt).trans hb
  have HBOX := Aside0.mk hbW
  have HY := Aside0.mk hY
  have HJ := Aside0.mk hJ
  have HJ0 := Aside0.mk hJ0
  clear hY hJ hbW hJ0 hb
  have hz := huff_code.zero
  obtain ⟨Z, hZ⟩ : ∃ Z : Array Value, Z = (huff_flat (List.replicate 257 (0, 0))).toArray := ⟨_, rfl⟩
  have hZs : Z.size = 514 := by rw [hZ, List.size_toArray, huff_flat_length, List.length_replicate]
  rw [← hZ] at hz
  obtain ⟨F, hF⟩ : ∃ F, F = (huff_flat huff_words).toArray := ⟨_, rfl⟩
  have hcall : ∀ w, Calls Try.prog 44 #[] w fun e w' => e = .returned (.agg F) ∧ Below w.heap.size w w' := by rw [hF]; exact huff_code.calls
  have HCALL := Aside0.mk hcall
  have HFs := Aside0.mk (show F.size = 514 by rw [hF, List.size_toArray, huff_flat_length, huff_words_length])
  have HF1 := Aside0.mk (show F.all (·.oneCell') = true by rw [hF]; exact huff_flat_one huff_words)
  have HZs := Aside0.mk hZs
  have HF := Aside0.mk hF
  clear hcall hF hZ hZs
  refine callsIn_of_wp Try.func56 rfl trivial ?_ hro
  simp only [Try.ntmps56, List.size_toArray, List.length_cons, List.length_nil, Nat.reduceAdd, Nat.reduceSub, Array.replicate_succ, Array.replicate_zero, List.push_toArray, List.append_toArray, List.nil_append, List.cons_append]
  gi_wp2
  refine ⟨trivial, (callsIn_wide.2 (HCALL.out _)).mono ?_⟩
  rintro e w1 ⟨rfl, hb1⟩
  have B1 := Aside0.mk hb1
  clear hb1
  gi_upto_region 1 with (refine manIn_store_row rfl 68 _ _ rfl w1.heap.size F rfl rfl 68 Z (man_alloc_block _ _ _) (by rw [HFs.out]; exact huff_code.size) (by rw [HFs.out]; exact HZs.out) HF1.out ?_)
  obtain ⟨B3, hB3⟩ : ∃ n, n = w1.heap.size := ⟨_, rfl⟩
  have G3 : ((w1.alloc (Obj.cells Z 68)).setRow B3 F).heap[B3]? = some (.cells F 68 (0, 0)) := by
    have := man_alloc_block w1 Z 68
    rw [← hB3] at this
    exact setRow_heap _ _ _ _ _ _ this
  have B2 : Below W.heap.size W ((w1.alloc (Obj.cells Z 68)).setRow B3 F) := man_below_setRow (below_alloc B1.out _) _ _ (by have := B1.out.size; omega)
  rw [← hB3]
  clear B1 hB3 hz
  generalize (w1.alloc (Obj.cells Z 68)).setRow B3 F = w2 at G3 B2 ⊢
  have HG3 := Aside0.mk G3
  have HBX := Aside0.mk (show Boxed w2 Bn 9 (.string s) from (B2.block Bn HBOX.out.lt).trans HBOX.out)
  have HJ2 := Aside0.mk (HJ.out [] W w2 none HJ0.out ⟨B2.os, B2.tape, B2.output, B2.size, fun i hi _ => B2.block i hi⟩ (fun r e => by cases e))
  clear G3 B2 HJ0 HBOX
  have hc := HBX.out.cell
  gi_wp2
  clear hc
  gi_loopw [10] (fun v10 wr => ∃ (k : Nat) (pre : List Int), k ≤ s.size ∧ v10 = .int .i64 k ∧ Aside0 (huff_enc (bytesOf s) = pre ++ huff_enc ((bytesOf s).drop k)) ∧ Aside0 (J pre wr) ∧ Aside0 (Boxed wr Bn 9 (.string s)) ∧ Aside0 (wr.heap[B3]? = some (.cells F 68 (0, 0)))) (fun v10 _ => s.size - (intOf v10).toNat)
  case atStart => exact ⟨0, [], by omega, rfl, ⟨rfl⟩, HJ2, HBX, HG3⟩
  case round =>
    clear HJ2 HBX HG3
    obtain ⟨k, pre, hk, rfl, HE, HJ2, HBX, HG3⟩ := hrel
    have hc := HBX.out.cell
    by_cases hlt : k < s.size
    · have hcb : s[k].toNat < 256 := s[k].toNat_lt
      have he := HE.out
      rw [man_bytesOf_drop s k hlt, huff_enc] at he
      obtain ⟨x, n, hxn⟩ : ∃ x n, huff_w (s[k].toNat : Nat) = (x, n) := ⟨_, _, rfl⟩
      have hbd := huff_w_bd s[k].toNat (by omega)
      rw [hxn] at he hbd
      simp only at he hbd
      have hp : F.extract (s[k].toNat * 2) (s[k].toNat * 2 + 2) = #[.int .u32 x, .int .u8 n] := by
        rw [HF.out, List.extract_toArray, List.extract_eq_take_drop]
        rw [show s[k].toNat * 2 + 2 - s[k].toNat * 2 = 2 by omega, huff_flat_at _ _ (by rw [huff_words_length]; omega)]
        have e : huff_words.getD s[k].toNat (0, 0) = (x, n) := by rw [← hxn]; unfold huff_w; rw [Int.toNat_natCast]
        rw [e]
      have hx0 : wr.cell? ⟨B3, s[k].toNat * 2, none⟩ = some (.int .u32 x) := by
        refine (blk_cell HG3.out _).trans ?_
        have := congrArg (fun A : Array Value => A[0]?) hp
        simp only [Array.getElem?_extract] at this
        rw [if_pos (by rw [HFs.out]; omega)] at this
        exact this
      have hx1 : wr.cell? ⟨B3, s[k].toNat * 2 + 1, none⟩ = some (.int .u8 n) := by
        refine (blk_cell HG3.out _).trans ?_
        have := congrArg (fun A : Array Value => A[1]?) hp
        simp only [Array.getElem?_extract] at this
        rw [if_pos (by rw [HFs.out]; omega)] at this
        exact this
      have HE := Aside0.mk he
      clear he hp hxn
      have hcb2 : (s[k].toNat : Int) < 257 := by omega
      gi_wp2
      obtain ⟨B5, hB5⟩ : ∃ g, g = wr.heap.size := ⟨_, rfl⟩
      have G5 := man_alloc_block wr #[Value.int IntKind.u32 x, Value.int IntKind.u8 n] 67
      rw [← hB5] at G5 ⊢
      have HG5 := Aside0.mk G5
      have HBX := Aside0.mk (HBX.out.alloc (.cells #[Value.int IntKind.u32 x, Value.int IntKind.u8 n] 67))
      have HG3 := Aside0.mk ((heap_alloc_old wr (.cells #[Value.int IntKind.u32 x, Value.int IntKind.u8 n] 67) (Array.getElem?_eq_some_iff.1 HG3.out).1).trans HG3.out)
      have HJ2 := Aside0.mk (HJ.out pre wr _ none HJ2.out (World.grownBy_alloc wr (.cells #[Value.int IntKind.u32 x, Value.int IntKind.u8 n] 67) none) (fun r e => by cases e))
      clear G5 hB5 hc hx0 hx1 hcb hcb2
      generalize wr.alloc (.cells #[Value.int IntKind.u32 x, Value.int IntKind.u8 n] 67) = w5 at HG5 HBX HG3 HJ2 ⊢
      obtain ⟨m, rfl⟩ := Int.eq_ofNat_of_zero_le (show 0 ≤ n by omega)
      rw [Int.toNat_natCast] at HE
      gi_loopw [6] (fun v6 wr => ∃ (j : Nat) (pre : List Int), j ≤ 30 ∧ v6 = .int .u8 j ∧ Aside0 (huff_enc (bytesOf s) = pre ++ (huff_low x j ++ huff_enc ((bytesOf s).drop (k + 1)))) ∧ Aside0 (J pre wr) ∧ Aside0 (Boxed wr Bn 9 (.string s)) ∧ Aside0 (wr.heap[B3]? = some (.cells F 68 (0, 0))) ∧ Aside0 (wr.heap[B5]? = some (.cells #[.int .u32 x, .int .u8 m] 67 (0, 0)))) (fun v6 _ => (intOf v6).toNat)
      case atStart => exact ⟨m, pre, by omega, rfl, HE, HJ2, HBX, HG3, HG5⟩
      case round =>
        clear HE HJ2 HBX HG3 HG5
        obtain ⟨j, pre, hj, rfl, HE, HJ2, HBX, HG3, HG5⟩ := hrel
        by_cases hj0 : j = 0
        · subst hj0
          have he := HE.out
          rw [huff_low, List.nil_append] at he
          have HE := Aside0.mk he
          clear he
          gi_wp2
          go_roundw
          case rel => exact ⟨k + 1, pre, by omega, by go_num, HE, HJ2, HBX, HG3⟩
          case measure => simp [intOf]; omega
        · obtain ⟨i, rfl⟩ : ∃ i, j = i + 1 := ⟨j - 1, by omega⟩
          have he := HE.out
          rw [huff_low, List.cons_append, Int.emod_eq_of_lt hbd.1 hbd.2.1] at he
          have hq : 0 ≤ x / 2 ^ i ∧ x / 2 ^ i < 4294967296 := by
            have := huff_quo_bd x i
            rwa [Int.emod_eq_of_lt hbd.1 hbd.2.1] at this
          have hand := huff_and (x / 2 ^ i) hq.1 hq.2
          obtain ⟨b, hb⟩ : ∃ b, x / 2 ^ i % 2 = b := ⟨_, rfl⟩
          rw [hb] at he hand
          have HE := Aside0.mk he
          have hx0 : wr.cell? ⟨B5, 0, none⟩ = some (.int .u32 x) := (blk_cell HG5.out 0).trans rfl
          obtain ⟨fn, tmps, assign, body, hy, hR⟩ := HY.out pre b _ wr HE.out HJ2.out
          clear he hb hq
          gi_wp2
          refine hR.mono ?_
          rintro e W3 ⟨rfl, hJ3, hk3⟩
          have HJ3 := Aside0.mk hJ3
          have HBX3 := Aside0.mk (show Boxed W3 Bn 9 (.string s) from hk3 _ _ _ _ (.inl rfl) HBX.out)
          have HG33 := Aside0.mk (hk3 _ _ _ _ (.inr (.inr rfl)) HG3.out)
          have HG53 := Aside0.mk (hk3 _ _ _ _ (.inr (.inl rfl)) HG5.out)
          clear hJ3 hk3 hR hy hx0
          gi_wp2
          go_roundw
          case rel => exact ⟨i, pre ++ [b], by omega, by go_num, ⟨by rw [HE.out]; simp⟩, HJ3, HBX3, HG33, HG53⟩
          case measure => simp [intOf]
    · obtain rfl : k = s.size := by omega
      have he := HE.out
      rw [List.drop_eq_nil_of_le (by rw [man_bytesOf_length]; exact Nat.le_refl _), huff_enc, List.append_nil] at he
      have HE := Aside0.mk he
      clear he
      gi_wp2
      go_end0
      exact ⟨⟨_, rfl⟩, by rw [HE.out]; exact HJ2.out⟩


end Go.Proofs.Ytmkmefdajbdceaa.PTX
