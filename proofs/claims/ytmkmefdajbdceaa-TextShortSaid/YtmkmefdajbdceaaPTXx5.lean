-- Written by wip/mprint.py (the kit's printer, and texts of this claim's own for what it does not take). Not trusted: Lean checks it.
import Derived.Test.YtmkmefdajbdceaaPTXx0
import Derived.Test.YtmkmefdajbdceaaPTXx1
import Derived.Test.YtmkmefdajbdceaaPTXx3
import Derived.Test.YtmkmefdajbdceaaPTXx4
namespace Go.Proofs.Ytmkmefdajbdceaa.PTX
open Go.RowKit Go.Proofs.YtmkmefdajbdceaaW.PrintWords Go.Proofs.YtmkmefdajbdceaaW.PrintLast Go.Proofs.YtmkmefdajbdceaaW.PrintMore
attribute [local go_sem] max2_int min2_int max_two min_two max_three min_three max_four min_four   -- for this text's walks alone
set_option linter.unusedVariables false
set_option linter.unusedSimpArgs false

/-! ### huff_Get: function 27, by hand -/
theorem man_R_of_own {w : World} {base : Nat} {e : TypeId} {k : IntKind} {v : Value} {n : Nat} {xs : List Int} (h : w.ownsRow base e 1 v n (nums k xs)) : Kd.R (Kd.int k) e w base (fun _ => True) v xs := by
  have hl : xs.length = n := by have := h.1; simp [nums] at this; exact this
  subst hl
  exact Kd.R_of_own (enc := Value.int k) (h1 := fun _ => rfl) h (fun _ _ => trivial)

theorem huff_law : Maps.Keyed Try.prog 67 :=
  Maps.Keyed.of_law (deep_law_gate (by kernel_rfl) (of_decide_eq_true (by kernel_rfl)) (of_decide_eq_true (by kernel_rfl)) (by kernel_rfl) (by rw [Try.underlying67]))
theorem huff_keyOf (x n : Int) (hx : (Lit.int .u32 x).wf = true) (hn : (Lit.int .u8 n).wf = true) : (keyOf Try.prog 67 (.agg #[.int .u32 x, .int .u8 n])).isSome = true := by
  have h1 : Try.prog.keyType 67 = true := by kernel_rfl
  have h2 : Try.prog.cellsOf 67 = 2 := by kernel_rfl
  have h3 : Try.prog.cellsOf 57 = 1 := by kernel_rfl
  have h4 : Try.prog.cellsOf 5 = 1 := by kernel_rfl
  have h5 : (Value.agg #[.int .u32 x, .int .u8 n]).formed Try.prog 67 = true := by simp [Value.formed, Try.underlying67, h2]
  obtain ⟨d, hd⟩ : ∃ d, Try.prog.types.size + 1 = d + 2 := ⟨Try.prog.types.size - 1, by have : 1 ≤ Try.prog.types.size := of_decide_eq_true (by kernel_rfl); omega⟩
  unfold keyOf
  rw [Try.underlying67]
  simp only [h1, h5, Bool.and_self, if_true, Value.cells]
  rw [hd]
  simp [Program.keyLits, Try.underlying67, Try.underlying57, Try.underlying5, h2, h3, h4, hx, hn]
/-- What a word reads as, as a key. -/
noncomputable def huff_kl (p : Int × Int) : Lit := (keyOf Try.prog 67 (.agg #[.int .u32 p.1, .int .u8 p.2])).getD (.bool true)
def huff_wf (p : Int × Int) : Prop := (Lit.int .u32 p.1).wf = true ∧ (Lit.int .u8 p.2).wf = true
theorem huff_kl_of (p : Int × Int) (h : huff_wf p) : keyOf Try.prog 67 (.agg #[.int .u32 p.1, .int .u8 p.2]) = some (huff_kl p) := by
  have := huff_keyOf p.1 p.2 h.1 h.2
  unfold huff_kl
  cases hk : keyOf Try.prog 67 (.agg #[.int .u32 p.1, .int .u8 p.2]) with
  | none => rw [hk] at this; cases this
  | some l => rfl
theorem huff_kl_inj (p q : Int × Int) (hp : huff_wf p) (hq : huff_wf q) (h : huff_kl p = huff_kl q) : p = q := by
  have h1 := huff_kl_of p hp
  have h2 := huff_kl_of q hq
  rw [← h] at h2
  have := huff_law.inj h1 h2
  simp only [Value.agg.injEq, Array.mk.injEq, List.cons.injEq, Value.int.injEq, true_and, and_true] at this
  exact Prod.ext this.1 this.2
/-- The map of the first k words. -/
noncomputable def huff_D : Nat → DataW Unit
  | 0 => .map []
  | k + 1 => (huff_D k).put (huff_kl (huff_words.getD k (0, 0))) (.lit (.int .i64 k))
/-- At which place a word stands among the first k. -/
def huff_find : Nat → Int × Int → Option Nat
  | 0, _ => none
  | k + 1, p => if huff_words.getD k (0, 0) = p then some k else huff_find k p
theorem huff_D_map : ∀ k, Maps.IsMap (huff_D k)
  | 0 => Maps.isMap_empty
  | k + 1 => (huff_D_map k).put _ _
theorem huff_words_wf : ∀ p ∈ huff_words, huff_wf p := by
  have h : huff_words.all (fun p => (Lit.int .u32 p.1).wf && (Lit.int .u8 p.2).wf) = true := by decide +kernel
  intro p hp
  have := List.all_eq_true.1 h p hp
  simpa [huff_wf] using this
theorem huff_word_wf (k : Nat) : huff_wf (huff_words.getD k (0, 0)) := by
  by_cases hk : k < huff_words.length
  · have : huff_words.getD k (0, 0) = huff_words[k] := by simp [List.getD_eq_getElem?_getD, List.getElem?_eq_getElem hk]
    rw [this]
    exact huff_words_wf _ (List.getElem_mem hk)
  · have : huff_words.getD k (0, 0) = (0, 0) := by rw [List.getD_eq_getElem?_getD, List.getElem?_eq_none (by omega)]; rfl
    rw [this]
    exact ⟨by decide, by decide⟩
theorem huff_D_at (p : Int × Int) (hp : huff_wf p) : ∀ k, Maps.has (huff_D k) (huff_kl p) = (huff_find k p).isSome ∧ (huff_D k).atKey (huff_kl p) (.lit (.int .i64 0)) = .lit (.int .i64 ((huff_find k p).getD 0 : Nat))
  | 0 => ⟨rfl, rfl⟩
  | k + 1 => by
    have ih := huff_D_at p hp k
    have hw := huff_word_wf k
    unfold huff_D huff_find
    by_cases h : huff_words.getD k (0, 0) = p
    · rw [if_pos h, h]
      have hkey := huff_law.key (huff_kl_of p hp)
      exact ⟨Maps.has_put_same (huff_D_map k) hkey _, Maps.atKey_put_same (huff_D_map k) hkey _ _⟩
    · rw [if_neg h]
      have hne : huff_kl p ≠ huff_kl (huff_words.getD k (0, 0)) := fun e => h (huff_kl_inj _ _ hp hw e).symm
      rw [Maps.has_put_other hne, Maps.atKey_put_other hne]
      exact ih

/-- The lowest j bits of a byte, the highest one first. -/
def huff_low (c : Int) : Nat → List Int
  | 0 => []
  | j + 1 => c % 4294967296 / 2 ^ j % 2 :: huff_low c j
def huff_bits8 (l : List Int) : List Int := l.flatMap fun c => huff_low c 8
/-- One bit: the word that is begun (its bits, how many), were all its bits ones, the text so far. -/
def huff_step (b x n : Int) (ones : Bool) (out : List Int) : Option (Int × Int × Bool × List Int) :=
  match huff_find 257 (x * 2 % 4294967296 + b, (n + 1) % 256) with
  | none => some (x * 2 % 4294967296 + b, (n + 1) % 256, ones && b == 1, out)
  | some i => if i = 256 then none else some (0, 0, true, out ++ [(i : Int) % 256])
def huff_go : List Int → Int → Int → Bool → List Int → Option (Int × Int × Bool × List Int)
  | [], x, n, ones, out => some (x, n, ones, out)
  | b :: bs, x, n, ones, out => (huff_step b x n ones out).bind fun r => huff_go bs r.1 r.2.1 r.2.2.1 r.2.2.2
def huff_Get.f (l : List Int) : Option (ByteArray × Int) :=
  if (1048576 : Int) < l.length then some (⟨#[]⟩, 3)
  else match huff_go (huff_bits8 l) 0 0 true [] with
    | none => some (⟨#[]⟩, 5)
    | some (_, n, ones, out) => if 8 ≤ n ∨ ones = false then some (⟨#[]⟩, 5) else some (strOfNums out, 0)
theorem man_ownsMap_heap {H : Type} {P : Program} {k : TypeId} {R : Value → Option (DataW H × List MemPlace)} {w w' : World} {b n : Nat} {D : DataW H} (h : w.ownsMap P k R b n D) (he : w'.heap[b]? = w.heap[b]?) : w'.ownsMap P k R b n D := by
  obtain ⟨es, c, hb, r⟩ := h
  exact ⟨es, c, he.trans hb, r⟩
theorem man_ownsRow_heap {w w' : World} {base : Nat} {e : TypeId} {size : Nat} {v : Value} {n : Nat} {xs : List Value} (h : w.ownsRow base e size v n xs) (he : ∀ g, v.ownBlock = some g → w'.heap[g]? = w.heap[g]?) : w'.ownsRow base e size v n xs := by
  refine ⟨h.1, ?_⟩
  rcases h.2 with hn | ⟨g, cap, cur, rfl, hb, hg, rest⟩
  · exact .inl hn
  · exact .inr ⟨g, cap, cur, rfl, hb, (he g rfl).trans hg, rest⟩
theorem huff_or (x b : Int) (hb : b = 0 ∨ b = 1) : bits .or .u32 (x * 2 % 4294967296) b = x * 2 % 4294967296 + b := by
  obtain ⟨y, hy, hy1, hy2⟩ : ∃ y : Int, x * 2 % 4294967296 = 2 * y ∧ 0 ≤ y ∧ y < 2147483648 := ⟨x % 2147483648, by omega, by omega, by omega⟩
  rw [hy, u32_or _ _ (by omega) (by omega) (by omega) (by omega)]
  obtain ⟨z, rfl⟩ := Int.eq_ofNat_of_zero_le hy1
  rcases hb with rfl | rfl
  · simp; omega
  · have e : ((2 * (z : Int)).toNat ||| (1 : Int).toNat) = 2 ^ 1 * z + 1 := by
      rw [show (2 * (z : Int)).toNat = 2 ^ 1 * z by omega, Nat.two_pow_add_eq_or_of_lt (by decide : 1 < 2 ^ 1)]
      rfl
    rw [e]
    omega
theorem man_wraps_u32 (n : Int) (h₀ : 0 ≤ n) (h₁ : n < 2 ^ 32) : IntKind.u32.wrap n = n := by rw [IntKind.wrap_u32]; omega
theorem huff_and (y : Int) (h0 : 0 ≤ y) (h1 : y < 4294967296) : bits .and .u32 y 1 = y % 2 := bits_mask .u32 32 (by decide) man_wraps_u32 1 (by decide) y h0 h1
theorem huff_go_cons (b x n : Int) (ones : Bool) (out bs : List Int) : huff_go (b :: bs) x n ones out = match huff_find 257 (x * 2 % 4294967296 + b, (n + 1) % 256) with
    | none => huff_go bs (x * 2 % 4294967296 + b) ((n + 1) % 256) (ones && b == 1) out
    | some i => if i = 256 then none else huff_go bs 0 0 true (out ++ [(i : Int) % 256]) := by
  rw [huff_go, huff_step]
  cases huff_find 257 (x * 2 % 4294967296 + b, (n + 1) % 256) with
  | none => rfl
  | some i =>
    by_cases h : i = 256
    · simp [h]
    · simp [h]
theorem huff_zeroInt (w : World) : (zeroValue 3).run Try.prog w = .ok (.int .i64 0) w := by kernel_rfl
theorem huff_bit_bd (y : Int) : y % 2 = 0 ∨ y % 2 = 1 := by omega
theorem huff_quo_bd (c : Int) (k : Nat) : 0 ≤ c % 4294967296 / 2 ^ k ∧ c % 4294967296 / 2 ^ k < 4294967296 := by
  have h0 : 0 ≤ c % 4294967296 := by omega
  have hp : (0 : Int) < 2 ^ k := Int.pow_pos (by decide)
  refine ⟨Int.ediv_nonneg h0 (Int.le_of_lt hp), Int.lt_of_le_of_lt (Int.ediv_le_self _ h0) (by omega)⟩

theorem huff_flat_at : ∀ (l : List (Int × Int)) (i : Nat) (hi : i < l.length), ((huff_flat l).drop (i * 2)).take 2 = [.int .u32 (l.getD i (0, 0)).1, .int .u8 (l.getD i (0, 0)).2]
  | p :: r, 0, _ => by simp [huff_flat]
  | p :: r, i + 1, hi => by
    have ih := huff_flat_at r i (by simpa using hi)
    rw [show (i + 1) * 2 = i * 2 + 1 + 1 by omega]
    simpa [huff_flat] using ih
theorem huff_word_index (F : Array Value) (hF : F = (huff_flat huff_words).toArray) (i : Nat) (hi : i < 257) (w : World) : (Instr.index 68 (.agg F) (.int .i64 (i : Int))).run Try.prog w = .ok (.agg #[.int .u32 (huff_words.getD i (0, 0)).1, .int .u8 (huff_words.getD i (0, 0)).2]) w := by
  have hs : ∀ w, (sizeOf 67).run Try.prog w = .ok 2 w := by
    intro w
    have h := huff_code.word
    cases hq : Try.prog.info? 67 with
    | none => rw [hq] at h; cases h
    | some q => rw [hq] at h; simp [sizeOf, typeInfo, hq]; simpa using h
  have ha : ∀ w, (isAgg 67).run Try.prog w = .ok true w := by
    intro w
    unfold isAgg
    rw [Sem.run_bind, run_underlying Try.underlying67 w]
    rfl
  have hc : F.extract (i * 2) (i * 2 + 2) = #[.int .u32 (huff_words.getD i (0, 0)).1, .int .u8 (huff_words.getD i (0, 0)).2] := by
    rw [hF, List.extract_toArray, List.extract_eq_take_drop]
    rw [show i * 2 + 2 - i * 2 = 2 by omega, huff_flat_at _ i (by rw [huff_words_length]; exact hi)]
  simp [Instr.index, asIntOf, run_underlying Try.underlying68, part, Sem.run_bind, hs, ha, hc, hi]
theorem man_below_grown {w W W' : World} (h : Below w.heap.size w W) {b : Nat} (hg : W.grownBy W' (some b)) (hb : w.heap.size ≤ b) : Below w.heap.size w W' :=
  ⟨hg.os.trans h.os, hg.tape.trans h.tape, hg.output.trans h.output, Nat.le_trans h.size hg.size, fun k hk => (hg.block k (Nat.lt_of_lt_of_le hk h.size) (by simp; omega)).trans (h.block k hk)⟩
/-- What holds within a byte: the word that is begun, the text so far. -/
def huff_Inner (w : World) (g8 : Nat) (l : List Int) (R : Option (Int × Int × Bool × List Int)) (top : Nat) (v7 v9 : Value) (wr : World) : Prop :=
  ∃ (x n : Int) (ones : Bool) (out : List Int), v9 = .bool ones ∧ huff_go l x n ones out = R ∧ out.length ≤ top ∧ wr.heap[g8]? = some (.cells #[.int .u32 x, .int .u8 n] 67 (0, 0)) ∧ wr.ownsRow w.heap.size 5 1 v7 out.length (nums .u8 out) ∧ (∀ k, v7.ownBlock = some k → g8 < k)
set_option maxHeartbeats 3200000 in
set_option maxRecDepth 100000 in
theorem huff_Get.calls (A0 : Option Addr) (c0 : Nat) (l0 : List Int) (r1 : ByteArray) (r2 : Int) (w : World) (hr0 : Kd.C (Kd.int .u8) w A0 l0.length l0) (hc0 : l0.length ≤ c0) (h : huff_Get.f l0 = some (r1, r2)) :
    Calls Try.prog 27 #[.slice A0 l0.length c0] w fun e w' => e = .returned (.tuple #[.string r1, .int .i64 r2]) ∧ Below w.heap.size w w' := by
  have HR0 := Aside0.mk hr0
  have HC0 := Aside0.mk hc0
  clear hr0 hc0
  by_cases hbig : (1048576 : Int) < l0.length
  · rw [huff_Get.f, if_pos hbig] at h
    simp only [Option.some.injEq, Prod.mk.injEq] at h
    obtain ⟨rfl, rfl⟩ := h
    go_enter Try.func27, Try.ntmps27
    go_wp2_with (fail)
    go_ret2
    exact ⟨rfl, Below.refl _ _⟩
  · rw [huff_Get.f, if_neg hbig] at h
    have HH := Aside0.mk h
    clear h
    have hmm := @run_makeMap Try.prog
    obtain ⟨F, hF⟩ : ∃ F, F = (huff_flat huff_words).toArray := ⟨_, rfl⟩
    have hcall : ∀ w, Calls Try.prog 44 #[] w fun e w' => e = .returned (.agg F) ∧ Below w.heap.size w w' := by rw [hF]; exact huff_code.calls
    have HCALL := Aside0.mk hcall
    have HF := Aside0.mk hF
    clear hcall hF
    go_enter Try.func27, Try.ntmps27
    go_wp2_with (go_at_call 44; refine (HCALL.out _).mono ?_; rintro e w1 ⟨rfl, hb⟩; have B1 := Aside0.mk (below_step (below_alloc (Below.refl w.heap.size w) _) hb); have M1 := Aside0.mk (man_ownsMap_heap (World.ownsMap_made w Try.prog 67 (plainElem (H := Unit) Try.prog 3)) (hb.block w.heap.size (by rw [World.alloc]; simp))); clear hb)
    have HIX := Aside0.mk (huff_word_index F HF.out)
    clear hmm
    go_loopw [21, 5] (fun v21 _ wr => ∃ i : Nat, i ≤ 257 ∧ v21 = .int .i64 i ∧ Aside0 (wr.ownsMap Try.prog 67 (plainElem (H := Unit) Try.prog 3) w.heap.size i (huff_D i)) ∧ Aside0 (Below w.heap.size w wr)) (fun v21 _ _ => 257 - (intOf v21).toNat)
    case atStart => exact ⟨0, by omega, rfl, M1, B1⟩
    case round =>
      obtain ⟨i, hi, rfl, HM, HB⟩ := hrel
      by_cases hi2 : i < 257
      · have hix := HIX.out i hi2
        have hwf := huff_word_wf i
        obtain ⟨x, n, hxn⟩ : ∃ x n, huff_words.getD i (0, 0) = (x, n) := ⟨_, _, rfl⟩
        have HXN := Aside0.mk hxn
        rw [hxn] at hix hwf
        have HK := Aside0.mk (huff_kl_of (x, n) hwf)
        clear hxn hwf
        go_wp2_with (at_mapUpdate; refine wpList_mapUpdate_own (H := Unit) _ rfl _ _ _ 65 rfl 67 3 huff_law Try.underlying65 _ w.heap.size i (huff_D i) rfl (HM.out.alloc _) (by unfold maxLen; omega) _ _ (huff_kl (x, n)) rfl rfl HK.out (.lit (.int .i64 i)) [] (plainElem_int Try.underlying3 (WalkArith.wf_i64 (by omega))) ?_; intro w2 hown2 hgrow2; have HM2 := Aside0.mk hown2; have HB2 := Aside0.mk (man_below_grown (below_alloc HB.out _) hgrow2 (Nat.le_refl _)); clear hown2 hgrow2)
        go_roundw
        case rel => exact ⟨i + 1, by omega, by go_num, ⟨by rw [huff_D, HXN.out]; exact HM2.out⟩, HB2⟩
        case measure => simp [intOf]; omega
      · obtain rfl : i = 257 := by omega
        go_wp2_with (fail)
        obtain ⟨g8, hg8⟩ : ∃ g, g = wr.heap.size := ⟨_, rfl⟩
        have G0 := man_alloc_block wr #[Value.int IntKind.u32 0, Value.int IntKind.u8 0] 67
        rw [← hg8] at G0 ⊢
        have HG := Aside0.mk G0
        have HLT := Aside0.mk (show w.heap.size < g8 by rw [hg8]; exact HM.out.lt)
        have HM := Aside0.mk (HM.out.alloc (.cells #[Value.int IntKind.u32 0, Value.int IntKind.u8 0] 67))
        have HB := Aside0.mk (below_alloc HB.out (.cells #[Value.int IntKind.u32 0, Value.int IntKind.u8 0] 67))
        clear G0 hg8 hi hi2 HIX HCALL HF M1 B1
        obtain ⟨R, hR⟩ : ∃ R, huff_go (huff_bits8 l0) 0 0 true [] = R := ⟨_, rfl⟩
        have hh := HH.out
        rw [hR] at hh
        have HH := Aside0.mk hh
        have HGO := Aside0.mk hR
        clear hh hR
        generalize wr.alloc (.cells #[Value.int IntKind.u32 0, Value.int IntKind.u8 0] 67) = w9 at HG HM HB ⊢
        go_loopw [7, 9, 31] (fun v7 v9 v31 wr => ∃ (i : Nat), i ≤ l0.length ∧ v31 = .int .i64 i ∧ huff_Inner w g8 (huff_bits8 (l0.drop i)) R (8 * i) v7 v9 wr ∧ Aside0 (wr.ownsMap Try.prog 67 (plainElem (H := Unit) Try.prog 3) w.heap.size 257 (huff_D 257)) ∧ Aside0 (Below w.heap.size w wr)) (fun _ _ v31 _ => l0.length - (intOf v31).toNat)
        case atStart => exact ⟨0, by omega, rfl, ⟨0, 0, true, [], rfl, HGO.out, by simp, HG.out, World.ownsRow_nil _ _ _ _, fun k hk => by simp [Value.ownBlock] at hk⟩, HM, HB⟩
        case round =>
          clear HG HM HB
          obtain ⟨i, hi, rfl, HALL, HM, HB⟩ := hrel
          obtain ⟨x, n, ones, out, rfl, hs0, hol0, hg0, ho0, hv0⟩ := HALL
          have HS := Aside0.mk hs0
          have HOL := Aside0.mk hol0
          have HG := Aside0.mk hg0
          have HO := Aside0.mk ho0
          have HV := Aside0.mk hv0
          clear hs0 hol0 hg0 ho0 hv0
          by_cases hi2 : i < l0.length
          · obtain ⟨ad2, e2, hx2⟩ := Kd.at_int (Kd.C_below HR0.out HB.out) i (by omega) (by omega)
            cases e2
            simp only [Int.toNat_natCast] at hx2
            obtain ⟨c, hc⟩ : ∃ c, rd l0 i = c := ⟨_, rfl⟩
            have hdrop : l0.drop i = c :: l0.drop (i + 1) := by
              rw [List.drop_eq_getElem_cons hi2, ← hc]
              simp [rd, List.getD_eq_getElem?_getD, List.getElem?_eq_getElem hi2]
            rw [hc] at hx2
            have hs := HS.out
            rw [hdrop, huff_bits8, List.flatMap_cons] at hs
            have HS := Aside0.mk hs
            clear hs hdrop hc
            go_wp2_with (fail)
            go_loopw [7, 9, 12] (fun v7 v9 v12 wr => ∃ (j : Nat), j ≤ 8 ∧ v12 = .int .i64 ((j : Int) - 1) ∧ huff_Inner w g8 (huff_low c j ++ huff_bits8 (l0.drop (i + 1))) R (8 * i + (8 - j)) v7 v9 wr ∧ Aside0 (wr.ownsMap Try.prog 67 (plainElem (H := Unit) Try.prog 3) w.heap.size 257 (huff_D 257)) ∧ Aside0 (Below w.heap.size w wr)) (fun _ _ v12 _ => ((intOf v12) + 1).toNat)
            case atStart => exact ⟨8, by omega, rfl, ⟨x, n, ones, out, rfl, HS.out, by have := HOL.out; omega, HG.out, HO.out, HV.out⟩, HM, HB⟩
            case round =>
              clear hx2 HS HOL HG HO HV HM HB
              obtain ⟨j, hj, rfl, HALL, HM, HB⟩ := hrel
              obtain ⟨x, n, ones, out, rfl, hs0, hol0, hg0, ho0, hv0⟩ := HALL
              have HS := Aside0.mk hs0
              have HOL := Aside0.mk hol0
              have HG := Aside0.mk hg0
              have HO := Aside0.mk ho0
              have HV := Aside0.mk hv0
              clear hs0 hol0 hg0 ho0 hv0
              by_cases hj0 : j = 0
              · subst hj0
                go_wp2_with (fail)
                go_roundw
                case rel => exact ⟨i + 1, by omega, by go_num, ⟨x, n, ones, out, rfl, HS.out, by have := HOL.out; omega, HG.out, HO.out, HV.out⟩, HM, HB⟩
                case measure => simp [intOf]; omega
              · obtain ⟨k, rfl⟩ : ∃ k, j = k + 1 := ⟨j - 1, by omega⟩
                go_upto_region 19 with (fail)
                obtain ⟨b, hb, hb01⟩ : ∃ b, c % 4294967296 / 2 ^ k % 2 = b ∧ (b = 0 ∨ b = 1) := ⟨_, rfl, huff_bit_bd _⟩
                have hand : bits .and .u32 (c % 4294967296 / 2 ^ k) 1 = b := by rw [huff_and _ (huff_quo_bd c k).1 (huff_quo_bd c k).2, hb]
                rw [hand]
                clear hand
                obtain ⟨X, hX⟩ : ∃ X, x * 2 % 4294967296 + b = X := ⟨_, rfl⟩
                obtain ⟨N1, hN1⟩ : ∃ N1, (n + 1) % 256 = N1 := ⟨_, rfl⟩
                have hor : bits .or .u32 (x * 2 % 4294967296) b = X := by rw [huff_or x b hb01, hX]
                have hwf : huff_wf (X, N1) := ⟨WalkArith.wf_u32 (by show 0 ≤ X ∧ X ≤ 4294967295; omega), WalkArith.wf_u8 (by show 0 ≤ N1 ∧ N1 ≤ 255; omega)⟩
                have HK := Aside0.mk (huff_kl_of (X, N1) hwf)
                have HD := Aside0.mk (huff_D_at (X, N1) hwf 257)
                have hs : huff_go (b :: (huff_low c k ++ huff_bits8 (l0.drop (i + 1)))) x n ones out = R := by rw [← hb]; exact HS.out
                rw [huff_go_cons, hX, hN1] at hs
                have HS := Aside0.mk hs
                clear hs hb hX hwf
                have hx8 : wr.cell? ⟨g8, 0, none⟩ = some (.int .u32 x) := (blk_cell HG.out 0).trans rfl
                have hx9 : wr.cell? ⟨g8, 1, none⟩ = some (.int .u8 n) := (blk_cell HG.out 1).trans rfl
                go_upto_region 20 with (refine wpList_store_row rfl 67 _ _ rfl g8 #[.int .u32 X, .int .u8 N1] rfl rfl 67 _ HG.out huff_code.word rfl (man_two_one _ _ _ _) ?_)
                have HG2 := Aside0.mk (setRow_heap wr g8 _ #[.int .u32 X, .int .u8 N1] _ _ HG.out)
                have HO2 := Aside0.mk (man_ownsRow_heap (w' := wr.setRow g8 #[.int .u32 X, .int .u8 N1]) HO.out (fun g hg => setRow_other _ _ _ _ (by have := HV.out g hg; omega)))
                have HM2 := Aside0.mk (man_ownsMap_heap (w' := wr.setRow g8 #[.int .u32 X, .int .u8 N1]) HM.out (setRow_other _ _ _ _ (by have := HLT.out; omega)))
                have HB2 := Aside0.mk (man_below_setRow HB.out g8 #[.int .u32 X, .int .u8 N1] (by have := HLT.out; omega))
                clear hx8 hx9 hor hN1 HG HO HM HB
                generalize wr.setRow g8 #[.int .u32 X, .int .u8 N1] = w2 at HG2 HO2 HM2 HB2 ⊢
                rcases hb01 with rfl | rfl <;> cases ones <;> (
                  cases hf : huff_find 257 (X, N1) with
                  | none =>
                    have hs := HS.out
                    rw [hf] at hs
                    have HS := Aside0.mk hs
                    have hd := HD.out.1
                    rw [hf] at hd
                    have hd2 : Maps.has (huff_D 257) (huff_kl (X, N1)) = false := hd
                    clear hs hd hf
                    go_wp2_with (first | (refine wpList_load_row rfl 67 _ rfl g8 rfl 67 #[.int .u32 X, .int .u8 N1] (0, 0) _ HG2.out Try.underlying67 rfl huff_code.word ?_) | (at_lookup; refine wpList_lookup_own_ok_int (H := Unit) _ rfl _ _ 65 rfl 67 3 .i64 huff_law Try.underlying65 Try.underlying3 (huff_zeroInt _) w.heap.size 257 (huff_D 257) rfl HM2.out _ (huff_kl (X, N1)) rfl HK.out ?_; intro cc hat hwc; rw [hd2]; clear hat hwc))
                    refine ⟨⟨_, _, _, _, _, ⟨k, by omega, rfl, ?_⟩, rfl, rfl, rfl, rfl, rfl⟩, by simp [intOf]; omega⟩
                    exact ⟨X, N1, _, out, rfl, HS.out, (by have := HOL.out; omega), HG2.out, HO2.out, HV.out⟩
                  | some m =>
                    have hs := HS.out
                    rw [hf] at hs
                    have hd := HD.out
                    rw [hf] at hd
                    have hd2 : Maps.has (huff_D 257) (huff_kl (X, N1)) = true := hd.1
                    have HD2 := Aside0.mk hd.2
                    clear hd hf
                    by_cases hm : m = 256
                    · subst hm
                      have hr : none = R := by simpa using hs
                      subst hr
                      have hh := HH.out
                      simp only [Option.some.injEq, Prod.mk.injEq] at hh
                      obtain ⟨rfl, rfl⟩ := hh
                      clear hs
                      go_wp2_with (first | (refine wpList_load_row rfl 67 _ rfl g8 rfl 67 #[.int .u32 X, .int .u8 N1] (0, 0) _ HG2.out Try.underlying67 rfl huff_code.word ?_) | (at_lookup; refine wpList_lookup_own_ok_int (H := Unit) _ rfl _ _ 65 rfl 67 3 .i64 huff_law Try.underlying65 Try.underlying3 (huff_zeroInt _) w.heap.size 257 (huff_D 257) rfl HM2.out _ (huff_kl (X, N1)) rfl HK.out ?_; intro cc hat hwc; obtain rfl : ((256 : Nat) : Int) = cc := by { have h1 := hat.symm.trans HD2.out; simpa using h1.symm }; rw [hd2]; clear hat hwc) )
                      go_ret2
                      exact ⟨rfl, HB2.out⟩
                    · have hs2 : huff_go (huff_low c k ++ huff_bits8 (l0.drop (i + 1))) 0 0 true (out ++ [(m : Int) % 256]) = R := by simpa [hm] using hs
                      have HS := Aside0.mk hs2
                      have hm0 : ((m : Int) == 256) = false := beq_eq_false_iff_ne.mpr (by omega)
                      clear hs hs2
                      go_wp2_with (first | (refine wpList_load_row rfl 67 _ rfl g8 rfl 67 #[.int .u32 X, .int .u8 N1] (0, 0) _ HG2.out Try.underlying67 rfl huff_code.word ?_) | (at_lookup; refine wpList_lookup_own_ok_int (H := Unit) _ rfl _ _ 65 rfl 67 3 .i64 huff_law Try.underlying65 Try.underlying3 (huff_zeroInt _) w.heap.size 257 (huff_D 257) rfl HM2.out _ (huff_kl (X, N1)) rfl HK.out ?_; intro cc hat hwc; obtain rfl : (m : Int) = cc := by { have h1 := hat.symm.trans HD2.out; simpa using h1.symm }; rw [hd2]; clear hat hwc) | (at_builtin; refine print_append_num (w0 := w) w.heap.size rfl (.tmp 70) (.tmp 73) 22 5 .u8 1 rfl Try.underlying22 man_info_u8 (by decide) _ out ((m : Int) % 256) rfl rfl HO2.out HB2.out HB2.out.size (by have := HOL.out; omega) ?_; intro v1 w3 ho1 hb1 hgr hat; have HO3 := Aside0.mk ho1; have HB3 := Aside0.mk hb1; have HG3 := Aside0.mk ((hgr.block g8 (by have := (Array.getElem?_eq_some_iff.1 HG2.out).1; exact this) (fun e => by have := HV.out g8 e.symm; omega)).trans HG2.out); have HM3 := Aside0.mk (HM2.out.kept hgr (fun e => by have := HV.out _ e.symm; have := HLT.out; omega)); have HV3 := Aside0.mk (show ∀ k, v1.ownBlock = some k → g8 < k from fun k hk => by rcases hat with h | ⟨bb, h, hbb⟩; exact HV.out k (h ▸ hk); (have : bb = k := by rw [h] at hk; exact Option.some.inj hk); have := (Array.getElem?_eq_some_iff.1 HG2.out).1; omega); clear ho1 hb1 hgr hat) | (refine wpList_store_row rfl 67 _ _ rfl g8 #[.int .u32 0, .int .u8 0] rfl rfl 67 _ HG3.out huff_code.word rfl (man_two_one _ _ _ _) ?_))
                      exact ⟨⟨_, _, _, _, _, ⟨k, by omega, rfl, ⟨0, 0, true, _, rfl, HS.out, (by rw [List.length_append]; have := HOL.out; simp; omega), setRow_heap _ g8 _ #[.int .u32 0, .int .u8 0] _ _ HG3.out, man_ownsRow_heap HO3.out (fun g hg => setRow_other _ _ _ _ (by have := HV3.out g hg; omega)), HV3.out⟩, ⟨man_ownsMap_heap HM3.out (setRow_other _ _ _ _ (by have := HLT.out; omega))⟩, ⟨man_below_setRow HB3.out g8 _ (by have := HLT.out; omega)⟩⟩, rfl, rfl, rfl, rfl, rfl⟩, by simp [intOf]; omega⟩)
          · obtain rfl : i = l0.length := by omega
            have hs := HS.out
            rw [List.drop_eq_nil_of_le (Nat.le_refl _)] at hs
            have hr : some (x, n, ones, out) = R := hs
            subst hr
            have hh := HH.out
            clear hs
            have hx8 : wr.cell? ⟨g8, 0, none⟩ = some (.int .u32 x) := (blk_cell HG.out 0).trans rfl
            have hx9 : wr.cell? ⟨g8, 1, none⟩ = some (.int .u8 n) := (blk_cell HG.out 1).trans rfl
            by_cases h8 : 8 ≤ n
            · simp only [h8, true_or, if_true, Option.some.injEq, Prod.mk.injEq] at hh
              obtain ⟨rfl, rfl⟩ := hh
              go_wp2_with (fail)
              go_ret2
              exact ⟨rfl, HB.out⟩
            · cases ones with
              | false =>
                simp only [or_true, if_true, Option.some.injEq, Prod.mk.injEq] at hh
                obtain ⟨rfl, rfl⟩ := hh
                go_wp2_with (fail)
                go_ret2
                exact ⟨rfl, HB.out⟩
              | true =>
                have hh : some (strOfNums out, 0) = some (r1, r2) := by simpa [h8] using hh
                simp only [Option.some.injEq, Prod.mk.injEq] at hh
                obtain ⟨rfl, rfl⟩ := hh
                have hstr := own_string (P := Try.prog) (src := 22) (dst := 9) Try.underlying22 Try.underlying5 Try.underlying9 HO.out
                go_wp2_with (fail)
                go_ret2
                exact ⟨rfl, HB.out⟩


end Go.Proofs.Ytmkmefdajbdceaa.PTX
