-- Written by wip/mprint.py (the kit's printer, and texts of this claim's own for what it does not take). Not trusted: Lean checks it.
import Derived.Test.YtjjignoocaejiaaDoorPPRx0
import Derived.Test.YtjjignoocaejiaaDoorPPRx5
import Derived.Test.YtjjignoocaejiaaDoorPPRx6
namespace Go.Proofs.YtjjignoocaejiaaDoor.PPR
open Go.RowKit Go.Proofs.YtjjignoocaejiaaDoorW.PrintWords Go.Proofs.YtjjignoocaejiaaDoorW.PrintLast Go.Proofs.YtjjignoocaejiaaDoorW.PrintMore
attribute [local go_sem] max2_int min2_int max_two min_two max_three min_three max_four min_four   -- for this text's walks alone
set_option linter.unusedVariables false
set_option linter.unusedSimpArgs false

/-! ### prio_Text: function 8, by hand -/
theorem man_below_setRow {w w1 : World} (h : Below w.heap.size w w1) (g : Nat) (cs : Array Value) (hg : w.heap.size ≤ g) : Below w.heap.size w (w1.setRow g cs) :=
  ⟨h.os, h.tape, h.output, by rw [setRow_size]; exact h.size, fun k hk => by rw [setRow_other _ _ _ _ (by omega)]; exact h.block k hk⟩
theorem man_alloc_block (w : World) (cs : Array Value) (t : TypeId) : (w.alloc (.cells cs t)).heap[w.heap.size]? = some (.cells cs t (0, 0)) := by unfold World.alloc; exact Array.getElem?_push_size
/-- The zero value of a type, out of the table of types. -/
theorem man_zero {P : Program} (t : TypeId) (z : Value) (h : (P.info? t).bind (·.zero) = some z) (w : World) : (zeroValue t).run P w = .ok z w := by
  cases hi : P.info? t with
  | none => simp [hi] at h
  | some i =>
    have hz : i.zero = some z := by simpa [hi] using h
    simp [zeroValue, typeInfo, hi, hz]
theorem man_results_cell {P : Program} {fn : Func} {a : Array Value} {w : World} {s : Tmp} {t : TypeId} {x : Addr} {v : Value} (hr : fn.results = #[.cell s t]) (hs : a.getD s undef = .pointer (some x)) (hl : (loadVar t x).run P w = .ok v w) : (results fn a).run P w = .ok v w := by
  unfold results
  rw [hr]
  simp only [Array.mapM_eq_mapM_toList, List.mapM_cons, List.mapM_nil, hs]
  simp [asAddr, Sem.run_bind, hl]

/-! ### strings.Trim at one blank -/
def trim_left (l : List UInt8) : List UInt8 := l.dropWhile (· == 32)
def trim_right (l : List UInt8) : List UInt8 := (l.reverse.dropWhile (· == 32)).reverse
def strL (l : List UInt8) : ByteArray := ⟨l.toArray⟩
theorem strL_toList (s : ByteArray) : strL s.data.toList = s := by cases s; simp [strL]
theorem strL_data (l : List UInt8) : (strL l).data.toList = l := by simp [strL]
theorem strL_size (l : List UInt8) : (strL l).size = l.length := by simp [strL, ByteArray.size]
theorem bt_list (s : ByteArray) (i : Nat) (h : i < s.data.toList.length) : bt s (i : Int) = ((s.data.toList[i].toNat : Nat) : Int) := by
  have h' : i < s.size := by simpa using h
  have h2 := bt_at s (i : Int) (by simpa using h')
  rw [← h2]
  simp only [Int.toNat_natCast]
  rfl
theorem trimLeft_go (s : ByteArray) : ∀ (d k : Nat) (s : ByteArray), s.size = d → d < k → strings_trimLeftByte.l0 k s 32 = some (strL (trim_left s.data.toList))
  | 0, k, s, hd, hk => by
    obtain ⟨k, rfl⟩ : ∃ m, k = m + 1 := ⟨k - 1, by omega⟩
    have e : s.data.toList = [] := List.eq_nil_of_length_eq_zero (by simpa using hd)
    rw [strings_trimLeftByte.l0, if_neg (by omega), e]
    have : strL (trim_left []) = s := by rw [← strL_toList s, e]; rfl
    rw [this]
  | d + 1, k, s, hd, hk => by
    obtain ⟨k, rfl⟩ : ∃ m, k = m + 1 := ⟨k - 1, by omega⟩
    have hl : s.data.toList.length = d + 1 := by simpa using hd
    have hb := bt_list s 0 (by omega)
    obtain ⟨c, r, hcr⟩ : ∃ c r, s.data.toList = c :: r := by
      cases h : s.data.toList with
      | nil => rw [h] at hl; simp at hl
      | cons c r => exact ⟨c, r, rfl⟩
    have hb2 : bt s 0 = ((c.toNat : Nat) : Int) := by
      have : bt s ((0 : Nat) : Int) = _ := hb
      simp only [hcr, List.getElem_cons_zero] at this
      exact this
    rw [strings_trimLeftByte.l0, if_pos (by omega), if_pos (by omega), hb2]
    by_cases h : c = 32
    · subst h
      have he : (s.extract 1 s.size).data.toList = r := by
        rw [hcr, List.length_cons] at hl
        rw [Lib.extract_data, hcr, List.drop_succ_cons, List.drop_zero, List.take_of_length_le (by omega)]
      rw [if_pos (by decide), if_pos (by omega), trimLeft_go s d k _ (by rw [ByteArray.size_extract]; omega) (by omega), he, hcr]
      simp [trim_left]
    · rw [if_neg (fun e => h (UInt8.toNat_inj.1 (by exact_mod_cast e))), hcr]
      have : trim_left (c :: r) = c :: r := by simp [trim_left, List.dropWhile_cons, h]
      rw [this, ← hcr, strL_toList]
theorem trimRight_go (s : ByteArray) : ∀ (d k : Nat) (s : ByteArray), s.size = d → d < k → s.size ≤ 9223372036854775807 → strings_trimRightByte.l0 k s 32 = some (strL (trim_right s.data.toList))
  | 0, k, s, hd, hk, hm => by
    obtain ⟨k, rfl⟩ : ∃ m, k = m + 1 := ⟨k - 1, by omega⟩
    have e : s.data.toList = [] := List.eq_nil_of_length_eq_zero (by simpa using hd)
    rw [strings_trimRightByte.l0, if_neg (by omega), e]
    have : strL (trim_right []) = s := by rw [← strL_toList s, e]; rfl
    rw [this]
  | d + 1, k, s, hd, hk, hm => by
    obtain ⟨k, rfl⟩ : ∃ m, k = m + 1 := ⟨k - 1, by omega⟩
    have hl : s.data.toList.length = d + 1 := by simpa using hd
    have hb := bt_list s d (by omega)
    obtain ⟨r, c, hcr⟩ : ∃ r c, s.data.toList = r ++ [c] := by
      have hne : s.data.toList ≠ [] := by intro h; rw [h] at hl; simp at hl
      exact ⟨_, _, (List.dropLast_concat_getLast hne).symm⟩
    have hrl : r.length = d := by rw [hcr] at hl; simp at hl; exact hl
    have hb2 : bt s (d : Int) = ((c.toNat : Nat) : Int) := by
      rw [hb]
      simp only [hcr]
      rw [List.getElem_append_right (by omega)]
      simp [hrl]
    have w1 : wrap64 ((s.size : Int) - 1) = (d : Int) := by unfold wrap64; omega
    rw [strings_trimRightByte.l0, if_pos (by clear w1; omega), w1, if_pos (by clear w1; omega), if_pos (by clear w1; omega), hb2]
    by_cases h : c = 32
    · subst h
      have he : (s.extract 0 d).data.toList = r := by rw [Lib.extract_data, hcr]; simp [hrl]
      rw [if_pos (by decide), if_pos (by clear w1; omega), Int.toNat_natCast, trimRight_go s d k _ (by rw [ByteArray.size_extract]; clear w1; omega) (by omega) (by rw [ByteArray.size_extract]; clear w1; omega), he, hcr]
      simp [trim_right]
    · rw [if_neg (fun e => h (UInt8.toNat_inj.1 (by exact_mod_cast e))), hcr]
      have : trim_right (r ++ [c]) = r ++ [c] := by simp [trim_right, List.dropWhile_cons, h]
      rw [this, ← hcr, strL_toList]
def trim_both (l : List UInt8) : List UInt8 := trim_left (trim_right l)
set_option maxHeartbeats 1600000 in
set_option maxRecDepth 100000 in
theorem Trim.calls (s : ByteArray) (w : World) (hs : s.size ≤ 9223372036854775807) :
    Calls Tryd.prog 19 #[.string s, .string ⟨#[32]⟩] w fun e w' => e = .returned (.string (strL (trim_both s.data.toList))) ∧ Drawn0 w w' := by
  have h1 : strings_trimRightByte.f (s.size + 1) s 32 = some (strL (trim_right s.data.toList)) := trimRight_go s s.size _ s rfl (by omega) hs
  have h2 : strings_trimLeftByte.f ((strL (trim_right s.data.toList)).size + 1) (strL (trim_right s.data.toList)) 32 = some (strL (trim_both s.data.toList)) := by
    have := trimLeft_go s (strL (trim_right s.data.toList)).size ((strL (trim_right s.data.toList)).size + 1) (strL (trim_right s.data.toList)) rfl (by omega)
    rw [strL_data] at this
    exact this
  obtain ⟨r1, hr1⟩ : ∃ r, strL (trim_right s.data.toList) = r := ⟨_, rfl⟩
  obtain ⟨r2, hr2⟩ : ∃ r, strL (trim_both s.data.toList) = r := ⟨_, rfl⟩
  have hnil : s.toList = [] → r2 = s := by
    intro h
    have e : s.data.toList = [] := by rw [← Lib.toList_data]; exact h
    rw [← hr2, e, ← strL_toList s, e]
    rfl
  rw [hr1] at h1 h2
  rw [hr2] at h2 ⊢
  have H1 := Aside0.mk h1
  have H2 := Aside0.mk h2
  have HN := Aside0.mk hnil
  clear h1 h2 hr1 hr2 hnil
  by_cases he : s.toList.isEmpty = true
  · have HE := Aside0.mk he
    go_enter Tryd.func19, Tryd.ntmps19
    go_wp2_with (fail)
    go_ret
    exact ⟨by rw [HN.out (by simpa using HE.out)]; rfl, Drawn0.refl _⟩
  · have he2 : s.toList.isEmpty = false := by simpa using he
    clear he
    go_enter Tryd.func19, Tryd.ntmps19
    go_wp2_with (fail)
    go_quiet ((first | (go_at_call 34; exact Calls.quiet_of ((strings_trimRightByte.calls _ s 32 r1 _ H1.out).mono fun _ _ h => ⟨h.1, h.2.out⟩)) | (go_at_call 33; exact Calls.quiet_of ((strings_trimLeftByte.calls _ r1 32 r2 _ H2.out).mono fun _ _ h => ⟨h.1, h.2.out⟩))))
    go_wp2
    go_ret
    exact ⟨rfl, ⟨⟨_, rfl⟩⟩⟩

/-! ### strings.Join of a row of one's own -/
theorem man_info_string : (Tryd.prog.info? 9).map (fun i => (i.zero, i.size, i.bytes)) = some (some (.string ⟨#[]⟩), 1, 16) := by kernel_rfl
theorem lib_Join {e base : Nat} {ok : Nat → Prop} {w : World} {v : Value} {l : List ByteArray} (hr : Kd.string.R e w base ok v l) (h0 : 0 < l.length) (hm : l.length ≤ 140737488355328) (sep : ByteArray)
    (hlen : (Lib.join (l.map (·.data.toList)) sep.data.toList).length ≤ 140737488355328) :
    ∃ A c, v = .slice A l.length c ∧ Calls Tryd.prog 17 #[.slice A l.length c, .string sep] w fun e w' => e = .returned (.string ⟨(Lib.join (l.map (·.data.toList)) sep.data.toList).toArray⟩) ∧ Below w.heap.size w w' := by
  have ho := Kd.own_of_R hr
  obtain ⟨g, cap, rfl, hgb, hgl⟩ := ho.form h0
  refine ⟨_, _, rfl, Tryd.strings_Join g 0 cap l sep w (fun j x hx => ?_) hgl hm (own_cap ho) hlen⟩
  have hj : j < l.length := (List.getElem?_eq_some_iff.1 hx).1
  have h := (own_at_of (d := ByteArray.empty) ho (j : Int) (by omega) (by omega)).1
  rw [Int.toNat_natCast] at h
  rw [Nat.zero_add, h]
  have : rdOf ByteArray.empty l (j : Int) = x := by
    unfold rdOf
    rw [Int.toNat_natCast, List.getD_eq_getElem?_getD, hx]
    rfl
  rw [this]

/-! ### prio.Text -/
def prio_parts (u : Int) (sh : Bool) : List ByteArray := (if u = 3 then [] else [(⟨#[117, 61]⟩ : ByteArray) ++ strL (Lib.decDigits u.toNat)]) ++ (if sh = true then [⟨#[105]⟩] else [])
def prio_Text.f (a0_0 : Int) (a0_1 : Bool) : Option (ByteArray × Int) := if a0_0 < 0 ∨ 7 < a0_0 then some (⟨#[]⟩, 1) else some (strL (Lib.join ((prio_parts a0_0 a0_1).map (·.data.toList)) [44, 32]), 0)
theorem prio_digit : ∀ n : Nat, n < 8 → (strL (Lib.decDigits n)).size ≤ 20 := by decide +kernel
theorem prio_join_len : ∀ n : Nat, n < 8 → ∀ sh : Bool, (Lib.join ((prio_parts (n : Int) sh).map (·.data.toList)) [44, 32]).length ≤ 100 := by decide +kernel
theorem prio_Text.bad (u : Int) (sh : Bool) (w : World) (h : u < 0 ∨ 7 < u) :
    Calls Tryd.prog 8 #[.agg #[.int .i64 u, .bool sh]] w fun e w' => e = .returned (.tuple #[.string ⟨#[]⟩, .int .i64 1]) ∧ Below w.heap.size w w' := by
  rcases h with h | h
  · go_enter Tryd.func8, Tryd.ntmps8
    go_wp2
    go_ret2
    exact ⟨rfl, (Below.refl _ _).alloc (Nat.le_refl _) _⟩
  · have h0 : ¬ u < 0 := by omega
    go_enter Tryd.func8, Tryd.ntmps8
    go_wp2
    go_ret2
    exact ⟨rfl, (Below.refl _ _).alloc (Nat.le_refl _) _⟩
set_option maxHeartbeats 1600000 in
set_option maxRecDepth 100000 in
theorem prio_Text.good (u : Int) (sh : Bool) (w : World) (h0 : 0 ≤ u) (h7 : u ≤ 7) :
    Calls Tryd.prog 8 #[.agg #[.int .i64 u, .bool sh]] w fun e w' => e = .returned (.tuple #[.string (strL (Lib.join ((prio_parts u sh).map (·.data.toList)) [44, 32])), .int .i64 0]) ∧ Below w.heap.size w w' := by
  obtain ⟨n, rfl⟩ := Int.eq_ofNat_of_zero_le h0
  have hd := prio_digit n (by omega)
  have HJ := Aside0.mk (prio_join_len n (by omega) sh)
  obtain ⟨d, hD⟩ : ∃ d, strL (Lib.decDigits n) = d := ⟨_, rfl⟩
  rw [hD] at hd
  have HI : ∀ W, Calls Tryd.prog 16 #[.int .i64 (n : Int)] W fun e w' => e = .returned (.string d) ∧ w' = W := fun W => by rw [← hD]; exact Tryd.strconv_Itoa_small n (by omega) W
  have HI := Aside0.mk HI
  have hB0 := (Below.refl w.heap.size w).alloc (Nat.le_refl _) (.cells #[.int .i64 (n : Int), .bool sh] 23)
  have HB0 := Aside0.mk hB0
  have HBX := Aside0.mk (man_alloc_block w #[.int .i64 (n : Int), .bool sh] 23)
  have HD := Aside0.mk hD
  clear hD hB0
  by_cases h3 : n = 3
  · subst h3
    cases sh with
    | false =>
      go_enter Tryd.func8, Tryd.ntmps8
      go_wp2_with (go_at_call 17; refine (Tryd.strings_Join_none _ _ _ _).mono ?_; rintro e w' ⟨rfl, rfl⟩)
      go_ret2
      exact ⟨rfl, HB0.out⟩
    | true =>
      go_enter Tryd.func8, Tryd.ntmps8
      go_wp2_with (first | (at_builtin; refine Kd.R_append Kd.string (w0 := w) w.heap.size rfl (.tmp 27) (.tmp 28) 48 9 (.string ⟨#[]⟩) 16 rfl Tryd.underlying48 man_info_string rfl (by decide) (by decide) (.slice none 0 0) [] ⟨#[105]⟩ [.string ⟨#[105]⟩] (fun _ => True) (fun _ => False) rfl (by first | rfl | (simp [go_sem]; done)) rfl (fun _ h => h.elim) (fun _ _ => trivial) (Kd.R_nil _ _ _ _ _) HB0.out (HB0.out.size) (by simp) ?_; intro v1 w1 hr1 hb1 hg1 hat1; clear hg1 hat1; have HB1 := Aside0.mk hb1; have HR1 := Aside0.mk hr1; clear hb1 hr1; obtain ⟨A1, c1, rfl, hj⟩ := lib_Join HR1.out (by simp) (by simp) ⟨#[44, 32]⟩ (by exact Nat.le_trans HJ.out (by omega)); simp only [List.nil_append, List.cons_append, List.length_cons, List.length_nil, Nat.zero_add, Nat.reduceAdd] at hj; have HJN := Aside0.mk hj; clear hj) | (go_at_call 17; refine HJN.out.mono ?_; rintro e w9 ⟨rfl, hd⟩; have HB9 := Aside0.mk (below_step HB1.out hd); clear hd))
      go_ret2
      exact ⟨rfl, HB9.out⟩
  · have hne : ((n : Int) != 3) = true := by simp; omega
    have hn3 : ¬ (n : Int) = 3 := by omega
    obtain ⟨x, hx⟩ : ∃ x, (⟨#[117, 61]⟩ : ByteArray) ++ d = x := ⟨_, rfl⟩
    have hsz : (⟨#[117, 61]⟩ : ByteArray).size + d.size ≤ 9223372036854775807 := by
      have : (⟨#[117, 61]⟩ : ByteArray).size = 2 := rfl
      omega
    cases sh with
    | false =>
      have HP := Aside0.mk (show prio_parts (n : Int) false = [x] by rw [prio_parts, if_neg hn3, Int.toNat_natCast, HD.out, hx]; rfl)
      rw [HP.out] at HJ ⊢
      have HX := Aside0.mk hx
      clear hx hn3
      go_enter Tryd.func8, Tryd.ntmps8
      go_wp2_with (first | (go_at_call 16; refine (HI.out _).mono ?_; rintro e w8 ⟨rfl, rfl⟩) | (at_builtin; rw [HX.out]; refine Kd.R_append Kd.string (w0 := w) w.heap.size rfl (.tmp 18) (.tmp 23) 48 9 (.string ⟨#[]⟩) 16 rfl Tryd.underlying48 man_info_string rfl (by decide) (by decide) (.slice none 0 0) [] x [.string x] (fun _ => True) (fun _ => False) rfl (by first | rfl | (simp [go_sem]; done)) rfl (fun _ h => h.elim) (fun _ _ => trivial) (Kd.R_nil _ _ _ _ _) HB0.out (HB0.out.size) (by simp) ?_; intro v1 w1 hr1 hb1 hg1 hat1; have hcx := (blk_cell (blk_grown HBX.out hg1 (by simp [Value.ownBlock])) 1).trans rfl; clear hg1 hat1; have HB1 := Aside0.mk hb1; have HR1 := Aside0.mk hr1; clear hb1 hr1; obtain ⟨A1, c1, rfl, hj⟩ := lib_Join HR1.out (by simp) (by simp) ⟨#[44, 32]⟩ (by exact Nat.le_trans HJ.out (by omega)); simp only [List.nil_append, List.cons_append, List.length_cons, List.length_nil, Nat.zero_add, Nat.reduceAdd] at hj; have HJN := Aside0.mk hj; clear hj) | (go_at_call 17; refine HJN.out.mono ?_; rintro e w9 ⟨rfl, hd⟩; have HB9 := Aside0.mk (below_step HB1.out hd); clear hd))
      go_ret2
      exact ⟨rfl, HB9.out⟩
    | true =>
      have HP := Aside0.mk (show prio_parts (n : Int) true = [x, ⟨#[105]⟩] by rw [prio_parts, if_neg hn3, Int.toNat_natCast, HD.out, hx]; rfl)
      rw [HP.out] at HJ ⊢
      have HX := Aside0.mk hx
      clear hx hn3
      go_enter Tryd.func8, Tryd.ntmps8
      go_wp2_with (first | (go_at_call 16; refine (HI.out _).mono ?_; rintro e w8 ⟨rfl, rfl⟩) | (at_builtin; rw [HX.out]; refine Kd.R_append Kd.string (w0 := w) w.heap.size rfl (.tmp 18) (.tmp 23) 48 9 (.string ⟨#[]⟩) 16 rfl Tryd.underlying48 man_info_string rfl (by decide) (by decide) (.slice none 0 0) [] x [.string x] (fun _ => True) (fun _ => False) rfl (by first | rfl | (simp [go_sem]; done)) rfl (fun _ h => h.elim) (fun _ _ => trivial) (Kd.R_nil _ _ _ _ _) HB0.out (HB0.out.size) (by simp) ?_; intro v1 w1 hr1 hb1 hg1 hat1; have hcx := (blk_cell (blk_grown HBX.out hg1 (by simp [Value.ownBlock])) 1).trans rfl; clear hg1 hat1; have HB1 := Aside0.mk hb1; have HR1 := Aside0.mk hr1; clear hb1 hr1; obtain ⟨A1, c1, rfl⟩ := Kd.R_slice HR1.out; simp only [List.nil_append, List.length_cons, List.length_nil, Nat.zero_add]) | (at_builtin; refine Kd.R_append Kd.string (w0 := w) w.heap.size rfl (.tmp 27) (.tmp 28) 48 9 (.string ⟨#[]⟩) 16 rfl Tryd.underlying48 man_info_string rfl (by decide) (by decide) (.slice A1 1 c1) [x] ⟨#[105]⟩ [.string ⟨#[105]⟩] (fun _ => True) (fun _ => False) rfl (by first | rfl | (simp [go_sem]; done)) rfl (fun _ h => h.elim) (fun _ _ => trivial) HR1.out HB1.out HB1.out.size (by simp) ?_; intro v2 w2 hr2 hb2 hg2 hat2; clear hg2 hat2; have HB2 := Aside0.mk hb2; have HR2 := Aside0.mk hr2; clear hb2 hr2; obtain ⟨A2, c2, rfl, hj⟩ := lib_Join HR2.out (by simp) (by simp) ⟨#[44, 32]⟩ (by exact Nat.le_trans HJ.out (by omega)); simp only [List.nil_append, List.cons_append, List.length_cons, List.length_nil, Nat.zero_add, Nat.reduceAdd] at hj; have HJN := Aside0.mk hj; clear hj) | (go_at_call 17; refine HJN.out.mono ?_; rintro e w9 ⟨rfl, hd⟩; have HB9 := Aside0.mk (below_step HB2.out hd); clear hd))
      go_ret2
      exact ⟨rfl, HB9.out⟩
theorem prio_Text.calls (a0_0 : Int) (a0_1 : Bool) (r1 : ByteArray) (r2 : Int) (w : World) (h : prio_Text.f a0_0 a0_1 = some (r1, r2)) :
    Calls Tryd.prog 8 #[.agg #[.int .i64 a0_0, .bool a0_1]] w fun e w' => e = .returned (.tuple #[.string r1, .int .i64 r2]) ∧ Below w.heap.size w w' := by
  unfold prio_Text.f at h
  by_cases hb : a0_0 < 0 ∨ 7 < a0_0
  · rw [if_pos hb] at h
    simp only [Option.some.injEq, Prod.mk.injEq] at h
    obtain ⟨rfl, rfl⟩ := h
    exact prio_Text.bad _ _ w hb
  · rw [if_neg hb] at h
    simp only [Option.some.injEq, Prod.mk.injEq] at h
    obtain ⟨rfl, rfl⟩ := h
    exact prio_Text.good _ _ w (by omega) (by omega)


end Go.Proofs.YtjjignoocaejiaaDoor.PPR
