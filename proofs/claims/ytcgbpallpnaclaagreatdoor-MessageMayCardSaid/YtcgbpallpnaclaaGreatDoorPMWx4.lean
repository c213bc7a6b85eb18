import Derived.Test.YtcgbpallpnaclaaGreatDoorPMWx0
namespace Go.Proofs.YtcgbpallpnaclaaGreatDoor.PMW
open Go.RowKit Go.Proofs.YtcgbpallpnaclaaGreatDoorW.PrintWords Go.Proofs.YtcgbpallpnaclaaGreatDoorW.PrintLast Go.Proofs.YtcgbpallpnaclaaGreatDoorW.PrintMore
attribute [local go_sem] max2_int min2_int max_two min_two max_three min_three max_four min_four   -- for this text's walks alone
set_option linter.unusedVariables false
set_option linter.unusedSimpArgs false
/-! ### strings_IndexByte: function 104, by hand -/
/-! ### strings.ContainsAny at any text, for a cutset of ASCII bytes -/
section
open Go.Shelf Go.Lib
theorem any_decode (s : ByteArray) (pos : Nat) (h : pos < s.size) (ha : 128 ≤ (s[pos]'h).toNat) : pos + (Utf8.decode s pos).2 ≤ s.size ∧ ∀ (j : Nat) b, pos ≤ j → j < pos + (Utf8.decode s pos).2 → s.data.toList[j]? = some b → 128 ≤ b.toNat := by
  have hn : ¬ (s[pos]'h).toNat < 128 := by omega
  have hget : ∀ (j : Nat) b, s.data.toList[j]? = some b → s.get! j = b := fun j b hj => by
    obtain ⟨hl, e⟩ := List.getElem?_eq_some_iff.1 hj
    have hl2 : j < s.size := by rw [Lib.size_eq]; exact hl
    have := get_at s j hl2
    rw [Nat.add_zero] at this
    rw [this, ← e]
    rfl
  have h0 : 128 ≤ (s.get! (pos + 0)).toNat := by rw [get_at s pos h]; exact ha
  simp only [Utf8.decode, get_at s pos h, hn, if_false]
  (repeat' split) <;> simp only [Bool.and_eq_true, decide_eq_true_eq, beq_iff_eq] at * <;>
  refine ⟨by omega, fun j b h1 h2 hb => ?_⟩ <;> rw [← hget j b hb] <;>
  (obtain ⟨k, rfl⟩ := Nat.exists_eq_add_of_le h1) <;>
  (rcases (show k = 0 ∨ k = 1 ∨ k = 2 ∨ k = 3 by omega) with rfl | rfl | rfl | rfl) <;> omega
theorem NoAny_skip {s chars : List UInt8} {i k : Nat} (h : Lib.NoAny s chars i) (hc : ∀ b ∈ chars, b.toNat < 128) (hh : ∀ (j : Nat) b, i ≤ j → j < i + k → s[j]? = some b → 128 ≤ b.toNat) : Lib.NoAny s chars (i + k) := fun j b hj hb => by
  by_cases e : j < i
  · exact h j b e hb
  · have := hh j b (by omega) hj hb
    cases hq : chars.contains b with
    | false => rfl
    | true => have := hc b (by simpa using hq); omega
theorem any_byte_none {l : List UInt8} {c : UInt8} (hs : ∀ b ∈ l, b.toNat < 128) (hc : 128 ≤ c.toNat) : Lib.indexByte l c = -1 := by
  have h := Lib.contains_iff_indexByte l c
  have hge := Lib.indexByte_ge l c
  have hn : l.contains c = false := by
    cases hq : l.contains c with
    | false => rfl
    | true => have := hs c (by simpa using hq); omega
  rw [hn] at h
  have := of_decide_eq_false h.symm
  omega
theorem any_valid (r : Int) : Utf8.valid r = Lib.validRune r := by
  simp only [Utf8.valid, Lib.validRune]
  by_cases h : (0 ≤ r ∧ r < 0xD800) ∨ (0xDFFF < r ∧ r ≤ 0x10FFFF)
  · rw [decide_eq_true h]; rcases h with h | h <;> simp <;> omega
  · rw [decide_eq_false h]; simp; omega
theorem any_validRune (r : Int) (w : World) : Calls Tryz.prog 176 #[.int .i32 r] w fun e w' => e = .returned (.bool (Lib.validRune r)) ∧ w' = w := Any.utf8_ValidRune { Tryz.lays150 with } r w
theorem any_in {id : Nat} {Q : Exit → Act → World → Prop} {a : Act} {w : World} : Exit.inBlock id Q .ret a w = Q .ret a w := rfl
theorem any_then {R : Act → World → Prop} {Q : Exit → Act → World → Prop} {a : Act} {w : World} : Exit.then R Q .ret a w = Q .ret a w := rfl
set_option maxHeartbeats 4000000 in
set_option maxRecDepth 1000000 in
theorem any_rune_high (s : ByteArray) (r : Int) (w : World) (hs : ∀ b ∈ s.data.toList, b.toNat < 128) (h0 : 128 ≤ r) (h1 : r ≤ 2147483647) (hz : s.size < 4294967281) :
    Calls Tryz.prog 163 #[.string s, .int .i32 r] w fun e w' => e = .returned (.int .i64 (-1)) ∧ Below w.heap.size w w' := by
  have HS := Aside0.mk hs
  clear hs
  have c1 : decide (r < 128) = false := decide_eq_false (by omega)
  go_enter Tryz.func163, Tryz.ntmps163
  by_cases he : r = 65533
  · subst he
    go_wp2
    go_loopg [5, 6] s.size (fun g _ _ wx => ∃ i : Nat, i + g = s.size ∧ wx = w.iter s i)
    case atStart => exact ⟨0, by omega, rfl⟩
    case round =>
      obtain ⟨i, hig, rfl⟩ := hrel
      cases gk with
      | zero =>
        obtain rfl : i = s.size := by omega
        have hnx := run_next_end (P := Tryz.prog) w s s.size
        go_wp2
        go_ret
        exact ⟨rfl, (Below.refl _ _).alloc (Nat.le_refl _) _⟩
      | succ g =>
        have hi : i < s.size := by omega
        obtain ⟨x, hx⟩ : ∃ x : UInt8, s[i]'hi = x := ⟨_, rfl⟩
        have hxl : s.data.toList[i]? = some x := by rw [← hx]; exact Lib.data_getElem? s i hi
        have hx128 : x.toNat < 128 := HS.out x (List.mem_of_getElem? hxl)
        have hnx := fun ty => run_next_ascii (P := Tryz.prog) w s i ty hi (by rw [hx]; exact hx128)
        rw [hx] at hnx
        have hne : ((x.toNat : Int) == 65533) = false := beq_eq_false_iff_ne.2 (by omega)
        clear hxl hx
        go_wp2
        go_roundg g
        case measure => omega
        case rel => exact ⟨i + 1, by omega, rfl⟩
  · have hne : (r == 65533) = false := beq_eq_false_iff_ne.2 he
    cases hv : Lib.validRune r with
    | false =>
      go_wp2_with (go_at_call 176; refine (any_validRune _ _).mono ?_; rintro e w' ⟨rfl, hw⟩; rw [hw, hv])
      go_ret
      exact ⟨rfl, Below.refl _ _⟩
    | true =>
      obtain ⟨f1, f2, f3⟩ := encode_facts r (by rw [any_valid]; exact hv) h0
      obtain ⟨rs, hrs⟩ : ∃ rs, Utf8.encode r = rs := ⟨_, rfl⟩
      rw [hrs] at f1 f2 f3
      obtain ⟨m, hm⟩ : ∃ m : Nat, rs.size = m + 1 := ⟨rs.size - 1, by omega⟩
      rw [hm] at f1 f2
      obtain ⟨y, hy⟩ : ∃ y : UInt8, rs[m]'(by omega) = y := ⟨_, rfl⟩
      have hy128 : 128 ≤ y.toNat := by
        have := f3 (by omega)
        simp only [hm, Nat.add_sub_cancel] at this
        rw [← hy]; exact this
      have hwr : IntKind.i64.wrap ((m : Int) + 1 - 1) = (m : Int) := by rw [wrap_small _ (by omega) (by omega)]; omega
      clear f3
      have hrz : (rs.size : Int) = (m : Int) + 1 := by omega
      have HY := Aside0.mk hy128
      clear hy128
      go_wp2_with (go_at_call 176; refine (any_validRune _ _).mono ?_; rintro e w' ⟨rfl, hw⟩; rw [hw, hv])
      go_step3
      go_wp2
      go_loopg [9, 10] 0 (fun g v9 _ wx => g = 0 ∧ v9 = .int .i64 (m : Int) ∧ wx = w)
      case atStart => exact ⟨rfl, by go_num, rfl⟩
      case round =>
        obtain ⟨rfl, rfl, rfl⟩ := hrel
        by_cases hlt : m < s.size
        · have hlz : (m : Int) < (s.size : Int) := by omega
          obtain ⟨x, hx⟩ : ∃ x : UInt8, s[m]'hlt = x := ⟨_, rfl⟩
          have hxl : s.data.toList[m]? = some x := by rw [← hx]; exact Lib.data_getElem? s m hlt
          have hx128 : x.toNat < 128 := HS.out x (List.mem_of_getElem? hxl)
          have hb1 : ((x.toNat : Int) == (y.toNat : Int)) = false := beq_eq_false_iff_ne.2 (by have := HY.out; omega)
          have hb2 : ((x.toNat : Int) != (y.toNat : Int)) = true := by simp [bne, hb1]
          have hwp : IntKind.i64.wrap ((m : Int) + 1) = (m : Int) + 1 := wrap_small _ (by omega) (by omega)
          have hnone : Lib.indexByte (s.extract (m + 1) s.size).data.toList y = -1 := any_byte_none (fun b hb => HS.out b (mem_extract hb)) HY.out
          clear hx128 hxl
          have hSB : ∀ W : World, Calls Tryz.prog 104 #[.string (s.extract (m + 1) s.size), .int .u8 (y.toNat : Int)] W (fun e w' => e = .returned (.int .i64 (-1)) ∧ w' = W) := fun W => (Go.Proofs.Tryz.strings_IndexByte _ _ W).mono fun e w' ⟨he, hw⟩ => ⟨by rw [he]; simp only [Int.toNat_natCast, Nat.toUInt8_eq, UInt8.ofNat_toNat, hnone], hw⟩
          go_wp2
          repeat (first | refine wp_seq ?_ | refine wp_block ?_ | go_step3)
          go_quiet (fail)
          obtain ⟨W1, hW1⟩ : ∃ W1, wr.drewN nq = W1 := ⟨_, rfl⟩
          have HB := Aside0.mk (show Below wr.heap.size wr W1 by rw [← hW1]; exact pw_below_drewN (Below.refl _ _) _)
          rw [hW1]
          clear hW1
          go_wp2
          repeat (first | refine wp_seq ?_ | refine wp_block ?_ | go_step3)
          go_quiet ((go_at_call 104; exact Calls.quiet_of_same (hSB _)))
          go_wp2
          simp only [Exit.noGoto_ret, any_in, any_then]
          go_ret
          exact ⟨rfl, below_step HB.out (by exact pw_below_drewN (Below.refl _ _) _)⟩
        · have hlz : ¬ (m : Int) < (s.size : Int) := by omega
          go_wp2
          go_ret
          exact ⟨rfl, Below.refl _ _⟩
def any_set (wx : World) (k : Nat) (s : ByteArray) (i : Nat) : World := { wx with heap := wx.heap.setIfInBounds k (.stringIter s i) }
theorem any_next {P : Program} {wx : World} {s : ByteArray} {i k : Nat} (hk : wx.heap[k]? = some (.stringIter s i)) (h : i < s.size) (ty : TypeId) :
    (Instr.next (.pointer (some ⟨k, 0, none⟩)) true ty).run P wx = .ok (.tuple #[.bool true, .int .i64 i, .int .i32 (Utf8.decode s i).1]) (any_set wx k s (i + (Utf8.decode s i).2)) := by
  simp only [Instr.next, getObj, setObj, Sem.run_bind, Sem.run, hk, Result.andThen, h, if_true]
  simp [goInt, any_set]
theorem any_next_end {P : Program} {wx : World} {s : ByteArray} {i k : Nat} (hk : wx.heap[k]? = some (.stringIter s i)) (h : ¬ i < s.size) (ty : TypeId) :
    (Instr.next (.pointer (some ⟨k, 0, none⟩)) true ty).run P wx = .ok (.tuple #[.bool false]) wx := by
  simp [Instr.next, getObj, Sem.run, hk, h]
theorem any_set_heap {wx : World} {s t : ByteArray} {i k j : Nat} (hk : wx.heap[k]? = some (.stringIter t j)) : (any_set wx k s i).heap[k]? = some (.stringIter s i) := by
  have hl := (Array.getElem?_eq_some_iff.1 hk).1
  simp [any_set, Array.getElem?_setIfInBounds, hl]
theorem any_set_below {wx : World} {s : ByteArray} {i k B : Nat} (h : B ≤ k) : Below B wx (any_set wx k s i) :=
  ⟨rfl, rfl, rfl, by simp [any_set], fun j hj => by
    have hne : ¬ k = j := by omega
    simp [any_set, Array.getElem?_setIfInBounds, hne]⟩
theorem any_should (n : Int) (w : World) : Calls Tryz.prog 164 #[.int .i64 n] w fun e w' => e = .returned (.bool (decide (8 < n))) ∧ w' = w := Any.strings_shouldUseASCIISet { Tryz.lays150 with } n w
theorem any_rune_low (s : ByteArray) (r : Int) (w : World) (h0 : 0 ≤ r) (h1 : r < 128) : Calls Tryz.prog 163 #[.string s, .int .i32 r] w fun e w' => e = .returned (.int .i64 (Lib.indexByte s.data.toList r.toNat.toUInt8)) ∧ w' = w := Any.strings_IndexRune_ascii { Tryz.lays150 with } s r w h0 h1
set_option maxHeartbeats 4000000 in
set_option maxRecDepth 1000000 in
theorem any_short (s chars : ByteArray) (w : World) (h2 : 2 ≤ chars.size) (h8 : s.size ≤ 8) (hac : ∀ b ∈ chars.data.toList, b.toNat < 128) (hcz : chars.size < 4294967281) :
    Calls Tryz.prog 147 #[.string s, .string chars] w fun e w' => e = .returned (.int .i64 (Lib.indexAny s.data.toList chars.data.toList)) ∧ Below w.heap.size w w' := by
  have hemp : chars.toList.isEmpty = false := by
    rw [Lib.toList_data]
    cases h : chars.data.toList with
    | nil => have := Lib.size_eq chars; rw [h, List.length_nil] at this; omega
    | cons _ _ => rfl
  have hn1 : ((chars.size : Int) == 1) = false := beq_eq_false_iff_ne.2 (by omega)
  have h8z : decide ((8 : Int) < (s.size : Int)) = false := decide_eq_false (by omega)
  have HC := Aside0.mk hac
  clear hac
  obtain ⟨W0, hW0⟩ : ∃ W0, w.iter s 0 = W0 := ⟨_, rfl⟩
  have BK := Aside0.mk (show W0.heap[w.heap.size]? = some (.stringIter s 0) by rw [← hW0]; exact World.iter_heap _ _ _)
  have HB := Aside0.mk (show Below w.heap.size w W0 by rw [← hW0]; exact below_alloc (Below.refl _ _) _)
  go_enter Tryz.func147, Tryz.ntmps147
  go_wp2_with (go_at_call 164; refine (any_should _ _).mono ?_; rintro e w' ⟨rfl, hw⟩; rw [hw, h8z])
  (try rw [hW0])
  clear hW0
  go_loopg [9, 10] s.size (fun g _ _ wx => ∃ i : Nat, i + g = s.size ∧ Aside0 (wx.heap[w.heap.size]? = some (.stringIter s i)) ∧ Aside0 (Below w.heap.size w wx) ∧ Aside0 (Lib.NoAny s.data.toList chars.data.toList i))
  case atStart => exact ⟨0, by omega, BK, HB, ⟨Lib.NoAny.zero _ _⟩⟩
  case round =>
    clear BK HB
    obtain ⟨i, hig, BK, HB, HN⟩ := hrel
    by_cases hi : i < s.size
    · obtain ⟨x, hx⟩ : ∃ x : UInt8, s[i]'hi = x := ⟨_, rfl⟩
      have hxl : s.data.toList[i]? = some x := by rw [← hx]; exact Lib.data_getElem? s i hi
      have Hx := Aside0.mk hxl
      obtain ⟨W1, hW1⟩ : ∃ W1, any_set wr w.heap.size s (i + (Utf8.decode s i).2) = W1 := ⟨_, rfl⟩
      have hnx := fun ty => any_next (P := Tryz.prog) BK.out hi ty
      rw [hW1] at hnx
      have BK1 := Aside0.mk (show W1.heap[w.heap.size]? = some (.stringIter s (i + (Utf8.decode s i).2)) by rw [← hW1]; exact any_set_heap BK.out)
      have HB1 := Aside0.mk (show Below w.heap.size w W1 by rw [← hW1]; exact HB.out.trans (any_set_below (Nat.le_refl _)))
      clear hW1 hxl
      by_cases hx128 : x.toNat < 128
      · have hd := decode_ascii s i hi (by rw [hx]; exact hx128)
        rw [hx] at hd
        rw [hd] at hnx BK1
        have hcon := Lib.contains_iff_indexByte chars.data.toList x
        have hback : ((x.toNat : Int)).toNat.toUInt8 = x := by simp
        clear hd hx
        cases hin : chars.data.toList.contains x
        · rw [hin] at hcon
          have hlt : ¬ ((0 : Int) ≤ Lib.indexByte chars.data.toList x) := of_decide_eq_false hcon.symm
          have HIN := Aside0.mk hin
          clear hcon hin
          go_wp2_with (go_at_call 163; refine (any_rune_low _ _ _ (by omega) (by omega)).mono ?_; rintro e w' ⟨rfl, hw⟩; rw [hw, hback])
          go_roundg (gk - 1)
          case measure => omega
          case rel => exact ⟨i + 1, by omega, BK1, HB1, ⟨HN.out.succ Hx.out HIN.out⟩⟩
        · rw [hin] at hcon
          have hge : (0 : Int) ≤ Lib.indexByte chars.data.toList x := of_decide_eq_true hcon.symm
          have HIN := Aside0.mk hin
          clear hcon hin
          go_wp2_with (go_at_call 163; refine (any_rune_low _ _ _ (by omega) (by omega)).mono ?_; rintro e w' ⟨rfl, hw⟩; rw [hw, hback])
          go_ret
          exact ⟨by rw [Lib.indexAny_hit HN.out Hx.out HIN.out]; rfl, HB1.out⟩
      · obtain ⟨d1, d2⟩ := decode_high s i hi (by rw [hx]; omega)
        obtain ⟨d3, d4⟩ := any_decode s i hi (by rw [hx]; omega)
        have d5 := decode_le s i
        obtain ⟨c, hc⟩ : ∃ c, (Utf8.decode s i).1 = c := ⟨_, rfl⟩
        obtain ⟨k, hk⟩ : ∃ k, (Utf8.decode s i).2 = k := ⟨_, rfl⟩
        rw [hc] at d1 d5 hnx
        rw [hk] at d2 d3 d4 BK1
        have HN2 := Aside0.mk (NoAny_skip HN.out HC.out d4)
        clear d4 hc hk hx
        go_wp2_with (go_at_call 163; refine (any_rune_high chars (c : Int) _ HC.out (by omega) (by omega) hcz).mono ?_; rintro e w2 ⟨rfl, hb⟩; have HB2 := Aside0.mk (below_step HB1.out hb); have BK2 := Aside0.mk ((hb.block _ (Array.getElem?_eq_some_iff.1 BK1.out).1).trans BK1.out); clear hb)
        go_roundg (gk - k)
        case measure => omega
        case rel => exact ⟨i + k, by omega, BK2, HB2, HN2⟩
    · obtain rfl : i = s.size := by have := HN; omega
      have hnx := fun ty => any_next_end (P := Tryz.prog) BK.out hi ty
      go_wp2
      go_ret
      exact ⟨by rw [Lib.indexAny_none (by rw [← Lib.size_eq]; exact HN.out)]; rfl, HB.out⟩
theorem any_index (s chars : ByteArray) (w : World) (h2 : 2 ≤ chars.size) (hs : s.size < 4294967281) (hcs : chars.size < 4294967281) (hac : ∀ b ∈ chars.data.toList, b.toNat < 128) :
    Calls Tryz.prog 147 #[.string s, .string chars] w fun e w' => e = .returned (.int .i64 (Lib.indexAny s.data.toList chars.data.toList)) ∧ Below w.heap.size w w' := by
  by_cases h8 : s.size ≤ 8
  · exact any_short s chars w h2 h8 hac hcs
  · have h116 : (Tryz.prog.info? (Tryz.lays150_ren.t 116)).map (fun i => (i.zero, i.size)) = some (some (.agg (Array.replicate 256 (.bool false))), 256) := by kernel_rfl
    refine (Any.strings_IndexAny_long { Tryz.lays150 with } (zero_of_info h116).1 (zero_of_info h116).2 s chars w h2 (by omega) hs hcs (fun j b hb => hac b (List.mem_of_getElem? hb))).mono fun e w' ⟨h1, h2⟩ => ⟨h1, ?_⟩
    rw [h2]
    exact ((Below.refl _ _).alloc (Nat.le_refl _) _).alloc (by simp) _
set_option maxHeartbeats 1000000 in
theorem any_contains (s chars : ByteArray) (w : World) (h2 : 2 ≤ chars.size) (hs : s.size < 4294967281) (hcs : chars.size < 4294967281) (hac : ∀ b ∈ chars.data.toList, b.toNat < 128) :
    Calls Tryz.prog 136 #[.string s, .string chars] w fun e w' => e = .returned (.bool (Lib.containsAny s.data.toList chars.data.toList)) ∧ Below w.heap.size w w' := by
  have c := any_index s chars w h2 hs hcs hac
  go_enter Tryz.func136, Tryz.ntmps136
  go_wp2_with (go_at_call 147; refine c.mono ?_; rintro e w' ⟨rfl, hw⟩)
  go_ret
  exact ⟨rfl, hw⟩
end
/-! ### strings.ContainsAny, Trim, IndexByte by the shelf's contracts -/
def strL (l : List UInt8) : ByteArray := ⟨l.toArray⟩
theorem strL_toList (s : ByteArray) : strL s.data.toList = s := by cases s; simp [strL]
theorem strL_data (l : List UInt8) : (strL l).data.toList = l := by simp [strL]
def asciiB (s : ByteArray) : Bool := s.data.toList.all (fun b => decide (b.toNat < 128))
theorem asciiB_at {s : ByteArray} (h : asciiB s = true) : ∀ (j : Nat) b, s.data.toList[j]? = some b → b.toNat < 128 :=
  fun _ b hb => of_decide_eq_true (List.all_eq_true.1 h b (List.mem_of_getElem? hb))
def strings_ContainsAny.f (a0 a1 : ByteArray) : Option Bool := if 2 ≤ a1.size ∧ asciiB a1 = true ∧ a0.size ≤ 4294967280 ∧ a1.size ≤ 4294967280 then some (Lib.containsAny a0.data.toList a1.data.toList) else none
theorem strings_ContainsAny.calls (a0 a1 : ByteArray) (r : Bool) (w : World) (h : strings_ContainsAny.f a0 a1 = some r) :
    Calls Tryz.prog 136 #[.string a0, .string a1] w fun e w' => e = .returned (.bool r) ∧ Below w.heap.size w w' := by
  unfold strings_ContainsAny.f at h
  split at h
  · rename_i hc
    obtain ⟨h1, h2, h3, h4⟩ := hc
    obtain rfl := Option.some.inj h
    exact any_contains a0 a1 w h1 (by omega) (by omega) (fun b hb => of_decide_eq_true (List.all_eq_true.1 h2 b hb))
  · cases h
def strings_Trim.f (a0 a1 : ByteArray) : Option ByteArray := if asciiB a1 = true ∧ a0.size ≤ 9223372036854775807 ∧ a1.size ≤ 4294967280 then some (strL (Lib.trimS a0.data.toList a1.data.toList)) else none
theorem strings_Trim.calls (a0 a1 : ByteArray) (r : ByteArray) (w : World) (h : strings_Trim.f a0 a1 = some r) :
    Calls Tryz.prog 137 #[.string a0, .string a1] w fun e w' => e = .returned (.string r) ∧ Below w.heap.size w w' := by
  unfold strings_Trim.f at h
  split at h
  · rename_i hc
    obtain ⟨h1, h2, h3⟩ := hc
    obtain rfl := Option.some.inj h
    exact Any.strings_Trim_laid Tryz.lays160 (by kernel_rfl) a0 a1 w h2 (by omega) (asciiB_at h1)
  · cases h
def strings_IndexByte.f (a0 : ByteArray) (a1 : Int) : Option Int := some (Lib.indexByte a0.data.toList a1.toNat.toUInt8)
end Go.Proofs.YtcgbpallpnaclaaGreatDoor.PMW
