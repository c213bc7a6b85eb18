/- A part of the walk of the laws of layer 22 (message): contracts of functions of the program, each walked once. -/
import Derived.Test.YtcgbpallpnaclaaGreatDoorPMWx0
import Derived.Test.YtcgbpallpnaclaaGreatDoorPMWx6
import Derived.RangeFuncNested
import Derived.RangeFuncBound
import Derived.RangeFuncCalls
import Derived.RangeFuncLeaves
import Derived.RangeFuncBox
import Derived.OwnWalkIn
import Derived.TacticsInMore
import Derived.LoopNIn
import Derived.LoopIn
import Derived.Deep.DeepMust
import Derived.LoopN
import Derived.Laws.BitsAllLaws
import Derived.Maps.OwnIn
import Derived.Maps.Own
import Derived.Maps.OwnSet
import Derived.Maps.OwnOps
import Derived.Shelf.Abstract
import Derived.Sort.CutIn
import Derived.Shelf.RegionOpen
import Derived.StillTailTactics
import Derived.Outline
import Derived.Deep.RegionHeld3
import Derived.Laws.StructEq
import Derived.Laws.RangeAny
import Derived.Laws.EntriesVeiled
import Derived.WalkSpells
import Derived.Lib.SlBytesConst
import Derived.Deep.RegionLaw
import Derived.Deep.RegionWith
import Derived.ArgAppend
import Derived.Shelf.Strings.SlTrimAscii
import Derived.Shelf.Strings.IndexAnyAll
import Derived.Test.YtcgbpallpnaclaaGreatDoorSh
import Derived.Test.YtcgbpallpnaclaaGreatDoorWEqStruct
namespace Go.Proofs.YtcgbpallpnaclaaGreatDoor.T
open Go.RowKit Go.Proofs.YtcgbpallpnaclaaGreatDoorW.PrintWords Go.Proofs.YtcgbpallpnaclaaGreatDoorW.PrintLast Go.Proofs.YtcgbpallpnaclaaGreatDoorW.PrintMore
open Go.Proofs.YtcgbpallpnaclaaGreatDoor.PMW
set_option linter.unusedVariables false
set_option linter.unusedSimpArgs false
/-! ### message.names, message.token (made by wip/gen_token.py) -/
def tok_names : List ByteArray := [⟨#[99, 111, 110, 110, 101, 99, 116, 105, 111, 110]⟩, ⟨#[107, 101, 101, 112, 45, 97, 108, 105, 118, 101]⟩, ⟨#[112, 114, 111, 120, 121, 45, 99, 111, 110, 110, 101, 99, 116, 105, 111, 110]⟩, ⟨#[116, 114, 97, 110, 115, 102, 101, 114, 45, 101, 110, 99, 111, 100, 105, 110, 103]⟩, ⟨#[117, 112, 103, 114, 97, 100, 101]⟩]
theorem tok_block (w : World) (cs : Array Value) (t : TypeId) : (w.alloc (.cells cs t)).heap[w.heap.size]? = some (.cells cs t (0, 0)) := by unfold World.alloc; exact Array.getElem?_push_size
theorem message_names.calls (w : World) :
    Calls Tryz.prog 105 #[] w fun e w' => e = .returned (.agg #[.string ⟨#[99, 111, 110, 110, 101, 99, 116, 105, 111, 110]⟩, .string ⟨#[107, 101, 101, 112, 45, 97, 108, 105, 118, 101]⟩, .string ⟨#[112, 114, 111, 120, 121, 45, 99, 111, 110, 110, 101, 99, 116, 105, 111, 110]⟩, .string ⟨#[116, 114, 97, 110, 115, 102, 101, 114, 45, 101, 110, 99, 111, 100, 105, 110, 103]⟩, .string ⟨#[117, 112, 103, 114, 97, 100, 101]⟩]) ∧ Below w.heap.size w w' := by
  go_enter Tryz.func105, Tryz.ntmps105
  go_wp2
  refine bodyPost_ret (results_cell_row rfl _ _ w.heap.size 97 #[.string ⟨#[99, 111, 110, 110, 101, 99, 116, 105, 111, 110]⟩, .string ⟨#[107, 101, 101, 112, 45, 97, 108, 105, 118, 101]⟩, .string ⟨#[112, 114, 111, 120, 121, 45, 99, 111, 110, 110, 101, 99, 116, 105, 111, 110]⟩, .string ⟨#[116, 114, 97, 110, 115, 102, 101, 114, 45, 101, 110, 99, 111, 100, 105, 110, 103]⟩, .string ⟨#[117, 112, 103, 114, 97, 100, 101]⟩] (0, 0) _ rfl (tok_block _ _ _) Tryz.underlying97 rfl (by kernel_rfl)) rfl ?_
  exact ⟨rfl, below_alloc (Below.refl _ _) _⟩
def tok_fine : List UInt8 := [33, 35, 36, 37, 38, 39, 42, 43, 45, 46, 94, 95, 124, 126, 96]
def tokL (g : Bool) (c : Nat) : Bool := decide (97 ≤ c ∧ c ≤ 122) || decide (48 ≤ c ∧ c ≤ 57) || (g && decide (65 ≤ c ∧ c ≤ 90))
def tokc (g : Bool) (b : UInt8) : Bool := tokL g b.toNat || (decide (b.toNat < 128) && tok_fine.contains b)
def tok_has (l : List ByteArray) (s : ByteArray) : Bool := l.any (fun n => decide (s = n))
def tokB (s : ByteArray) (g : Bool) : Bool := s.data.toList.all (tokc g) && (!(decide (s.size = 0)) && !tok_has tok_names s)
def message_token.f (s : ByteArray) (g : Bool) : Option Bool := some (tokB s g)
theorem tok_fine_index (b : UInt8) : decide (Lib.indexByte tok_fine b < 0) = !tok_fine.contains b := by
  have h : ∀ n : Fin 256, decide (Lib.indexByte tok_fine (UInt8.ofNat n.val) < 0) = !tok_fine.contains (UInt8.ofNat n.val) := by decide +kernel
  have := h ⟨b.toNat, b.toNat_lt⟩
  simpa using this
theorem tok_at (s : ByteArray) (pos : Nat) (hp : pos < s.size) : s.data.toList[pos]? = some (s[pos]'hp) := by
  have h : pos < s.data.toList.length := by simpa using hp
  rw [List.getElem?_eq_getElem h]
  rfl
theorem tok_take {s : ByteArray} {g : Bool} {pos : Nat} {b : UInt8} (hb : s.data.toList[pos]? = some b) (hA : (s.data.toList.take pos).all (tokc g) = true) (ht : tokc g b = true) : (s.data.toList.take (pos + 1)).all (tokc g) = true := by
  rw [List.take_add_one, List.all_append, hA, hb]
  simp [ht]
theorem tok_bad {s : ByteArray} {g : Bool} {pos : Nat} {b : UInt8} (hb : s.data.toList[pos]? = some b) (ht : tokc g b = false) : tokB s g = false := by
  have : s.data.toList.all (tokc g) = false := by
    rw [List.all_eq_false]
    exact ⟨b, List.mem_of_getElem? hb, by simp [ht]⟩
  unfold tokB
  rw [this, Bool.false_and]
theorem tok_high {s : ByteArray} {g : Bool} {pos : Nat} {b : UInt8} (hb : s.data.toList[pos]? = some b) (h : ¬ b.toNat < 128) : tokB s g = false := by
  refine tok_bad hb ?_
  unfold tokc tokL
  have h1 : decide (97 ≤ b.toNat ∧ b.toNat ≤ 122) = false := decide_eq_false (by omega)
  have h2 : decide (48 ≤ b.toNat ∧ b.toNat ≤ 57) = false := decide_eq_false (by omega)
  have h3 : decide (65 ≤ b.toNat ∧ b.toNat ≤ 90) = false := decide_eq_false (by omega)
  have h4 : decide (b.toNat < 128) = false := decide_eq_false h
  rw [h1, h2, h3, h4]
  simp
theorem tok_eq (a b : ByteArray) : a.toList = b.toList ↔ a = b := by
  rw [Lib.toList_data, Lib.toList_data]
  constructor
  · intro h; cases a; cases b; congr 1; exact Array.toList_inj.1 h
  · intro h; rw [h]
theorem tok_index (s : ByteArray) (l : List ByteArray) (hl : l.length ≤ 1000000) : ∀ (d k i : Nat), i + d = l.length → d < k → ∃ r, slices_Index_string_string.l0 k l s (l.length : Int) (i : Int) = some r ∧ decide (r ≥ 0) = tok_has (l.drop i) s
  | 0, k, i, hd, hk => by
    obtain ⟨k, rfl⟩ : ∃ m, k = m + 1 := ⟨k - 1, by omega⟩
    refine ⟨-1, ?_, ?_⟩
    · rw [slices_Index_string_string.l0, if_neg (by omega)]
    · rw [List.drop_of_length_le (by omega)]; rfl
  | d + 1, k, i, hd, hk => by
    obtain ⟨k, rfl⟩ : ∃ m, k = m + 1 := ⟨k - 1, by omega⟩
    have hw : wrap64 ((i : Int) + 1) = ((i + 1 : Nat) : Int) := by unfold wrap64; omega
    obtain ⟨r, hr, hc⟩ := tok_index s l hl d k (i + 1) (by omega) (by omega)
    have hi : i < l.length := by omega
    have hx : rdOf ByteArray.empty l (i : Int) = l[i] := by simp [rdOf, List.getD_eq_getElem?_getD, List.getElem?_eq_getElem hi]
    have e1 : tok_has (l.drop i) s = (decide (s = l[i]) || tok_has (l.drop (i + 1)) s) := by rw [List.drop_eq_getElem_cons hi]; rfl
    rw [e1]
    by_cases he : s = l[i]
    · refine ⟨i, ?_, ?_⟩
      · rw [slices_Index_string_string.l0, if_pos (by omega), if_pos (by omega), if_pos (by omega), if_pos (by rw [hx, tok_eq]; exact he)]
      · rw [decide_eq_true he, Bool.true_or]
        exact decide_eq_true (by omega)
    · refine ⟨r, ?_, ?_⟩
      · rw [slices_Index_string_string.l0, if_pos (by omega), if_pos (by omega), if_pos (by omega), if_neg (by rw [hx, tok_eq]; exact he), hw, hr]
      · rw [decide_eq_false he, Bool.false_or, hc]
theorem tok_contains (s : ByteArray) : slices_Contains_string_string.f 7 tok_names s = some (tok_has tok_names s) := by
  obtain ⟨r, hr, hc⟩ := tok_index s tok_names (by decide) 5 7 0 (by decide) (by omega)
  unfold slices_Contains_string_string.f slices_Index_string_string.f
  have hr' : slices_Index_string_string.l0 7 tok_names s (tok_names.length : Int) 0 = some r := hr
  rw [hr', Option.bind_some, hc]
  rfl
theorem tok_contains_calls (s : ByteArray) (g : Nat) (W : World) (h : W.heap[g]? = some (.cells #[.string ⟨#[99, 111, 110, 110, 101, 99, 116, 105, 111, 110]⟩, .string ⟨#[107, 101, 101, 112, 45, 97, 108, 105, 118, 101]⟩, .string ⟨#[112, 114, 111, 120, 121, 45, 99, 111, 110, 110, 101, 99, 116, 105, 111, 110]⟩, .string ⟨#[116, 114, 97, 110, 115, 102, 101, 114, 45, 101, 110, 99, 111, 100, 105, 110, 103]⟩, .string ⟨#[117, 112, 103, 114, 97, 100, 101]⟩] 97 (0, 0))) :
    Calls Tryz.prog 106 #[.slice (some ⟨g, 0, none⟩) 5 5, .string s] W fun e w' => e = .returned (.bool (tok_has tok_names s)) ∧ Drawn0 W w' := by
  refine slices_Contains_string_string.calls 7 (some ⟨g, 0, none⟩) 5 tok_names s _ W ?_ (by decide) (tok_contains s)
  refine Kd.C_of_reads (enc := Value.string) (d := ⟨#[]⟩) (h1 := fun _ => rfl) ⟨rfl, by decide, fun _ => ⟨_, rfl, fun j hj => ?_⟩⟩
  have hj5 : j < 5 := hj
  rw [add_plain, blk_cell h]
  rcases (show j = 0 ∨ j = 1 ∨ j = 2 ∨ j = 3 ∨ j = 4 by omega) with rfl | rfl | rfl | rfl | rfl <;> rfl
set_option maxHeartbeats 6400000 in
set_option maxRecDepth 100000 in
theorem message_token.calls (s : ByteArray) (g : Bool) (r : Bool) (w : World) (h : message_token.f s g = some r) :
    Calls Tryz.prog 35 #[.string s, .bool g] w fun e w' => e = .returned (.bool r) ∧ Below w.heap.size w w' := by
  have H := Aside0.mk (Option.some.inj h)
  clear h
  go_enter Tryz.func35, Tryz.ntmps35
  go_wp2
  go_loopw [5] (fun v5 w' => ∃ pos : Nat, pos ≤ s.size ∧ w' = w.iter s pos ∧ Aside0 ((s.data.toList.take pos).all (tokc g) = true)) (fun _ w' => s.size - w'.iterPos w.heap.size)
  case atStart => exact ⟨0, Nat.zero_le _, rfl, ⟨rfl⟩⟩
  case round =>
    obtain ⟨pos, hpos, rfl, HA⟩ := hrel
    by_cases hp : pos < s.size
    · have hB := Aside0.mk (tok_at s pos hp)
      have hpi : (pos : Int) < (s.size : Int) := by omega
      by_cases ha : (s[pos]'hp).toNat < 128
      · have hnx : ∀ ty, (Instr.next (.pointer (some ⟨w.heap.size, 0, none⟩)) true ty).run Tryz.prog (w.iter s pos) = _ := fun ty => run_next_ascii w s pos ty hp ha
        have hix : bt s (pos : Int) = ((s[pos]'hp).toNat : Int) := by rw [← bt_at s (pos : Int) (by omega)]; rfl
        obtain ⟨b, hb⟩ : ∃ b, s[pos]'hp = b := ⟨_, rfl⟩
        rw [hb] at hB hnx ha
        by_cases i47 : b.toNat ≤ 47
        · skip
          have k0 : decide ((97 : Int) ≤ (b.toNat : Int)) = false := decide_eq_false (by omega)
          have k1 : decide ((b.toNat : Int) ≤ 122) = true := decide_eq_true (by omega)
          have k2 : decide ((48 : Int) ≤ (b.toNat : Int)) = false := decide_eq_false (by omega)
          have k3 : decide ((b.toNat : Int) ≤ 57) = true := decide_eq_true (by omega)
          have k4 : decide ((65 : Int) ≤ (b.toNat : Int)) = false := decide_eq_false (by omega)
          have k5 : decide ((b.toNat : Int) ≤ 90) = true := decide_eq_true (by omega)
          have k6 : decide ((128 : Int) ≤ (b.toNat : Int)) = false := decide_eq_false (by omega)
          cases g with
          | true =>
            have HL := Aside0.mk (show tokL true b.toNat = false by unfold tokL; simp; omega)
            have hfi := tok_fine_index b
            unfold tok_fine at hfi
            cases hf : tok_fine.contains b with
            | true =>
              unfold tok_fine at hf
              rw [hf, Bool.not_true] at hfi
              have HT := Aside0.mk (show tokc true b = true by unfold tokc tok_fine; rw [hf, HL.out, decide_eq_true ha]; rfl)
              clear hf
              go_wp2_with (first | (go_at_call 104; (with_reducible refine (Go.Proofs.Tryz.strings_IndexByte _ _ _).mono ?_); rintro e w3 ⟨rfl, rfl⟩))
              go_roundw
              case rel => exact ⟨pos + 1, by omega, rfl, ⟨tok_take hB.out HA.out HT.out⟩⟩
              case measure => simp; omega
            | false =>
              unfold tok_fine at hf
              rw [hf, Bool.not_false] at hfi
              have HF := Aside0.mk (tok_bad (g := true) hB.out (show tokc true b = false by unfold tokc tok_fine; rw [hf, HL.out, decide_eq_true ha]; rfl))
              clear hf
              go_wp2_with (first | (go_at_call 104; (with_reducible refine (Go.Proofs.Tryz.strings_IndexByte _ _ _).mono ?_); rintro e w3 ⟨rfl, rfl⟩))
              go_ret
              exact ⟨by rw [← H.out, HF.out]; rfl, below_alloc (Below.refl _ _) _⟩
          | false =>
            have HL := Aside0.mk (show tokL false b.toNat = false by unfold tokL; simp; omega)
            have hfi := tok_fine_index b
            unfold tok_fine at hfi
            cases hf : tok_fine.contains b with
            | true =>
              unfold tok_fine at hf
              rw [hf, Bool.not_true] at hfi
              have HT := Aside0.mk (show tokc false b = true by unfold tokc tok_fine; rw [hf, HL.out, decide_eq_true ha]; rfl)
              clear hf
              go_wp2_with (first | (go_at_call 104; (with_reducible refine (Go.Proofs.Tryz.strings_IndexByte _ _ _).mono ?_); rintro e w3 ⟨rfl, rfl⟩))
              go_roundw
              case rel => exact ⟨pos + 1, by omega, rfl, ⟨tok_take hB.out HA.out HT.out⟩⟩
              case measure => simp; omega
            | false =>
              unfold tok_fine at hf
              rw [hf, Bool.not_false] at hfi
              have HF := Aside0.mk (tok_bad (g := false) hB.out (show tokc false b = false by unfold tokc tok_fine; rw [hf, HL.out, decide_eq_true ha]; rfl))
              clear hf
              go_wp2_with (first | (go_at_call 104; (with_reducible refine (Go.Proofs.Tryz.strings_IndexByte _ _ _).mono ?_); rintro e w3 ⟨rfl, rfl⟩))
              go_ret
              exact ⟨by rw [← H.out, HF.out]; rfl, below_alloc (Below.refl _ _) _⟩
        · skip
          by_cases i57 : b.toNat ≤ 57
          · skip
            have k0 : decide ((97 : Int) ≤ (b.toNat : Int)) = false := decide_eq_false (by omega)
            have k1 : decide ((b.toNat : Int) ≤ 122) = true := decide_eq_true (by omega)
            have k2 : decide ((48 : Int) ≤ (b.toNat : Int)) = true := decide_eq_true (by omega)
            have k3 : decide ((b.toNat : Int) ≤ 57) = true := decide_eq_true (by omega)
            have k4 : decide ((65 : Int) ≤ (b.toNat : Int)) = false := decide_eq_false (by omega)
            have k5 : decide ((b.toNat : Int) ≤ 90) = true := decide_eq_true (by omega)
            have k6 : decide ((128 : Int) ≤ (b.toNat : Int)) = false := decide_eq_false (by omega)
            have HT := Aside0.mk (show tokc g b = true by unfold tokc tokL; simp; omega)
            go_wp2_with (fail)
            go_roundw
            case rel => exact ⟨pos + 1, by omega, rfl, ⟨tok_take hB.out HA.out HT.out⟩⟩
            case measure => simp; omega
          · skip
            by_cases i64 : b.toNat ≤ 64
            · skip
              have k0 : decide ((97 : Int) ≤ (b.toNat : Int)) = false := decide_eq_false (by omega)
              have k1 : decide ((b.toNat : Int) ≤ 122) = true := decide_eq_true (by omega)
              have k2 : decide ((48 : Int) ≤ (b.toNat : Int)) = true := decide_eq_true (by omega)
              have k3 : decide ((b.toNat : Int) ≤ 57) = false := decide_eq_false (by omega)
              have k4 : decide ((65 : Int) ≤ (b.toNat : Int)) = false := decide_eq_false (by omega)
              have k5 : decide ((b.toNat : Int) ≤ 90) = true := decide_eq_true (by omega)
              have k6 : decide ((128 : Int) ≤ (b.toNat : Int)) = false := decide_eq_false (by omega)
              cases g with
              | true =>
                have HL := Aside0.mk (show tokL true b.toNat = false by unfold tokL; simp; omega)
                have hfi := tok_fine_index b
                unfold tok_fine at hfi
                cases hf : tok_fine.contains b with
                | true =>
                  unfold tok_fine at hf
                  rw [hf, Bool.not_true] at hfi
                  have HT := Aside0.mk (show tokc true b = true by unfold tokc tok_fine; rw [hf, HL.out, decide_eq_true ha]; rfl)
                  clear hf
                  go_wp2_with (first | (go_at_call 104; (with_reducible refine (Go.Proofs.Tryz.strings_IndexByte _ _ _).mono ?_); rintro e w3 ⟨rfl, rfl⟩))
                  go_roundw
                  case rel => exact ⟨pos + 1, by omega, rfl, ⟨tok_take hB.out HA.out HT.out⟩⟩
                  case measure => simp; omega
                | false =>
                  unfold tok_fine at hf
                  rw [hf, Bool.not_false] at hfi
                  have HF := Aside0.mk (tok_bad (g := true) hB.out (show tokc true b = false by unfold tokc tok_fine; rw [hf, HL.out, decide_eq_true ha]; rfl))
                  clear hf
                  go_wp2_with (first | (go_at_call 104; (with_reducible refine (Go.Proofs.Tryz.strings_IndexByte _ _ _).mono ?_); rintro e w3 ⟨rfl, rfl⟩))
                  go_ret
                  exact ⟨by rw [← H.out, HF.out]; rfl, below_alloc (Below.refl _ _) _⟩
              | false =>
                have HL := Aside0.mk (show tokL false b.toNat = false by unfold tokL; simp; omega)
                have hfi := tok_fine_index b
                unfold tok_fine at hfi
                cases hf : tok_fine.contains b with
                | true =>
                  unfold tok_fine at hf
                  rw [hf, Bool.not_true] at hfi
                  have HT := Aside0.mk (show tokc false b = true by unfold tokc tok_fine; rw [hf, HL.out, decide_eq_true ha]; rfl)
                  clear hf
                  go_wp2_with (first | (go_at_call 104; (with_reducible refine (Go.Proofs.Tryz.strings_IndexByte _ _ _).mono ?_); rintro e w3 ⟨rfl, rfl⟩))
                  go_roundw
                  case rel => exact ⟨pos + 1, by omega, rfl, ⟨tok_take hB.out HA.out HT.out⟩⟩
                  case measure => simp; omega
                | false =>
                  unfold tok_fine at hf
                  rw [hf, Bool.not_false] at hfi
                  have HF := Aside0.mk (tok_bad (g := false) hB.out (show tokc false b = false by unfold tokc tok_fine; rw [hf, HL.out, decide_eq_true ha]; rfl))
                  clear hf
                  go_wp2_with (first | (go_at_call 104; (with_reducible refine (Go.Proofs.Tryz.strings_IndexByte _ _ _).mono ?_); rintro e w3 ⟨rfl, rfl⟩))
                  go_ret
                  exact ⟨by rw [← H.out, HF.out]; rfl, below_alloc (Below.refl _ _) _⟩
            · skip
              by_cases i90 : b.toNat ≤ 90
              · skip
                have k0 : decide ((97 : Int) ≤ (b.toNat : Int)) = false := decide_eq_false (by omega)
                have k1 : decide ((b.toNat : Int) ≤ 122) = true := decide_eq_true (by omega)
                have k2 : decide ((48 : Int) ≤ (b.toNat : Int)) = true := decide_eq_true (by omega)
                have k3 : decide ((b.toNat : Int) ≤ 57) = false := decide_eq_false (by omega)
                have k4 : decide ((65 : Int) ≤ (b.toNat : Int)) = true := decide_eq_true (by omega)
                have k5 : decide ((b.toNat : Int) ≤ 90) = true := decide_eq_true (by omega)
                have k6 : decide ((128 : Int) ≤ (b.toNat : Int)) = false := decide_eq_false (by omega)
                cases g with
                | true =>
                  have HT := Aside0.mk (show tokc true b = true by unfold tokc tokL; simp; omega)
                  go_wp2_with (fail)
                  go_roundw
                  case rel => exact ⟨pos + 1, by omega, rfl, ⟨tok_take hB.out HA.out HT.out⟩⟩
                  case measure => simp; omega
                | false =>
                  have HL := Aside0.mk (show tokL false b.toNat = false by unfold tokL; simp; omega)
                  have hfi := tok_fine_index b
                  unfold tok_fine at hfi
                  cases hf : tok_fine.contains b with
                  | true =>
                    unfold tok_fine at hf
                    rw [hf, Bool.not_true] at hfi
                    have HT := Aside0.mk (show tokc false b = true by unfold tokc tok_fine; rw [hf, HL.out, decide_eq_true ha]; rfl)
                    clear hf
                    go_wp2_with (first | (go_at_call 104; (with_reducible refine (Go.Proofs.Tryz.strings_IndexByte _ _ _).mono ?_); rintro e w3 ⟨rfl, rfl⟩))
                    go_roundw
                    case rel => exact ⟨pos + 1, by omega, rfl, ⟨tok_take hB.out HA.out HT.out⟩⟩
                    case measure => simp; omega
                  | false =>
                    unfold tok_fine at hf
                    rw [hf, Bool.not_false] at hfi
                    have HF := Aside0.mk (tok_bad (g := false) hB.out (show tokc false b = false by unfold tokc tok_fine; rw [hf, HL.out, decide_eq_true ha]; rfl))
                    clear hf
                    go_wp2_with (first | (go_at_call 104; (with_reducible refine (Go.Proofs.Tryz.strings_IndexByte _ _ _).mono ?_); rintro e w3 ⟨rfl, rfl⟩))
                    go_ret
                    exact ⟨by rw [← H.out, HF.out]; rfl, below_alloc (Below.refl _ _) _⟩
              · skip
                by_cases i96 : b.toNat ≤ 96
                · skip
                  have k0 : decide ((97 : Int) ≤ (b.toNat : Int)) = false := decide_eq_false (by omega)
                  have k1 : decide ((b.toNat : Int) ≤ 122) = true := decide_eq_true (by omega)
                  have k2 : decide ((48 : Int) ≤ (b.toNat : Int)) = true := decide_eq_true (by omega)
                  have k3 : decide ((b.toNat : Int) ≤ 57) = false := decide_eq_false (by omega)
                  have k4 : decide ((65 : Int) ≤ (b.toNat : Int)) = true := decide_eq_true (by omega)
                  have k5 : decide ((b.toNat : Int) ≤ 90) = false := decide_eq_false (by omega)
                  have k6 : decide ((128 : Int) ≤ (b.toNat : Int)) = false := decide_eq_false (by omega)
                  cases g with
                  | true =>
                    have HL := Aside0.mk (show tokL true b.toNat = false by unfold tokL; simp; omega)
                    have hfi := tok_fine_index b
                    unfold tok_fine at hfi
                    cases hf : tok_fine.contains b with
                    | true =>
                      unfold tok_fine at hf
                      rw [hf, Bool.not_true] at hfi
                      have HT := Aside0.mk (show tokc true b = true by unfold tokc tok_fine; rw [hf, HL.out, decide_eq_true ha]; rfl)
                      clear hf
                      go_wp2_with (first | (go_at_call 104; (with_reducible refine (Go.Proofs.Tryz.strings_IndexByte _ _ _).mono ?_); rintro e w3 ⟨rfl, rfl⟩))
                      go_roundw
                      case rel => exact ⟨pos + 1, by omega, rfl, ⟨tok_take hB.out HA.out HT.out⟩⟩
                      case measure => simp; omega
                    | false =>
                      unfold tok_fine at hf
                      rw [hf, Bool.not_false] at hfi
                      have HF := Aside0.mk (tok_bad (g := true) hB.out (show tokc true b = false by unfold tokc tok_fine; rw [hf, HL.out, decide_eq_true ha]; rfl))
                      clear hf
                      go_wp2_with (first | (go_at_call 104; (with_reducible refine (Go.Proofs.Tryz.strings_IndexByte _ _ _).mono ?_); rintro e w3 ⟨rfl, rfl⟩))
                      go_ret
                      exact ⟨by rw [← H.out, HF.out]; rfl, below_alloc (Below.refl _ _) _⟩
                  | false =>
                    have HL := Aside0.mk (show tokL false b.toNat = false by unfold tokL; simp; omega)
                    have hfi := tok_fine_index b
                    unfold tok_fine at hfi
                    cases hf : tok_fine.contains b with
                    | true =>
                      unfold tok_fine at hf
                      rw [hf, Bool.not_true] at hfi
                      have HT := Aside0.mk (show tokc false b = true by unfold tokc tok_fine; rw [hf, HL.out, decide_eq_true ha]; rfl)
                      clear hf
                      go_wp2_with (first | (go_at_call 104; (with_reducible refine (Go.Proofs.Tryz.strings_IndexByte _ _ _).mono ?_); rintro e w3 ⟨rfl, rfl⟩))
                      go_roundw
                      case rel => exact ⟨pos + 1, by omega, rfl, ⟨tok_take hB.out HA.out HT.out⟩⟩
                      case measure => simp; omega
                    | false =>
                      unfold tok_fine at hf
                      rw [hf, Bool.not_false] at hfi
                      have HF := Aside0.mk (tok_bad (g := false) hB.out (show tokc false b = false by unfold tokc tok_fine; rw [hf, HL.out, decide_eq_true ha]; rfl))
                      clear hf
                      go_wp2_with (first | (go_at_call 104; (with_reducible refine (Go.Proofs.Tryz.strings_IndexByte _ _ _).mono ?_); rintro e w3 ⟨rfl, rfl⟩))
                      go_ret
                      exact ⟨by rw [← H.out, HF.out]; rfl, below_alloc (Below.refl _ _) _⟩
                · skip
                  by_cases i122 : b.toNat ≤ 122
                  · skip
                    have k0 : decide ((97 : Int) ≤ (b.toNat : Int)) = true := decide_eq_true (by omega)
                    have k1 : decide ((b.toNat : Int) ≤ 122) = true := decide_eq_true (by omega)
                    have k2 : decide ((48 : Int) ≤ (b.toNat : Int)) = true := decide_eq_true (by omega)
                    have k3 : decide ((b.toNat : Int) ≤ 57) = false := decide_eq_false (by omega)
                    have k4 : decide ((65 : Int) ≤ (b.toNat : Int)) = true := decide_eq_true (by omega)
                    have k5 : decide ((b.toNat : Int) ≤ 90) = false := decide_eq_false (by omega)
                    have k6 : decide ((128 : Int) ≤ (b.toNat : Int)) = false := decide_eq_false (by omega)
                    have HT := Aside0.mk (show tokc g b = true by unfold tokc tokL; simp; omega)
                    go_wp2_with (fail)
                    go_roundw
                    case rel => exact ⟨pos + 1, by omega, rfl, ⟨tok_take hB.out HA.out HT.out⟩⟩
                    case measure => simp; omega
                  · skip
                    have k0 : decide ((97 : Int) ≤ (b.toNat : Int)) = true := decide_eq_true (by omega)
                    have k1 : decide ((b.toNat : Int) ≤ 122) = false := decide_eq_false (by omega)
                    have k2 : decide ((48 : Int) ≤ (b.toNat : Int)) = true := decide_eq_true (by omega)
                    have k3 : decide ((b.toNat : Int) ≤ 57) = false := decide_eq_false (by omega)
                    have k4 : decide ((65 : Int) ≤ (b.toNat : Int)) = true := decide_eq_true (by omega)
                    have k5 : decide ((b.toNat : Int) ≤ 90) = false := decide_eq_false (by omega)
                    have k6 : decide ((128 : Int) ≤ (b.toNat : Int)) = false := decide_eq_false (by omega)
                    cases g with
                    | true =>
                      have HL := Aside0.mk (show tokL true b.toNat = false by unfold tokL; simp; omega)
                      have hfi := tok_fine_index b
                      unfold tok_fine at hfi
                      cases hf : tok_fine.contains b with
                      | true =>
                        unfold tok_fine at hf
                        rw [hf, Bool.not_true] at hfi
                        have HT := Aside0.mk (show tokc true b = true by unfold tokc tok_fine; rw [hf, HL.out, decide_eq_true ha]; rfl)
                        clear hf
                        go_wp2_with (first | (go_at_call 104; (with_reducible refine (Go.Proofs.Tryz.strings_IndexByte _ _ _).mono ?_); rintro e w3 ⟨rfl, rfl⟩))
                        go_roundw
                        case rel => exact ⟨pos + 1, by omega, rfl, ⟨tok_take hB.out HA.out HT.out⟩⟩
                        case measure => simp; omega
                      | false =>
                        unfold tok_fine at hf
                        rw [hf, Bool.not_false] at hfi
                        have HF := Aside0.mk (tok_bad (g := true) hB.out (show tokc true b = false by unfold tokc tok_fine; rw [hf, HL.out, decide_eq_true ha]; rfl))
                        clear hf
                        go_wp2_with (first | (go_at_call 104; (with_reducible refine (Go.Proofs.Tryz.strings_IndexByte _ _ _).mono ?_); rintro e w3 ⟨rfl, rfl⟩))
                        go_ret
                        exact ⟨by rw [← H.out, HF.out]; rfl, below_alloc (Below.refl _ _) _⟩
                    | false =>
                      have HL := Aside0.mk (show tokL false b.toNat = false by unfold tokL; simp; omega)
                      have hfi := tok_fine_index b
                      unfold tok_fine at hfi
                      cases hf : tok_fine.contains b with
                      | true =>
                        unfold tok_fine at hf
                        rw [hf, Bool.not_true] at hfi
                        have HT := Aside0.mk (show tokc false b = true by unfold tokc tok_fine; rw [hf, HL.out, decide_eq_true ha]; rfl)
                        clear hf
                        go_wp2_with (first | (go_at_call 104; (with_reducible refine (Go.Proofs.Tryz.strings_IndexByte _ _ _).mono ?_); rintro e w3 ⟨rfl, rfl⟩))
                        go_roundw
                        case rel => exact ⟨pos + 1, by omega, rfl, ⟨tok_take hB.out HA.out HT.out⟩⟩
                        case measure => simp; omega
                      | false =>
                        unfold tok_fine at hf
                        rw [hf, Bool.not_false] at hfi
                        have HF := Aside0.mk (tok_bad (g := false) hB.out (show tokc false b = false by unfold tokc tok_fine; rw [hf, HL.out, decide_eq_true ha]; rfl))
                        clear hf
                        go_wp2_with (first | (go_at_call 104; (with_reducible refine (Go.Proofs.Tryz.strings_IndexByte _ _ _).mono ?_); rintro e w3 ⟨rfl, rfl⟩))
                        go_ret
                        exact ⟨by rw [← H.out, HF.out]; rfl, below_alloc (Below.refl _ _) _⟩
      · have hnx : ∀ ty, (Instr.next (.pointer (some ⟨w.heap.size, 0, none⟩)) true ty).run Tryz.prog (w.iter s pos) = _ := fun ty => run_next_any w s pos ty hp
        obtain ⟨hd1, hd2⟩ := decode_high s pos hp (by omega)
        obtain ⟨c, hc⟩ : ∃ c : Nat, (Utf8.decode s pos).1 = c := ⟨_, rfl⟩
        rw [hc] at hnx hd1
        have HF := Aside0.mk (tok_high (g := g) hB.out ha)
        have c1 : decide ((97 : Int) ≤ (c : Int)) = true := decide_eq_true (by omega)
        have c2 : decide ((c : Int) ≤ 122) = false := decide_eq_false (by omega)
        have c3 : decide ((48 : Int) ≤ (c : Int)) = true := decide_eq_true (by omega)
        have c4 : decide ((c : Int) ≤ 57) = false := decide_eq_false (by omega)
        have c5 : decide ((65 : Int) ≤ (c : Int)) = true := decide_eq_true (by omega)
        have c6 : decide ((c : Int) ≤ 90) = false := decide_eq_false (by omega)
        have c7 : decide ((128 : Int) ≤ (c : Int)) = true := decide_eq_true (by omega)
        cases g with
        | true =>
          go_wp2_with (fail)
          go_ret
          exact ⟨by rw [← H.out, HF.out]; rfl, below_alloc (Below.refl _ _) _⟩
        | false =>
          go_wp2_with (fail)
          go_ret
          exact ⟨by rw [← H.out, HF.out]; rfl, below_alloc (Below.refl _ _) _⟩
    · have hnx : ∀ ty, (Instr.next (.pointer (some ⟨w.heap.size, 0, none⟩)) true ty).run Tryz.prog (w.iter s pos) = _ := fun ty => run_next_end w s pos ty hp
      obtain rfl : pos = s.size := by omega
      have HE := Aside0.mk (show tokB s g = (!(decide (s.size = 0)) && !tok_has tok_names s) by
        have h := HA.out
        rw [List.take_of_length_le (by simp)] at h
        unfold tokB
        rw [h, Bool.true_and])
      have HM := Aside0.mk (show decide (s.size = 0) = s.toList.isEmpty by
        rw [Lib.toList_data]
        cases h : s.data.toList with
        | nil => have := Lib.size_eq s; rw [h] at this; simpa using this
        | cons x l => rw [List.isEmpty_cons]; exact decide_eq_false (by have := Lib.size_eq s; rw [h, List.length_cons] at this; omega))
      by_cases hz : s.toList = []
      · have h2 : s.toList.isEmpty = true := by rw [hz]; rfl
        have HZ := Aside0.mk (show tokB s g = false by rw [HE.out, HM.out, h2]; rfl)
        go_wp2_with (first | (go_at_call 105; (with_reducible refine (message_names.calls _).mono ?_); rintro e w3 ⟨rfl, hb3⟩; have HB3 := Aside0.mk (below_step (show Below w.heap.size w (w.iter s s.size) from below_alloc (Below.refl _ _) _) hb3); clear hb3) | (go_at_call 106; (refine (tok_contains_calls s w3.heap.size _ (tok_block _ _ _)).mono ?_); rintro e w4 ⟨rfl, hb4⟩; have HB4 := Aside0.mk (show Below w.heap.size w w4 from by obtain ⟨m4, rfl⟩ := hb4.out; exact pw_below_drewN (below_alloc HB3.out _) _); clear hb4))
        go_ret
        exact ⟨by rw [← H.out, HZ.out]; rfl, below_alloc HB3.out _⟩
      · have h2 : s.toList.isEmpty = false := by cases h : s.toList with | nil => exact absurd h hz | cons _ _ => rfl
        have HZ := Aside0.mk (show tokB s g = !tok_has tok_names s by rw [HE.out, HM.out, h2]; rfl)
        go_wp2_with (first | (go_at_call 105; (with_reducible refine (message_names.calls _).mono ?_); rintro e w3 ⟨rfl, hb3⟩; have HB3 := Aside0.mk (below_step (show Below w.heap.size w (w.iter s s.size) from below_alloc (Below.refl _ _) _) hb3); clear hb3) | (go_at_call 106; (refine (tok_contains_calls s w3.heap.size _ (tok_block _ _ _)).mono ?_); rintro e w4 ⟨rfl, hb4⟩; have HB4 := Aside0.mk (show Below w.heap.size w w4 from by obtain ⟨m4, rfl⟩ := hb4.out; exact pw_below_drewN (below_alloc HB3.out _) _); clear hb4))
        go_ret
        exact ⟨by rw [← H.out, HZ.out]; rfl, HB4.out⟩
end Go.Proofs.YtcgbpallpnaclaaGreatDoor.T
