/- A part of the walk of the laws of layer 22 (message): contracts of functions of the program, each walked once. -/
import Derived.Test.YtcgbpallpnaclaaGreatDoorUS1
import Derived.Test.YtcgbpallpnaclaaGreatDoorPMWx7
import Derived.Test.YtcgbpallpnaclaaGreatDoorPMWx12
import Derived.Test.YtcgbpallpnaclaaGreatDoorPMWx14
import Derived.RangeFuncNested
import Derived.RangeFuncBound
import Derived.RangeFuncCalls
import Derived.RangeFuncLeaves
import Derived.RangeFuncBox
import Derived.OwnWalkIn
import Derived.TacticsInMore
import Derived.LoopNIn
import Derived.LoopIn
import Derived.Deep.DeepMust
import Derived.LoopN
import Derived.Laws.BitsAllLaws
import Derived.Maps.OwnIn
import Derived.Maps.Own
import Derived.Maps.OwnSet
import Derived.Maps.OwnOps
import Derived.Shelf.Abstract
import Derived.Sort.CutIn
import Derived.Shelf.RegionOpen
import Derived.StillTailTactics
import Derived.Outline
import Derived.Deep.RegionHeld3
import Derived.Laws.StructEq
import Derived.Laws.RangeAny
import Derived.Laws.EntriesVeiled
import Derived.WalkSpells
import Derived.Lib.SlBytesConst
import Derived.Deep.RegionLaw
import Derived.Deep.RegionWith
import Derived.ArgAppend
import Derived.Shelf.Strings.SlTrimAscii
import Derived.Shelf.Strings.IndexAnyAll
import Derived.Test.YtcgbpallpnaclaaGreatDoorSh
import Derived.Test.YtcgbpallpnaclaaGreatDoorWEqStruct
namespace Go.Proofs.YtcgbpallpnaclaaGreatDoor.T
open Go.RowKit Go.Proofs.YtcgbpallpnaclaaGreatDoorW.PrintWords Go.Proofs.YtcgbpallpnaclaaGreatDoorW.PrintLast Go.Proofs.YtcgbpallpnaclaaGreatDoorW.PrintMore
open Go.Proofs.YtcgbpallpnaclaaGreatDoor.PMW
set_option linter.unusedVariables false
set_option linter.unusedSimpArgs false
/-! ### the document's functions of messages: what they answer -/
theorem dg_one (n : Nat) : (⟨#[48, 49, 50, 51, 52, 53, 54, 55, 56, 57]⟩ : ByteArray).extract (n % 10) (n % 10 + 1) = ⟨#[UInt8.ofNat (48 + n % 10)]⟩ := by
  have h : ∀ i : Fin 10, (⟨#[48, 49, 50, 51, 52, 53, 54, 55, 56, 57]⟩ : ByteArray).extract i.val (i.val + 1) = ⟨#[UInt8.ofNat (48 + i.val)]⟩ := by decide +kernel
  exact h ⟨n % 10, Nat.mod_lt _ (by omega)⟩
theorem dg_go : ∀ (f n : Nat), n < f → ∀ (k : Nat) (s : ByteArray), f < k → s.size + n ≤ 4611686018427387904 → ∃ r, mailcoachref22_Digits.l0 k (n : Int) s = some r ∧ r.data.toList = Lib.decDigits n ++ s.data.toList := by
  intro f
  induction f with
  | zero => intro n h; omega
  | succ f ih =>
    intro n hn k s hk hs
    obtain ⟨k, rfl⟩ : ∃ k', k = k' + 1 := ⟨k - 1, by omega⟩
    have ht : Int.tmod (n : Int) 10 = ((n % 10 : Nat) : Int) := by rw [Int.tmod_eq_emod_of_nonneg (by omega)]; omega
    have hd : Int.tdiv (n : Int) 10 = ((n / 10 : Nat) : Int) := by rw [Int.tdiv_eq_ediv_of_nonneg (by omega)]; omega
    have hsz : ∀ b : UInt8, (⟨#[b]⟩ : ByteArray).size = 1 := fun b => rfl
    have hdat : ∀ b : UInt8, ((⟨#[b]⟩ : ByteArray) ++ s).data.toList = b :: s.data.toList := fun b => by simp
    have hszz : ∀ b : UInt8, ((⟨#[b]⟩ : ByteArray) ++ s).size = 1 + s.size := fun b => by rw [ByteArray.size_append, hsz]
    rw [mailcoachref22_Digits.l0]
    by_cases h9 : n ≤ 9
    · have hw : wrap64 ((n : Int) + 1) = ((n + 1 : Nat) : Int) := by rw [w64 _ (by omega) (by omega)]; omega
      have h1 := dg_one n
      rw [Nat.mod_eq_of_lt (show n < 10 by omega)] at h1
      rw [if_neg (by omega), if_pos (by omega), hw, Int.toNat_natCast, Int.toNat_natCast, h1, hsz, if_pos (by omega), if_pos (by omega), if_pos (by omega)]
      refine ⟨_, rfl, ?_⟩
      rw [hdat, Lib.decDigits, dif_pos (by omega)]
      rfl
    · have hw : wrap64 (((n % 10 : Nat) : Int) + 1) = ((n % 10 + 1 : Nat) : Int) := by rw [w64 _ (by omega) (by omega)]; omega
      have hwd : wrap64 ((n / 10 : Nat) : Int) = ((n / 10 : Nat) : Int) := w64 _ (by omega) (by omega)
      rw [if_pos (by omega), ht, hw, Int.toNat_natCast, Int.toNat_natCast, dg_one, hsz, hd, hwd, if_pos (by omega), if_pos (by omega), if_pos (by omega), if_pos (by omega)]
      obtain ⟨r, hr, he⟩ := ih (n / 10) (by omega) k ((⟨#[UInt8.ofNat (48 + n % 10)]⟩ : ByteArray) ++ s) (by omega) (by rw [hszz]; omega)
      refine ⟨r, hr, ?_⟩
      rw [he, hdat, Lib.decDigits.eq_def n, dif_neg (by omega), List.append_assoc]
      rfl
theorem digits_ok (n k : Nat) (hn : n ≤ 1000000) (hk : 1000002 < k) : mailcoachref22_Digits.f k (n : Int) = some (msg_itoa (n : Int)) := by
  obtain ⟨r, hr, he⟩ := dg_go (n + 1) n (by omega) k ⟨#[]⟩ (by omega) (by show 0 + n ≤ _; omega)
  unfold mailcoachref22_Digits.f
  rw [hr]
  congr 1
  rw [← strL_toList r, he]
  unfold strL msg_itoa Lib.itoa
  rw [if_neg (by omega)]
  simp
theorem my_sum (l : List S62) (i : Nat) (h : i < l.length) : msg_sum (l.drop i) = (rd_T62 l (i : Int)).f0.size + (rd_T62 l (i : Int)).f1.size + msg_sum (l.drop (i + 1)) := by
  conv => lhs; rw [msg_rd_drop l i h]
  simp [msg_sum]
theorem great_l1 (l0 : List S62) (l1 : List Int) (l2 : List S62) (hl : l2.length ≤ 1000000) : ∀ (d k i x : Nat), i + d = l2.length → d < k → x + msg_sum (l2.drop i) ≤ 4611686018427387904 → mailcoachref22_great.l1 k (x : Int) (i : Int) l0 l1 l2 = some (decide (65536 < x + msg_sum (l2.drop i))) := by
  intro d
  induction d with
  | zero =>
    intro k i x hi hk hx
    obtain ⟨k, rfl⟩ : ∃ k', k = k' + 1 := ⟨k - 1, by omega⟩
    have hz : msg_sum (l2.drop i) = 0 := by rw [List.drop_eq_nil_of_le (by omega)]; rfl
    rw [mailcoachref22_great.l1, if_neg (by omega), hz]
    congr 1
    exact decide_eq_decide.2 (by omega)
  | succ d ih =>
    intro k i x hi hk hx
    obtain ⟨k, rfl⟩ : ∃ k', k = k' + 1 := ⟨k - 1, by omega⟩
    have hs := my_sum l2 i (by omega)
    have := ih k (i + 1) (x + (rd_T62 l2 (i : Int)).f0.size + (rd_T62 l2 (i : Int)).f1.size) (by omega) (by omega) (by omega)
    rw [mailcoachref22_great.l1, if_pos (by omega), if_pos (by omega), w64 ((x : Int) + _) (by omega) (by omega), w64 (_ + _) (by omega) (by omega), w64 ((i : Int) + 1) (by omega) (by omega)]
    rw [Int.natCast_add, Int.natCast_add, Int.natCast_add] at this
    refine this.trans ?_
    congr 1
    exact decide_eq_decide.2 (by omega)
theorem great_l0 (l0 : List S62) (l1 : List Int) (l2 : List S62) (hl0 : l0.length ≤ 1000000) (hl : l2.length ≤ 1000000) : ∀ (d k i x : Nat), i + d = l0.length → d + 1000002 < k → x + msg_sum (l0.drop i) + msg_sum l2 ≤ 4611686018427387904 → mailcoachref22_great.l0 k (x : Int) (i : Int) l0 l1 l2 = some (decide (65536 < x + msg_sum (l0.drop i) + msg_sum l2)) := by
  intro d
  induction d with
  | zero =>
    intro k i x hi hk hx
    obtain ⟨k, rfl⟩ : ∃ k', k = k' + 1 := ⟨k - 1, by omega⟩
    rw [mailcoachref22_great.l0, if_neg (by omega)]
    have hz : msg_sum (l0.drop i) = 0 := by rw [List.drop_eq_nil_of_le (by omega)]; rfl
    have := great_l1 l0 l1 l2 hl l2.length k 0 x (by omega) (by omega) (by rw [List.drop_zero]; omega)
    rw [List.drop_zero] at this
    rw [hz]
    exact this
  | succ d ih =>
    intro k i x hi hk hx
    obtain ⟨k, rfl⟩ : ∃ k', k = k' + 1 := ⟨k - 1, by omega⟩
    have hs := my_sum l0 i (by omega)
    have := ih k (i + 1) (x + (rd_T62 l0 (i : Int)).f0.size + (rd_T62 l0 (i : Int)).f1.size) (by omega) (by omega) (by omega)
    rw [mailcoachref22_great.l0, if_pos (by omega), if_pos (by omega), w64 ((x : Int) + _) (by omega) (by omega), w64 (_ + _) (by omega) (by omega), w64 ((i : Int) + 1) (by omega) (by omega)]
    rw [Int.natCast_add, Int.natCast_add, Int.natCast_add] at this
    refine this.trans ?_
    congr 1
    exact decide_eq_decide.2 (by omega)
def greatS (l0 : List S62) (n1 : Nat) (l2 : List S62) : Bool := decide (256 < l0.length + l2.length) || (decide (65536 < msg_sum l0 + msg_sum l2) || decide (65536 < n1))
theorem great_ok (l0 : List S62) (l1 : List Int) (l2 : List S62) (k : Nat) (hl0 : l0.length ≤ 1000000) (hl1 : l1.length ≤ 1000000) (hl2 : l2.length ≤ 1000000) (hs : msg_sum l0 + msg_sum l2 ≤ 4611686018427387904) (hk : 3000000 < k) : mailcoachref22_great.f k l0 l1 l2 = some (greatS l0 l1.length l2) := by
  obtain ⟨k, rfl⟩ : ∃ k', k = k' + 1 := ⟨k - 1, by omega⟩
  have h := great_l0 l0 l1 l2 hl0 hl2 l0.length k 0 0 (by omega) (by omega) (by rw [List.drop_zero]; omega)
  rw [List.drop_zero, Nat.zero_add] at h
  unfold mailcoachref22_great.f greatS
  rw [w64 _ (by omega) (by omega)]
  by_cases h1 : 256 < l0.length + l2.length
  · rw [if_pos (by omega), mailcoachref22_great.j0, if_pos rfl, decide_eq_true h1]; rfl
  · rw [if_neg (by omega), mailcoachref22_great.j0, decide_eq_false h1]
    by_cases h2 : 65536 < l1.length
    · rw [if_pos (decide_eq_true (by omega)), decide_eq_true h2]; simp
    · rw [if_neg (by rw [decide_eq_false (by omega)]; exact Bool.false_ne_true), decide_eq_false h2]
      rw [Bool.or_false, Bool.false_or]
      exact h
theorem great_msg (l0 : List S62) (l1 : List Int) (l2 : List S62) (hl0 : l0.length ≤ 1000000) (hl2 : l2.length ≤ 1000000) (hs : msg_sum l0 + msg_sum l2 ≤ 4611686018427387904) : message_great.f l0 l1 l2 = some (greatS l0 l1.length l2) := by
  unfold message_great.f greatS
  rw [if_pos ⟨hs, by omega⟩]
theorem get_go (l : List S62) (nm : ByteArray) (hl : l.length ≤ 1000000) : ∀ (d k i : Nat), i + d = l.length → d < k → mailcoachref22_Get.l0 k l nm (i : Int) = some (match (l.drop i).find? (get_hit nm) with | some x => (x.f1, true) | none => (⟨#[]⟩, false)) := by
  intro d
  induction d with
  | zero =>
    intro k i hi hk
    obtain ⟨k, rfl⟩ : ∃ k', k = k' + 1 := ⟨k - 1, by omega⟩
    rw [mailcoachref22_Get.l0, if_neg (by omega), List.drop_eq_nil_of_le (by omega)]
    rfl
  | succ d ih =>
    intro k i hi hk
    obtain ⟨k, rfl⟩ : ∃ k', k = k' + 1 := ⟨k - 1, by omega⟩
    have := ih k (i + 1) (by omega) (by omega)
    rw [Int.natCast_add] at this
    rw [mailcoachref22_Get.l0, if_pos (by omega), if_pos (by omega), w64 ((i : Int) + 1) (by omega) (by omega), msg_rd_drop l i (by omega), List.find?_cons]
    by_cases h : (rd_T62 l (i : Int)).f0.toList = nm.toList
    · rw [if_pos h, show get_hit nm (rd_T62 l (i : Int)) = true from beq_iff_eq.2 h]
    · rw [if_neg h, show get_hit nm (rd_T62 l (i : Int)) = false from beq_eq_false_iff_ne.2 h]
      exact this
theorem get_ok (l : List S62) (nm : ByteArray) (k : Nat) (hl : l.length ≤ 1000000) (hk : 1000000 < k) : ∃ b, mailcoachref22_Get.f k l nm = some (req_get nm.data.toList l, b) := by
  have h := get_go l nm hl l.length k 0 (by omega) (by omega)
  rw [List.drop_zero] at h
  unfold mailcoachref22_Get.f
  rw [show (0 : Int) = ((0 : Nat) : Int) from rfl, h]
  unfold req_get
  have e : (⟨nm.data.toList.toArray⟩ : ByteArray) = nm := by cases nm; simp
  rw [e]
  cases l.find? (get_hit nm) with
  | none => exact ⟨_, rfl⟩
  | some x => exact ⟨_, rfl⟩
def tailB (x : S62) : Bool := badB x || x.f0.toList == msg_clen
theorem fields_l1 (x4 l0 : List S62) (l1 : List Int) (l2 : List S62) (hl : l2.length ≤ 1000000) (hs : ∀ x ∈ l2, x.f0.size ≤ 1000000 ∧ x.f1.size ≤ 1000000) : ∀ (d k i : Nat), i + d = l2.length → d + 1001002 < k → mailcoachref22_fields.l1 k x4 (i : Int) l0 l1 l2 = some (if (l2.drop i).any tailB = true then ([], false) else (x4, true)) := by
  intro d
  induction d with
  | zero =>
    intro k i hi hk
    obtain ⟨k, rfl⟩ : ∃ k', k = k' + 1 := ⟨k - 1, by omega⟩
    rw [mailcoachref22_fields.l1, if_neg (by omega), List.drop_eq_nil_of_le (by omega)]
    rfl
  | succ d ih =>
    intro k i hi hk
    obtain ⟨k, rfl⟩ : ∃ k', k = k' + 1 := ⟨k - 1, by omega⟩
    have hR := ih k (i + 1) (by omega) (by omega)
    rw [Int.natCast_add] at hR
    have hx : (rd_T62 l2 (i : Int)).f0.size ≤ 1000000 ∧ (rd_T62 l2 (i : Int)).f1.size ≤ 1000000 := hs _ (by
      have := msg_rd_drop l2 i (by omega)
      exact List.mem_of_mem_drop (by rw [this]; exact List.mem_cons_self))
    rw [mailcoachref22_fields.l1, if_pos (by omega), if_pos (by omega), w64 ((i : Int) + 1) (by omega) (by omega), msg_rd_drop l2 i (by omega), List.any_cons]
    generalize rd_T62 l2 (i : Int) = x at hx
    have ht := tokB_split x.f0 false
    rw [token_ok x.f0 false k (by omega) (by omega), Option.bind_some, forbidden_ok x.f0 k (by omega), value_ok x.f0 x.f1 k (by omega) (by omega)]
    unfold tailB badB
    rw [ht]
    cases (x.f0.data.toList.all (tokc false) && x.f0.toList != []) with
    | false => rfl
    | true =>
      rw [if_pos rfl, Option.bind_some]
      cases tok_has tok_names x.f0 with
      | true => rfl
      | false =>
        rw [if_neg Bool.false_ne_true, Option.bind_some]
        cases valB x.f0 x.f1 with
        | false => rfl
        | true =>
          rw [if_pos rfl]
          by_cases hc : x.f0.toList = [99, 111, 110, 116, 101, 110, 116, 45, 108, 101, 110, 103, 116, 104]
          · rw [if_pos hc, show (x.f0.toList == msg_clen) = true from beq_iff_eq.2 hc]; rfl
          · rw [if_neg hc, show (x.f0.toList == msg_clen) = false from beq_eq_false_iff_ne.2 hc]; exact hR
theorem mark_tok (s : ByteArray) (g : Bool) (h : markB s = true) : s.data.toList.all (tokc g) = false := by
  unfold markB at h
  cases hs : s.data.toList with
  | nil => rw [hs] at h; cases h
  | cons b r =>
    rw [hs] at h
    obtain rfl := beq_iff_eq.1 h
    rw [List.all_cons]
    cases g <;> rfl
def restS (l1 l2q : Bool) (x4 : List S62) : List S62 × Bool := if (l1 || l2q) = true then ([], false) else (x4, true)
theorem fields_step (x4 l0 : List S62) (l1 : List Int) (l2 : List S62) (k i : Nat) (x : S62) (hi : i < l0.length) (hl0 : l0.length ≤ 1000000) (hl1 : l1.length ≤ 1000000) (hx : rd_T62 l0 (i : Int) = x) (hs : x.f0.size ≤ 1000000 ∧ x.f1.size ≤ 1000000) (hm : markB x.f0 = false) (hk : 1001003 < k) :
    mailcoachref22_fields.l0 (k + 1) x4 (i : Int) l0 l1 l2 = if wrongB l1.length x = true then some ([], false) else mailcoachref22_fields.l0 k x4 ((i : Int) + 1) l0 l1 l2 := by
  rw [mailcoachref22_fields.l0, if_pos (by omega), if_pos (by omega), w64 ((i : Int) + 1) (by omega) (by omega), hx, mark_ok, hm, Option.bind_some, if_neg Bool.false_ne_true]
  have ht := tokB_split x.f0 false
  rw [token_ok x.f0 false k (by omega) (by omega), Option.bind_some, forbidden_ok x.f0 k (by omega), value_ok x.f0 x.f1 k (by omega) (by omega), digits_ok l1.length k hl1 (by omega)]
  generalize mailcoachref22_fields.l0 k x4 ((i : Int) + 1) l0 l1 l2 = R
  unfold wrongB badB
  rw [ht]
  cases (x.f0.data.toList.all (tokc false) && x.f0.toList != []) with
  | false => rfl
  | true =>
    rw [if_pos rfl, Option.bind_some]
    cases tok_has tok_names x.f0 with
    | true => rfl
    | false =>
      rw [if_neg Bool.false_ne_true, Option.bind_some]
      cases valB x.f0 x.f1 with
      | false => rfl
      | true =>
        rw [if_pos rfl, Option.bind_some]
        by_cases hc : x.f0.toList = [99, 111, 110, 116, 101, 110, 116, 45, 108, 101, 110, 103, 116, 104]
        · rw [if_pos hc, show (x.f0.toList == msg_clen) = true from beq_iff_eq.2 hc]
          by_cases hv : x.f1.toList = (msg_itoa (l1.length : Int)).toList
          · rw [if_pos hv, hv]; simp
          · rw [if_neg hv]
            have : (x.f1.toList != (msg_itoa (l1.length : Int)).toList) = true := by simpa using hv
            rw [this]
            rfl
        · rw [if_neg hc, show (x.f0.toList == msg_clen) = false from beq_eq_false_iff_ne.2 hc]
          rfl
theorem fields_B (x4 l0 : List S62) (l1 : List Int) (l2 : List S62) (hl0 : l0.length ≤ 1000000) (hl1 : l1.length ≤ 1000000) (hl2 : l2.length ≤ 1000000) (hs0 : ∀ x ∈ l0, x.f0.size ≤ 1000000 ∧ x.f1.size ≤ 1000000) (hs2 : ∀ x ∈ l2, x.f0.size ≤ 1000000 ∧ x.f1.size ≤ 1000000) : ∀ (d k i : Nat), i + d = l0.length → d + 3000000 < k → x4.length < i → mailcoachref22_fields.l0 k x4 (i : Int) l0 l1 l2 = some (restS ((l0.drop i).any (wrongB l1.length)) (l2.any tailB) x4) := by
  intro d
  induction d with
  | zero =>
    intro k i hi hk hx
    obtain ⟨k, rfl⟩ : ∃ k', k = k' + 1 := ⟨k - 1, by omega⟩
    have h := fields_l1 x4 l0 l1 l2 hl2 hs2 l2.length k 0 (by omega) (by omega)
    rw [List.drop_zero] at h
    rw [mailcoachref22_fields.l0, if_neg (by omega), List.drop_eq_nil_of_le (by omega), show (0 : Int) = ((0 : Nat) : Int) from rfl, h]
    rfl
  | succ d ih =>
    intro k i hi hk hx
    obtain ⟨k, rfl⟩ : ∃ k', k = k' + 1 := ⟨k - 1, by omega⟩
    have hR := ih k (i + 1) (by omega) (by omega) (by omega)
    rw [Int.natCast_add] at hR
    have hdr := msg_rd_drop l0 i (by omega)
    obtain ⟨x, hxx⟩ : ∃ x, rd_T62 l0 (i : Int) = x := ⟨_, rfl⟩
    rw [hxx] at hdr
    have hsx := hs0 x (List.mem_of_mem_drop (by rw [hdr]; exact List.mem_cons_self))
    rw [hdr, List.any_cons]
    cases hm : markB x.f0 with
    | true =>
      rw [mailcoachref22_fields.l0, if_pos (by omega), if_pos (by omega), hxx, mark_ok, hm, Option.bind_some, if_pos rfl, if_pos (by omega)]
      have hw : wrongB l1.length x = true := by
        unfold wrongB badB
        rw [tokB_split, mark_tok x.f0 false hm]
        rfl
      rw [hw]
      rfl
    | false =>
      rw [fields_step x4 l0 l1 l2 k i x (by omega) hl0 hl1 hxx hsx hm (by omega)]
      cases wrongB l1.length x with
      | true => rfl
      | false => rw [if_neg Bool.false_ne_true]; exact hR
theorem fields_A (l0 : List S62) (l1 : List Int) (l2 : List S62) (hl0 : l0.length ≤ 1000000) (hl1 : l1.length ≤ 1000000) (hl2 : l2.length ≤ 1000000) (hs0 : ∀ x ∈ l0, x.f0.size ≤ 1000000 ∧ x.f1.size ≤ 1000000) (hs2 : ∀ x ∈ l2, x.f0.size ≤ 1000000 ∧ x.f1.size ≤ 1000000) : ∀ (d k i : Nat) (x4 : List S62), i + d = l0.length → d + 3000001 < k → x4.length = i → mailcoachref22_fields.l0 k x4 (i : Int) l0 l1 l2 = some (match leadS (l0.drop i) with | none => ([], false) | some p => restS (p.2.any (wrongB l1.length)) (l2.any tailB) (x4 ++ p.1)) := by
  intro d
  induction d with
  | zero =>
    intro k i x4 hi hk hx
    obtain ⟨k, rfl⟩ : ∃ k', k = k' + 1 := ⟨k - 1, by omega⟩
    have h := fields_l1 x4 l0 l1 l2 hl2 hs2 l2.length k 0 (by omega) (by omega)
    rw [List.drop_zero] at h
    rw [mailcoachref22_fields.l0, if_neg (by omega), List.drop_eq_nil_of_le (by omega), show (0 : Int) = ((0 : Nat) : Int) from rfl, h]
    simp [leadS, restS]
  | succ d ih =>
    intro k i x4 hi hk hx
    obtain ⟨k, rfl⟩ : ∃ k', k = k' + 1 := ⟨k - 1, by omega⟩
    have hdr := msg_rd_drop l0 i (by omega)
    obtain ⟨x, hxx⟩ : ∃ x, rd_T62 l0 (i : Int) = x := ⟨_, rfl⟩
    rw [hxx] at hdr
    have hsx := hs0 x (List.mem_of_mem_drop (by rw [hdr]; exact List.mem_cons_self))
    rw [hdr, leadS]
    cases hm : markB x.f0 with
    | true =>
      rw [mailcoachref22_fields.l0, if_pos (by omega), if_pos (by omega), hxx, mark_ok, hm, Option.bind_some, if_pos rfl, if_neg (by omega), value_ok _ x.f1 k (by omega) (by omega), Option.bind_some, if_pos rfl]
      cases valB ⟨#[]⟩ x.f1 with
      | false => rfl
      | true =>
        have hR := ih k (i + 1) (x4 ++ [x]) (by omega) (by omega) (by rw [List.length_append, hx]; rfl)
        rw [Int.natCast_add] at hR
        rw [if_pos rfl, if_pos (by omega), if_pos rfl, w64 ((i : Int) + 1) (by omega) (by omega)]
        refine Eq.trans hR ?_
        cases leadS (l0.drop (i + 1)) with
        | none => rfl
        | some p => simp [List.append_assoc]
    | false =>
      rw [if_neg Bool.false_ne_true, fields_step x4 l0 l1 l2 k i x (by omega) hl0 hl1 hxx hsx hm (by omega)]
      have hR := fields_B x4 l0 l1 l2 hl0 hl1 hl2 hs0 hs2 d k (i + 1) (by omega) (by omega) (by omega)
      rw [Int.natCast_add] at hR
      dsimp only
      rw [List.any_cons, List.append_nil]
      cases wrongB l1.length x with
      | true => rfl
      | false => rw [if_neg Bool.false_ne_true]; exact hR
theorem fields_ok (l0 : List S62) (l1 : List Int) (l2 : List S62) (k : Nat) (hl0 : l0.length ≤ 1000000) (hl1 : l1.length ≤ 1000000) (hl2 : l2.length ≤ 1000000) (hs0 : ∀ x ∈ l0, x.f0.size ≤ 1000000 ∧ x.f1.size ≤ 1000000) (hs2 : ∀ x ∈ l2, x.f0.size ≤ 1000000 ∧ x.f1.size ≤ 1000000) (hk : 5000000 < k) : mailcoachref22_fields.f k l0 l1 l2 = some (unM (marksS l0 l1.length l2)) := by
  have h := fields_A l0 l1 l2 hl0 hl1 hl2 hs0 hs2 l0.length k 0 [] (by omega) (by omega) rfl
  rw [List.drop_zero] at h
  unfold mailcoachref22_fields.f marksS
  rw [show (0 : Int) = ((0 : Nat) : Int) from rfl, h]
  cases leadS l0 with
  | none => rfl
  | some p =>
    rw [Option.bind_some]
    unfold restS
    rw [show (fun x : S62 => badB x || x.f0.toList == msg_clen) = tailB from rfl]
    simp only [List.nil_append]
    cases (p.2.any (wrongB l1.length) || l2.any tailB) <;> rfl
end Go.Proofs.YtcgbpallpnaclaaGreatDoor.T
