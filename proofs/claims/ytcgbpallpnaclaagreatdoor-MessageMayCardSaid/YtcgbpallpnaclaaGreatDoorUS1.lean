/- A part of the walk of the laws of layer 22 (message): contracts of functions of the program, each walked once. -/
import Derived.Test.YtcgbpallpnaclaaGreatDoorUFP
import Derived.Test.YtcgbpallpnaclaaGreatDoorPMWx9
import Derived.Test.YtcgbpallpnaclaaGreatDoorPMWx10
import Derived.Test.YtcgbpallpnaclaaGreatDoorPMWx11
import Derived.RangeFuncNested
import Derived.RangeFuncBound
import Derived.RangeFuncCalls
import Derived.RangeFuncLeaves
import Derived.RangeFuncBox
import Derived.OwnWalkIn
import Derived.TacticsInMore
import Derived.LoopNIn
import Derived.LoopIn
import Derived.Deep.DeepMust
import Derived.LoopN
import Derived.Laws.BitsAllLaws
import Derived.Maps.OwnIn
import Derived.Maps.Own
import Derived.Maps.OwnSet
import Derived.Maps.OwnOps
import Derived.Shelf.Abstract
import Derived.Sort.CutIn
import Derived.Shelf.RegionOpen
import Derived.StillTailTactics
import Derived.Outline
import Derived.Deep.RegionHeld3
import Derived.Laws.StructEq
import Derived.Laws.RangeAny
import Derived.Laws.EntriesVeiled
import Derived.WalkSpells
import Derived.Lib.SlBytesConst
import Derived.Deep.RegionLaw
import Derived.Deep.RegionWith
import Derived.ArgAppend
import Derived.Shelf.Strings.SlTrimAscii
import Derived.Shelf.Strings.IndexAnyAll
import Derived.Test.YtcgbpallpnaclaaGreatDoorSh
import Derived.Test.YtcgbpallpnaclaaGreatDoorWEqStruct
namespace Go.Proofs.YtcgbpallpnaclaaGreatDoor.T
open Go.RowKit Go.Proofs.YtcgbpallpnaclaaGreatDoorW.PrintWords Go.Proofs.YtcgbpallpnaclaaGreatDoorW.PrintLast Go.Proofs.YtcgbpallpnaclaaGreatDoorW.PrintMore
open Go.Proofs.YtcgbpallpnaclaaGreatDoor.PMW
set_option linter.unusedVariables false
set_option linter.unusedSimpArgs false
def okF (l : List S62) : Prop := ∀ x ∈ l, x.f0.size ≤ 140737488351232 ∧ x.f1.size ≤ 4294967280
/-! ### what a message may be, as plain functions; what message's functions answer is that -/
def vbad (b : UInt8) : Bool := b == 0 || b == 10 || b == 13
def edgeB (l : List UInt8) : Bool := (l.head?.map (List.contains [9, 32])).getD false || (l.getLast?.map (List.contains [9, 32])).getD false
theorem my_any (cs : List UInt8) : ∀ l : List UInt8, decide (0 ≤ Lib.indexAny l cs) = l.any (fun b => cs.contains b)
  | [] => rfl
  | b :: l => by
    have ih := my_any cs l
    have hge := Lib.indexAny_ge cs l
    rw [Lib.indexAny, List.any_cons, ← ih]
    cases h : cs.contains b with
    | true => simp
    | false =>
      rw [if_neg Bool.false_ne_true, Bool.false_or]
      by_cases hm : Lib.indexAny l cs = -1
      · rw [hm]; rfl
      · rw [if_neg (by simpa using hm)]
        exact decide_eq_decide.2 (by omega)
theorem my_vbad (b : UInt8) : List.contains [0, 10, 13] b = vbad b := by
  simp [vbad, List.contains_cons, Bool.or_assoc]
  rfl
theorem dw_eq (p : UInt8 → Bool) (l : List UInt8) (h : (l.head?.map p).getD false = false) : l.dropWhile p = l := by
  cases l with
  | nil => rfl
  | cons a r =>
    have : p a = false := by simpa using h
    rw [List.dropWhile_cons_of_neg (by rw [this]; exact Bool.false_ne_true)]
theorem dw_le (p : UInt8 → Bool) : ∀ l : List UInt8, (l.dropWhile p).length ≤ l.length
  | [] => Nat.le_refl _
  | a :: r => by
    rw [List.dropWhile_cons]
    split
    · exact Nat.le_succ_of_le (dw_le p r)
    · exact Nat.le_refl _
theorem dw_lt (p : UInt8 → Bool) (l : List UInt8) (h : (l.head?.map p).getD false = true) : (l.dropWhile p).length < l.length := by
  cases l with
  | nil => simp at h
  | cons a r =>
    have : p a = true := by simpa using h
    rw [List.dropWhile_cons_of_pos this]
    exact Nat.lt_succ_of_le (dw_le p r)
theorem my_trim (l : List UInt8) : (Lib.trimS l [9, 32] == l) = !edgeB l := by
  unfold Lib.trimS Lib.trimLeftS Lib.trimRightS edgeB
  have hrev : l.reverse.head? = l.getLast? := by simp
  cases hb : (l.getLast?.map (List.contains [9, 32])).getD false with
  | true =>
    have h1 := dw_lt (fun b => List.contains [9, 32] b) l.reverse (by rw [hrev]; exact hb)
    have h2 := dw_le (fun b => List.contains [9, 32] b) (l.reverse.dropWhile (fun b => List.contains [9, 32] b)).reverse
    rw [List.length_reverse] at h1 h2
    rw [Bool.or_true, Bool.not_true]
    refine beq_eq_false_iff_ne.2 (fun e => ?_)
    have := congrArg List.length e
    omega
  | false =>
    rw [dw_eq (fun b => List.contains [9, 32] b) l.reverse (by rw [hrev]; exact hb), List.reverse_reverse, Bool.or_false]
    cases ha : (l.head?.map (List.contains [9, 32])).getD false with
    | true =>
      have h1 := dw_lt (fun b => List.contains [9, 32] b) l ha
      refine beq_eq_false_iff_ne.2 (fun e => ?_)
      have := congrArg List.length e
      omega
    | false =>
      rw [dw_eq (fun b => List.contains [9, 32] b) l ha]
      simp
def valB (a s : ByteArray) : Bool := (!(a.toList == [116, 101]) || s.toList == [116, 114, 97, 105, 108, 101, 114, 115]) && (!(s.data.toList.any vbad) && !edgeB s.data.toList)
theorem val_msg (a s : ByteArray) (h : s.size ≤ 4294967280) : message_value.f a s = some (valB a s) := by
  have hc : strings_ContainsAny.f s ⟨#[0, 10, 13]⟩ = some (s.data.toList.any vbad) := by
    unfold strings_ContainsAny.f
    rw [if_pos ⟨by decide, by kernel_rfl, h, by decide⟩]
    unfold Lib.containsAny
    rw [show (⟨#[0, 10, 13]⟩ : ByteArray).data.toList = [0, 10, 13] from rfl, my_any]
    congr 2
    funext b
    exact my_vbad b
  have ht : strings_Trim.f s ⟨#[9, 32]⟩ = some (strL (Lib.trimS s.data.toList [9, 32])) := by
    unfold strings_Trim.f
    rw [if_pos ⟨by kernel_rfl, by omega, by decide⟩]
  have he : ((strL (Lib.trimS s.data.toList [9, 32])).toList == s.toList) = !edgeB s.data.toList := by
    rw [Lib.toList_data, Lib.toList_data, strL_data]
    exact my_trim _
  unfold message_value.f valB
  rw [hc, ht]
  simp only [Option.bind_some, he]
  by_cases h1 : a.toList = [116, 101]
  · rw [if_pos h1, h1]
    by_cases h2 : s.toList = [116, 114, 97, 105, 108, 101, 114, 115]
    · rw [if_pos h2, h2]
      cases s.data.toList.any vbad <;> simp
    · rw [if_neg h2]
      have : (s.toList == [116, 114, 97, 105, 108, 101, 114, 115]) = false := beq_eq_false_iff_ne.2 h2
      rw [this]
      rfl
  · rw [if_neg h1]
    have : (a.toList == [116, 101]) = false := beq_eq_false_iff_ne.2 h1
    rw [this]
    cases s.data.toList.any vbad <;> simp
def badB (x : S62) : Bool := !(tokB x.f0 false && valB x.f0 x.f1)
theorem bad_msg (x : S62) (h : x.f1.size ≤ 4294967280) : msg_bad x = some (badB x) := by
  unfold msg_bad badB
  rw [val_msg _ _ h]
  cases tokB x.f0 false
  · rfl
  · rfl
def wrongB (n : Nat) (x : S62) : Bool := badB x || (x.f0.toList == msg_clen && x.f1.toList != (msg_itoa n).toList)
theorem wrong_msg (n : Nat) (x : S62) (h : x.f1.size ≤ 4294967280) : msg_wrong n x = some (wrongB n x) := by
  unfold msg_wrong wrongB
  rw [bad_msg x h, Option.bind_some]
  cases badB x
  · rw [if_neg Bool.false_ne_true, Bool.false_or]
    cases x.f0.toList == msg_clen
    · rfl
    · rfl
  · rfl
theorem any_msg {p : S62 → Option Bool} {q : S62 → Bool} : ∀ l : List S62, (∀ x ∈ l, p x = some (q x)) → anyO p l = some (l.any q)
  | [], _ => rfl
  | x :: r, h => by
    rw [anyO, h x List.mem_cons_self, Option.bind_some, any_msg r (fun y hy => h y (List.mem_cons_of_mem _ hy)), List.any_cons]
    cases q x
    · rfl
    · rfl
/-- The leading marks, and what stands behind them; none: a mark's value may not be. -/
def leadS : List S62 → Option (List S62 × List S62)
  | [] => some ([], [])
  | x :: r => if markB x.f0 = true then (if valB ⟨#[]⟩ x.f1 = true then (leadS r).map (fun p => (x :: p.1, p.2)) else none) else some ([], x :: r)
theorem lead_msg : ∀ (l : List S62) (n : Nat), okF l → msg_lead l n = some ((leadS l).map (fun p => n + p.1.length))
  | [], n, _ => rfl
  | x :: r, n, h => by
    rw [msg_lead, leadS]
    by_cases hm : markB x.f0 = true
    · rw [if_pos hm, if_pos hm, val_msg _ _ (h x List.mem_cons_self).2, Option.bind_some]
      by_cases hv : valB ⟨#[]⟩ x.f1 = true
      · rw [if_pos hv, if_pos hv, lead_msg r (n + 1) (fun y hy => h y (List.mem_cons_of_mem _ hy))]
        cases leadS r with
        | none => rfl
        | some p => simp; omega
      · rw [if_neg hv, if_neg hv]
        rfl
    · rw [if_neg hm, if_neg hm]
      rfl
theorem leadS_split : ∀ (l : List S62) (p : List S62 × List S62), leadS l = some p → l = p.1 ++ p.2
  | [], p, h => by
    obtain rfl := Option.some.inj h
    rfl
  | x :: r, p, h => by
    rw [leadS] at h
    split at h
    · split at h
      · obtain ⟨q, hq, rfl⟩ := Option.map_eq_some_iff.1 h
        rw [leadS_split r q hq]
        simp [← leadS_split r q hq]
      · cases h
    · obtain rfl := Option.some.inj h
      rfl
def marksS (l0 : List S62) (n1 : Nat) (l2 : List S62) : Option (List S62) :=
  (leadS l0).bind fun p => if (p.2.any (wrongB n1) || l2.any (fun x => badB x || x.f0.toList == msg_clen)) = true then none else some p.1
def unM (o : Option (List S62)) : List S62 × Bool := match o with | none => ([], false) | some l => (l, true)
theorem or_any (l : List S62) (p q : S62 → Bool) : l.any (fun x => p x || q x) = (l.any p || l.any q) := by
  induction l with
  | nil => rfl
  | cons x r ih =>
    rw [List.any_cons, List.any_cons, List.any_cons, ih]
    cases p x <;> cases q x <;> cases r.any p <;> cases r.any q <;> rfl
theorem marks_msg (l0 : List S62) (l1 : List Int) (l2 : List S62) (h0 : okF l0) (h2 : okF l2) : message_marks.f l0 l1 l2 = some (unM (marksS l0 l1.length l2)) := by
  unfold message_marks.f marksS
  rw [lead_msg l0 0 h0, Option.bind_some]
  cases hl : leadS l0 with
  | none => rfl
  | some p =>
    have hs := leadS_split l0 p hl
    have hd : l0.drop (0 + p.1.length) = p.2 := by rw [hs, Nat.zero_add, List.drop_left]
    have ht : l0.take (0 + p.1.length) = p.1 := by rw [hs, Nat.zero_add, List.take_left]
    rw [Option.map_some]
    dsimp only
    rw [hd, ht, any_msg (q := wrongB l1.length) p.2 (fun x hx => wrong_msg _ x (h0 x (by rw [hs]; exact List.mem_append_right _ hx)).2), any_msg (q := badB) l2 (fun x hx => bad_msg x (h2 x hx).2), any_msg (p := fun x => some (msg_longP x)) (q := fun x => x.f0.toList == msg_clen) l2 (fun x _ => rfl)]
    rw [Option.bind_some, or_any]
    simp only [Option.bind_some]
    cases p.2.any (wrongB l1.length) <;> cases l2.any badB <;> cases l2.any (fun x => x.f0.toList == msg_clen) <;> rfl
/-! ### the document's functions of texts: what they answer -/
theorem bt_drop (s : ByteArray) (i : Nat) (h : i < s.size) : ∃ b, s.data.toList.drop i = b :: s.data.toList.drop (i + 1) ∧ bt s (i : Int) = (b.toNat : Int) := by
  have hl : i < s.data.toList.length := by rw [← Lib.size_eq]; exact h
  refine ⟨s.data.toList[i], List.drop_eq_getElem_cons hl, ?_⟩
  have := bt_at s (i : Int) (by simpa using h)
  rw [← this]
  simp
  rfl
theorem in_go (c : Int) (s : ByteArray) (hs : s.size ≤ 4611686018427387904) : ∀ (d k i : Nat), i + d = s.size → d < k → mailcoachref22_in.l0 k c s (i : Int) = some ((s.data.toList.drop i).any (fun b => decide ((b.toNat : Int) = c))) := by
  intro d
  induction d with
  | zero =>
    intro k i hi hk
    obtain ⟨k, rfl⟩ : ∃ k', k = k' + 1 := ⟨k - 1, by omega⟩
    rw [mailcoachref22_in.l0, if_neg (by omega), List.drop_eq_nil_of_le (by rw [← Lib.size_eq]; omega)]
    rfl
  | succ d ih =>
    intro k i hi hk
    obtain ⟨k, rfl⟩ : ∃ k', k = k' + 1 := ⟨k - 1, by omega⟩
    obtain ⟨b, hb, hbt⟩ := bt_drop s i (by omega)
    have := ih k (i + 1) (by omega) (by omega)
    rw [Int.natCast_add] at this
    rw [mailcoachref22_in.l0, if_pos (by omega), if_pos (by omega), hbt, w64 ((i : Int) + 1) (by omega) (by omega), hb, List.any_cons]
    by_cases h : (b.toNat : Int) = c
    · rw [if_pos h, decide_eq_true h]; rfl
    · rw [if_neg h, decide_eq_false h, Bool.false_or]
      exact this
theorem in_ok (b : UInt8) (s : ByteArray) (k : Nat) (hs : s.size ≤ 1000) (hk : 1000 < k) : mailcoachref22_in.f k (b.toNat : Int) s = some (s.data.toList.contains b) := by
  have h := in_go (b.toNat : Int) s (by omega) s.size k 0 (by omega) (by omega)
  unfold mailcoachref22_in.f
  rw [show (0 : Int) = ((0 : Nat) : Int) from rfl, h, List.drop_zero]
  congr 1
  rw [Bool.eq_iff_iff, List.any_eq_true, List.contains_iff_mem]
  constructor
  · rintro ⟨x, hx, hq⟩
    have := of_decide_eq_true hq
    have e : x = b := by
      apply UInt8.toNat_inj.1
      omega
    rwa [e] at hx
  · intro hx
    exact ⟨b, hx, decide_eq_true rfl⟩
def tokcR (g : Bool) (b : UInt8) : Bool := tokL g b.toNat || (List.contains [33, 35, 36, 37, 38, 39, 42, 43, 45, 46, 94, 95, 124, 126] b || b.toNat == 96)
theorem tokcR_eq (g : Bool) (b : UInt8) : tokcR g b = tokc g b := by
  have h : ∀ (g : Bool) (i : Fin 256), tokcR g (UInt8.ofNat i.val) = tokc g (UInt8.ofNat i.val) := by decide +kernel
  have := h g ⟨b.toNat, b.toNat_lt⟩
  simpa using this
theorem nest2 {α : Type} {A B : Prop} [Decidable A] [Decidable B] (R X : α) : (if A then (if B then R else X) else X) = if A ∧ B then R else X := by
  by_cases h : A <;> by_cases h2 : B <;> simp [h, h2]
theorem token_go (s : ByteArray) (g : Bool) (hs : s.size ≤ 4611686018427387904) : ∀ (d k i : Nat), i + d = s.size → d + 1000 < k → mailcoachref22_token.l0 k s g (i : Int) = some ((s.data.toList.drop i).all (tokcR g) && s.toList != []) := by
  intro d
  induction d with
  | zero =>
    intro k i hi hk
    obtain ⟨k, rfl⟩ : ∃ k', k = k' + 1 := ⟨k - 1, by omega⟩
    rw [mailcoachref22_token.l0, if_neg (by omega), List.drop_eq_nil_of_le (by rw [← Lib.size_eq]; omega)]
    rfl
  | succ d ih =>
    intro k i hi hk
    obtain ⟨k, rfl⟩ : ∃ k', k = k' + 1 := ⟨k - 1, by omega⟩
    obtain ⟨b, hb, hbt⟩ := bt_drop s i (by omega)
    have := ih k (i + 1) (by omega) (by omega)
    rw [Int.natCast_add] at this
    have hin := in_ok b ⟨#[33, 35, 36, 37, 38, 39, 42, 43, 45, 46, 94, 95, 124, 126]⟩ k (by decide) (by omega)
    rw [show (⟨#[33, 35, 36, 37, 38, 39, 42, 43, 45, 46, 94, 95, 124, 126]⟩ : ByteArray).data.toList = [33, 35, 36, 37, 38, 39, 42, 43, 45, 46, 94, 95, 124, 126] from rfl] at hin
    rw [hb, List.all_cons]
    have hl : mailcoachref22_token.l0 (k + 1) s g (i : Int) = if tokcR g b = true then mailcoachref22_token.l0 k s g ((i : Int) + 1) else some false := by
      rw [mailcoachref22_token.l0, if_pos (by omega), if_pos (by omega), hbt, w64 ((i : Int) + 1) (by omega) (by omega), hin]
      generalize mailcoachref22_token.l0 k s g ((i : Int) + 1) = R
      unfold tokcR tokL
      generalize List.contains [33, 35, 36, 37, 38, 39, 42, 43, 45, 46, 94, 95, 124, 126] b = t
      generalize b.toNat = n
      simp only [Option.bind_some, ge_iff_le]
      simp only [nest2]
      have e1 : ((97 : Int) ≤ (n : Int) ∧ (n : Int) ≤ 122) ↔ (97 ≤ n ∧ n ≤ 122) := by omega
      have e2 : ((48 : Int) ≤ (n : Int) ∧ (n : Int) ≤ 57) ↔ (48 ≤ n ∧ n ≤ 57) := by omega
      have e3 : ((65 : Int) ≤ (n : Int) ∧ (n : Int) ≤ 90) ↔ (65 ≤ n ∧ n ≤ 90) := by omega
      have e4 : ((n : Int) = 96) ↔ (n = 96) := by omega
      simp only [e1, e2, e3, e4, Bool.or_eq_true, Bool.and_eq_true, decide_eq_true_eq, beq_iff_eq]
      by_cases q1 : 97 ≤ n ∧ n ≤ 122
      · rw [if_pos q1, if_pos (Or.inl (Or.inl (Or.inl q1)))]
      · rw [if_neg q1]
        by_cases q2 : 48 ≤ n ∧ n ≤ 57
        · rw [if_pos q2, if_pos (Or.inl (Or.inl (Or.inr q2)))]
        · rw [if_neg q2]
          by_cases q3 : g = true ∧ 65 ≤ n ∧ n ≤ 90
          · rw [if_pos q3, if_pos (Or.inl (Or.inr q3))]
          · rw [if_neg q3]
            by_cases q4 : t = true
            · rw [if_pos q4, if_pos (Or.inr (Or.inl q4))]
            · rw [if_neg q4]
              by_cases q5 : n = 96
              · rw [if_pos q5, if_pos (Or.inr (Or.inr q5))]
              · rw [if_neg q5, if_neg (by rintro (((h | h) | h) | (h | h)); exact q1 h; exact q2 h; exact q3 h; exact q4 h; exact q5 h)]
    rw [hl]
    cases tokcR g b with
    | true => rw [if_pos rfl, Bool.true_and]; exact this
    | false => rw [if_neg Bool.false_ne_true, Bool.false_and, Bool.false_and]
theorem one_go (s : ByteArray) (l : List ByteArray) (hl : l.length ≤ 1000) : ∀ (d k i : Nat), i + d = l.length → d < k → mailcoachref22_one.l0 k s l (i : Int) = some ((l.drop i).any (fun n => decide (s = n))) := by
  intro d
  induction d with
  | zero =>
    intro k i hi hk
    obtain ⟨k, rfl⟩ : ∃ k', k = k' + 1 := ⟨k - 1, by omega⟩
    rw [mailcoachref22_one.l0, if_neg (by omega), List.drop_eq_nil_of_le (by omega)]
    rfl
  | succ d ih =>
    intro k i hi hk
    obtain ⟨k, rfl⟩ : ∃ k', k = k' + 1 := ⟨k - 1, by omega⟩
    have := ih k (i + 1) (by omega) (by omega)
    rw [Int.natCast_add] at this
    have hr : rdOf ByteArray.empty l (i : Int) = l[i]'(by omega) := by simp [rdOf, List.getD_eq_getElem?_getD, List.getElem?_eq_getElem (show i < l.length by omega)]
    rw [mailcoachref22_one.l0, if_pos (by omega), if_pos (by omega), hr, w64 ((i : Int) + 1) (by omega) (by omega), List.drop_eq_getElem_cons (show i < l.length by omega), List.any_cons]
    by_cases h : (l[i]'(by omega)).toList = s.toList
    · rw [if_pos h, decide_eq_true ((tok_eq _ _).1 h).symm]; rfl
    · rw [if_neg h, decide_eq_false (fun e => h (by rw [e])), Bool.false_or]
      exact this
theorem forbidden_ok (s : ByteArray) (k : Nat) (hk : 1000 < k) : mailcoachref22_forbidden.f k s = some (tok_has tok_names s) := by
  unfold mailcoachref22_forbidden.f mailcoachref22_one.f
  have h := one_go s tok_names (by decide) 5 k 0 (by decide) (by omega)
  rw [List.drop_zero] at h
  exact (congrArg (fun o => o.bind fun t => some t) h).trans rfl
theorem token_ok (s : ByteArray) (g : Bool) (k : Nat) (hs : s.size ≤ 4611686018427387904) (hk : s.size + 1000 < k) : mailcoachref22_token.f k s g = some (s.data.toList.all (tokc g) && s.toList != []) := by
  have h := token_go s g hs s.size k 0 (by omega) (by omega)
  rw [List.drop_zero] at h
  unfold mailcoachref22_token.f
  rw [show (0 : Int) = ((0 : Nat) : Int) from rfl, h]
  rw [show tokcR g = tokc g from funext (tokcR_eq g)]
/-- A name that may be: its bytes, and that it is none of those that may not be. -/
theorem tokB_split (s : ByteArray) (g : Bool) : tokB s g = ((s.data.toList.all (tokc g) && s.toList != []) && !tok_has tok_names s) := by
  unfold tokB
  rw [← Bool.and_assoc]
  congr 2
  rw [Lib.toList_data]
  have := Lib.size_eq s
  cases h : s.data.toList with
  | nil => rw [h] at this; simp [this]
  | cons a r => rw [h] at this; simp [this]
theorem mark_ok (s : ByteArray) : mailcoachref22_mark.f s = some (markB s) := by
  unfold mailcoachref22_mark.f markB
  rw [Lib.toList_data]
  cases h : s.data.toList with
  | nil => rw [if_pos rfl]
  | cons b r =>
    have hsz : 0 < s.size := by rw [Lib.size_eq, h]; simp
    rw [if_neg (by simp), if_pos (by omega)]
    obtain ⟨b', hb', hbt⟩ := bt_drop s 0 hsz
    rw [List.drop_zero, h] at hb'
    obtain ⟨rfl, _⟩ := List.cons.inj hb'
    rw [show bt s 0 = bt s ((0 : Nat) : Int) from rfl, hbt]
    congr 1
    rw [Bool.eq_iff_iff]
    simp only [beq_iff_eq]
    constructor
    · intro h
      apply UInt8.toNat_inj.1
      have : (58 : UInt8).toNat = 58 := rfl
      omega
    · rintro rfl
      rfl
theorem value_go (s : ByteArray) (hs : s.size ≤ 4611686018427387904) : ∀ (d k i : Nat), i + d = s.size → d + 1001 < k → mailcoachref22_value.l0 k s (i : Int) = some (!((s.data.toList.drop i).any vbad) && !edgeB s.data.toList) := by
  intro d
  induction d with
  | zero =>
    intro k i hi hk
    obtain ⟨k, rfl⟩ : ∃ k', k = k' + 1 := ⟨k - 1, by omega⟩
    rw [mailcoachref22_value.l0, if_neg (by omega), List.drop_eq_nil_of_le (by rw [← Lib.size_eq]; omega)]
    rw [Lib.toList_data]
    cases h : s.data.toList with
    | nil => rw [if_pos rfl]; rfl
    | cons b r =>
      have hsz : 0 < s.size := by rw [Lib.size_eq, h]; simp
      rw [if_neg (by simp), if_pos (by omega)]
      obtain ⟨b', hb', hbt⟩ := bt_drop s 0 hsz
      rw [List.drop_zero, h] at hb'
      obtain ⟨rfl, _⟩ := List.cons.inj hb'
      obtain ⟨c, hc, hct⟩ := bt_drop s (s.size - 1) (by omega)
      have hlast : (b :: r).getLast? = some c := by
        have h1 : (s.data.toList.drop (s.size - 1)) = [c] := by rw [hc, List.drop_eq_nil_of_le (by rw [← Lib.size_eq]; omega)]
        rw [← h]
        have h2 : s.data.toList.getLast? = (s.data.toList.drop (s.size - 1)).getLast? := by
          rw [List.getLast?_drop]
          rw [if_neg (by rw [← Lib.size_eq]; omega)]
        rw [h2, h1]
        rfl
      have i0 := in_ok b ⟨#[9, 32]⟩ k (by decide) (by omega)
      have i1 := in_ok c ⟨#[9, 32]⟩ k (by decide) (by omega)
      rw [show (⟨#[9, 32]⟩ : ByteArray).data.toList = [9, 32] from rfl] at i0 i1
      rw [show bt s 0 = bt s ((0 : Nat) : Int) from rfl, hbt, i0, Option.bind_some]
      have hw : wrap64 ((s.size : Int) - 1) = ((s.size - 1 : Nat) : Int) := by rw [w64 _ (by omega) (by omega)]; omega
      have he : edgeB (b :: r) = (List.contains [9, 32] b || List.contains [9, 32] c) := by
        unfold edgeB
        rw [hlast]
        rfl
      rw [he, hw, hct, i1]
      cases List.contains [9, 32] b with
      | true => rfl
      | false =>
        rw [if_neg Bool.false_ne_true, if_pos (by omega), if_pos (by omega), Option.bind_some]
        rfl
  | succ d ih =>
    intro k i hi hk
    obtain ⟨k, rfl⟩ : ∃ k', k = k' + 1 := ⟨k - 1, by omega⟩
    obtain ⟨b, hb, hbt⟩ := bt_drop s i (by omega)
    have := ih k (i + 1) (by omega) (by omega)
    rw [Int.natCast_add] at this
    rw [mailcoachref22_value.l0, if_pos (by omega), if_pos (by omega), hbt, w64 ((i : Int) + 1) (by omega) (by omega), hb, List.any_cons]
    have hv : vbad b = (b.toNat == 0 || b.toNat == 10 || b.toNat == 13) := by
      have h : ∀ i : Fin 256, vbad (UInt8.ofNat i.val) = ((UInt8.ofNat i.val).toNat == 0 || (UInt8.ofNat i.val).toNat == 10 || (UInt8.ofNat i.val).toNat == 13) := by decide +kernel
      have := h ⟨b.toNat, b.toNat_lt⟩
      simpa using this
    rw [hv]
    by_cases h0 : b.toNat = 0
    · rw [if_pos (by omega), h0]; rfl
    · rw [if_neg (by omega)]
      by_cases h1 : b.toNat = 10
      · rw [if_pos (by omega), h1]; rfl
      · rw [if_neg (by omega)]
        by_cases h2 : b.toNat = 13
        · rw [if_pos (by omega), h2]; rfl
        · rw [if_neg (by omega), beq_false_of_ne h0, beq_false_of_ne h1, beq_false_of_ne h2]
          exact this
theorem value_ok (a s : ByteArray) (k : Nat) (hs : s.size ≤ 4611686018427387904) (hk : s.size + 1002 < k) : mailcoachref22_value.f k a s = some (valB a s) := by
  obtain ⟨k, rfl⟩ : ∃ k', k = k' + 1 := ⟨k - 1, by omega⟩
  have h := value_go s hs s.size k 0 (by omega) (by omega)
  rw [List.drop_zero] at h
  unfold mailcoachref22_value.f valB
  by_cases h1 : a.toList = [116, 101]
  · rw [if_pos h1, h1, mailcoachref22_value.j0]
    by_cases h2 : s.toList = [116, 114, 97, 105, 108, 101, 114, 115]
    · rw [h2, if_neg (by simp), show (0 : Int) = ((0 : Nat) : Int) from rfl, h]
      simp
    · rw [if_pos (by simpa using h2)]
      have : (s.toList == [116, 114, 97, 105, 108, 101, 114, 115]) = false := beq_eq_false_iff_ne.2 h2
      rw [this]
      rfl
  · rw [if_neg h1, mailcoachref22_value.j0, if_neg (by simp), show (0 : Int) = ((0 : Nat) : Int) from rfl, h]
    have : (a.toList == [116, 101]) = false := beq_eq_false_iff_ne.2 h1
    rw [this]
    simp
end Go.Proofs.YtcgbpallpnaclaaGreatDoor.T
