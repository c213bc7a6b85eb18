/- A part of the walk of the laws of layer 22 (message): contracts of functions of the program, each walked once. -/
import Derived.Test.YtcgbpallpnaclaaGreatDoorUT2
import Derived.Test.YtcgbpallpnaclaaGreatDoorPMWx13
import Derived.Test.YtcgbpallpnaclaaGreatDoorPMWx15
import Derived.Lib.AtoiAllCases
import Derived.Lib.ItoaLen
import Derived.RangeFuncNested
import Derived.RangeFuncBound
import Derived.RangeFuncCalls
import Derived.RangeFuncLeaves
import Derived.RangeFuncBox
import Derived.OwnWalkIn
import Derived.TacticsInMore
import Derived.LoopNIn
import Derived.LoopIn
import Derived.Deep.DeepMust
import Derived.LoopN
import Derived.Laws.BitsAllLaws
import Derived.Maps.OwnIn
import Derived.Maps.Own
import Derived.Maps.OwnSet
import Derived.Maps.OwnOps
import Derived.Shelf.Abstract
import Derived.Sort.CutIn
import Derived.Shelf.RegionOpen
import Derived.StillTailTactics
import Derived.Outline
import Derived.Deep.RegionHeld3
import Derived.Laws.StructEq
import Derived.Laws.RangeAny
import Derived.Laws.EntriesVeiled
import Derived.WalkSpells
import Derived.Lib.SlBytesConst
import Derived.Deep.RegionLaw
import Derived.Deep.RegionWith
import Derived.ArgAppend
import Derived.Shelf.Strings.SlTrimAscii
import Derived.Shelf.Strings.IndexAnyAll
import Derived.Test.YtcgbpallpnaclaaGreatDoorSh
import Derived.Test.YtcgbpallpnaclaaGreatDoorWEqStruct
namespace Go.Proofs.YtcgbpallpnaclaaGreatDoor.T
open Go.RowKit Go.Proofs.YtcgbpallpnaclaaGreatDoorW.PrintWords Go.Proofs.YtcgbpallpnaclaaGreatDoorW.PrintLast Go.Proofs.YtcgbpallpnaclaaGreatDoorW.PrintMore
open Go.Proofs.YtcgbpallpnaclaaGreatDoor.PMW
set_option linter.unusedVariables false
set_option linter.unusedSimpArgs false
/-! ### strconv.Atoi of strconv.Itoa -/
theorem ma_parse : ∀ (n u : Nat), u ≤ n → u < 18446744073709551616 → ∀ t, Lib.parseUint10 0 (Lib.decDigits u ++ t) = Lib.parseUint10 u t := by
  intro n
  induction n with
  | zero =>
    intro u hu _ t
    obtain rfl : u = 0 := by omega
    rw [Lib.decDigits, dif_pos (by omega)]
    rfl
  | succ n ih =>
    intro u hu hb t
    rw [Lib.decDigits]
    by_cases h : u < 10
    · rw [dif_pos h, List.singleton_append, Lib.parseUint10]
      have e : (UInt8.ofNat (48 + u)).toNat = 48 + u := by simp; omega
      rw [e, if_pos (by omega), if_neg (by omega), if_neg (by omega)]
      congr 1
      omega
    · rw [dif_neg h, List.append_assoc, ih (u / 10) (by omega) (by omega), List.singleton_append, Lib.parseUint10]
      have e : (UInt8.ofNat (48 + u % 10)).toNat = 48 + u % 10 := by simp; omega
      rw [e, if_pos (by omega), if_neg (by omega), if_neg (by omega)]
      congr 1
      omega
theorem ma_head : ∀ (n u : Nat), u ≤ n → ∃ c r, Lib.decDigits u = c :: r ∧ 48 ≤ c.toNat := by
  intro n
  induction n with
  | zero =>
    intro u hu
    obtain rfl : u = 0 := by omega
    rw [Lib.decDigits, dif_pos (by omega)]
    exact ⟨_, _, rfl, by decide⟩
  | succ n ih =>
    intro u hu
    rw [Lib.decDigits]
    by_cases h : u < 10
    · rw [dif_pos h]
      exact ⟨_, _, rfl, by simp; omega⟩
    · rw [dif_neg h]
      obtain ⟨c, r, e, hc⟩ := ih (u / 10) (by omega)
      rw [e]
      exact ⟨c, _, rfl, hc⟩
theorem ma_mag (u : Nat) (h : u < 18446744073709551616) : Lib.parseMag (Lib.decDigits u) = .ok u := by
  obtain ⟨c, r, e, _⟩ := ma_head u u (Nat.le_refl _)
  have h1 := ma_parse u u (Nat.le_refl _) h []
  rw [List.append_nil] at h1
  unfold Lib.parseMag
  rw [if_neg (by rw [e]; simp), h1]
  rfl
theorem ma_atoi (n : Int) (h0 : -9223372036854775808 ≤ n) (h1 : n ≤ 9223372036854775807) : Lib.atoiAll (Lib.itoa n) = .ok n := by
  unfold Lib.itoa
  by_cases h : n < 0
  · rw [if_pos h, Lib.atoiAll]
    have hm := ma_mag n.natAbs (by omega)
    have e : (45 : UInt8).toNat = 45 := rfl
    simp only [e]
    simp only [Nat.reduceEqDiff, or_true, if_true, hm, not_true_eq_false, false_and, if_false, true_and]
    rw [if_neg (by omega)]
    congr 1
    omega
  · rw [if_neg h]
    obtain ⟨c, r, e, hc⟩ := ma_head n.toNat n.toNat (Nat.le_refl _)
    have hm := ma_mag n.toNat (by omega)
    rw [e] at hm ⊢
    rw [Lib.atoiAll]
    have e1 : ¬ c.toNat = 45 := by omega
    have e2 : ¬ c.toNat = 43 := by omega
    simp only [e1, e2, or_self, if_false, hm, not_false_eq_true, true_and, false_and]
    rw [if_neg (by omega)]
    congr 1
    omega
/-! ### requests and responses: both say the same -/
def isM (x : S62) : Bool := (req_key x == req_m || req_key x == req_s) || req_key x == req_p
def isA (x : S62) : Bool := req_key x == req_a
def sameR (x y : S62) : Bool := req_key y == req_key x
def goR : List S62 → List S62 → Nat → Option Nat
  | _, [], n => some n
  | P, x :: r, n => if P.any (sameR x) = true then none else if isM x = true then goR (P ++ [x]) r (n + 1) else if isA x = true then goR (P ++ [x]) r n else none
def cnt4 (L : List S62) : Nat := req_cnt req_m L + req_cnt req_s L + req_cnt req_p L + req_cnt req_a L
theorem cnt_cons (key : List UInt8) (x : S62) (r : List S62) : req_cnt key (x :: r) = req_cnt key r + (if req_key x = key then 1 else 0) := by
  unfold req_cnt
  rw [List.map_cons, List.count_cons]
  congr 1
  by_cases h : req_key x = key
  · simp [h]
  · simp [h]
theorem cnt_app (key : List UInt8) (P r : List S62) : req_cnt key (P ++ r) = req_cnt key P + req_cnt key r := by
  unfold req_cnt
  rw [List.map_append, List.count_append]
theorem four (x : S62) : (if req_key x = req_m then 1 else 0) + (if req_key x = req_s then 1 else 0) + (if req_key x = req_p then 1 else 0) = (if isM x = true then 1 else 0) ∧ (if req_key x = req_a then 1 else 0) = (if isA x = true then 1 else 0) ∧ ((if isM x = true then 1 else 0) + (if isA x = true then 1 else 0) ≤ 1) := by
  have d1 : req_m ≠ req_s := by decide
  have d2 : req_m ≠ req_p := by decide
  have d3 : req_s ≠ req_p := by decide
  have d4 : req_m ≠ req_a := by decide
  have d5 : req_s ≠ req_a := by decide
  have d6 : req_p ≠ req_a := by decide
  unfold isM isA
  generalize req_key x = q
  by_cases h1 : q = req_m
  · subst h1
    simp [d1, d2, d4]
  · by_cases h2 : q = req_s
    · subst h2
      simp [h1, d3, d5]
    · by_cases h3 : q = req_p
      · subst h3
        simp [h1, h2, d6]
      · by_cases h4 : q = req_a
        · subst h4
          simp [h1, h2, h3]
        · simp [h1, h2, h3, h4]
theorem cnt4_cons (x : S62) (r : List S62) : cnt4 (x :: r) = cnt4 r + (if isM x = true then 1 else 0) + (if isA x = true then 1 else 0) := by
  obtain ⟨h1, h2, _⟩ := four x
  unfold cnt4
  rw [cnt_cons, cnt_cons, cnt_cons, cnt_cons]
  omega
theorem cnt4_le : ∀ L : List S62, cnt4 L ≤ L.length
  | [] => Nat.le_refl _
  | x :: r => by
    have := cnt4_le r
    obtain ⟨_, _, h3⟩ := four x
    rw [cnt4_cons, List.length_cons]
    omega
theorem cnt4_lt : ∀ (L : List S62) (x : S62), x ∈ L → isM x = false → isA x = false → cnt4 L < L.length
  | [], x, hx, _, _ => by cases hx
  | y :: r, x, hx, h1, h2 => by
    rw [cnt4_cons, List.length_cons]
    obtain ⟨_, _, h3⟩ := four y
    rcases List.mem_cons.1 hx with rfl | hx
    · have := cnt4_le r
      rw [h1, h2]
      simp
      omega
    · have := cnt4_lt r x hx h1 h2
      omega
theorem any_same (P : List S62) (x : S62) : P.any (sameR x) = decide (1 ≤ req_cnt (req_key x) P) := by
  induction P with
  | nil => rfl
  | cons y r ih =>
    rw [List.any_cons, ih, cnt_cons]
    unfold sameR
    by_cases h : req_key y = req_key x
    · rw [if_pos h, h]; simp
    · rw [if_neg h, show (req_key y == req_key x) = false from beq_eq_false_iff_ne.2 h]; simp
theorem goR_some : ∀ (r P : List S62) (n q : Nat), goR P r n = some q → (∀ key, req_cnt key P ≤ 1) → q = n + (req_cnt req_m r + req_cnt req_s r + req_cnt req_p r) ∧ r.length = cnt4 r ∧ ∀ key, req_cnt key (P ++ r) ≤ 1
  | [], P, n, q, h, hP => by
    obtain rfl := Option.some.inj h
    exact ⟨rfl, rfl, fun key => by rw [List.append_nil]; exact hP key⟩
  | x :: r, P, n, q, h, hP => by
    rw [goR] at h
    obtain ⟨f1, f2, f3⟩ := four x
    by_cases hs : P.any (sameR x) = true
    · rw [if_pos hs] at h; cases h
    · rw [if_neg hs] at h
      have h0 : req_cnt (req_key x) P = 0 := by
        rw [any_same] at hs
        have := of_decide_eq_false (Bool.eq_false_iff.2 hs)
        omega
      have hP' : ∀ key, req_cnt key (P ++ [x]) ≤ 1 := fun key => by
        rw [cnt_app, cnt_cons]
        have := hP key
        have e : req_cnt key ([] : List S62) = 0 := rfl
        by_cases hk : req_key x = key
        · subst hk
          rw [if_pos rfl, h0, e]
          omega
        · rw [if_neg hk, e]; omega
      have hcat : ∀ key, req_cnt key (P ++ [x] ++ r) = req_cnt key (P ++ x :: r) := fun key => by rw [List.append_assoc]; rfl
      by_cases hM : isM x = true
      · rw [if_pos hM] at h
        obtain ⟨a1, a2, a3⟩ := goR_some r (P ++ [x]) (n + 1) q h hP'
        rw [hM] at f1 f3
        refine ⟨?_, ?_, fun key => by rw [← hcat]; exact a3 key⟩
        · rw [cnt_cons, cnt_cons, cnt_cons, a1]; simp at f1; omega
        · rw [cnt4_cons, List.length_cons, a2, hM]
          rw [if_pos rfl] at f3 ⊢
          omega
      · rw [if_neg hM] at h
        by_cases hA : isA x = true
        · rw [if_pos hA] at h
          obtain ⟨a1, a2, a3⟩ := goR_some r (P ++ [x]) n q h hP'
          rw [if_neg hM] at f1
          refine ⟨?_, ?_, fun key => by rw [← hcat]; exact a3 key⟩
          · rw [cnt_cons, cnt_cons, cnt_cons, a1]; omega
          · rw [cnt4_cons, List.length_cons, a2, if_neg hM, hA]; rfl
        · rw [if_neg hA] at h; cases h
theorem cnt_pos {key : List UInt8} : ∀ {L : List S62}, 1 ≤ req_cnt key L → ∃ x ∈ L, req_key x = key
  | [], h => by simp [req_cnt] at h
  | x :: r, h => by
    rw [cnt_cons] at h
    by_cases hk : req_key x = key
    · exact ⟨x, List.mem_cons_self, hk⟩
    · rw [if_neg hk] at h
      obtain ⟨y, hy, e⟩ := cnt_pos (L := r) (by omega)
      exact ⟨y, List.mem_cons_of_mem _ hy, e⟩
theorem goR_none : ∀ (r P : List S62) (n : Nat), goR P r n = none → (∃ key, 2 ≤ req_cnt key (P ++ r)) ∨ cnt4 (P ++ r) < (P ++ r).length
  | [], P, n, h => by cases h
  | x :: r, P, n, h => by
    rw [goR] at h
    have hcat : P ++ [x] ++ r = P ++ x :: r := by rw [List.append_assoc]; rfl
    by_cases hs : P.any (sameR x) = true
    · rw [any_same] at hs
      have := of_decide_eq_true hs
      refine .inl ⟨req_key x, ?_⟩
      rw [cnt_app, cnt_cons, if_pos rfl]
      omega
    · rw [if_neg hs] at h
      by_cases hM : isM x = true
      · rw [if_pos hM] at h
        rw [← hcat]
        exact goR_none r _ _ h
      · rw [if_neg hM] at h
        by_cases hA : isA x = true
        · rw [if_pos hA] at h
          rw [← hcat]
          exact goR_none r _ _ h
        · exact .inr (cnt4_lt _ x (List.mem_append_right _ List.mem_cons_self) (by simpa using hM) (by simpa using hA))
def okR (L : List S62) : Prop := req_cnt req_m L = 1 ∧ req_cnt req_s L = 1 ∧ req_cnt req_p L = 1 ∧ req_cnt req_a L ≤ 1 ∧ L.length = 3 + req_cnt req_a L
theorem goR_ok (L : List S62) : goR [] L 0 = some 3 ↔ okR L := by
  constructor
  · intro h
    obtain ⟨a1, a2, a3⟩ := goR_some L [] 0 3 h (fun key => by simp [req_cnt])
    have e1 := a3 req_m
    have e2 := a3 req_s
    have e3 := a3 req_p
    have e4 := a3 req_a
    rw [List.nil_append] at e1 e2 e3 e4
    unfold cnt4 at a2
    refine ⟨by omega, by omega, by omega, by omega, by omega⟩
  · rintro ⟨c1, c2, c3, c4, c5⟩
    have ht : cnt4 L = L.length := by unfold cnt4; omega
    cases h : goR [] L 0 with
    | some q =>
      obtain ⟨a1, _, _⟩ := goR_some L [] 0 q h (fun key => by simp [req_cnt])
      congr 1
      omega
    | none =>
      exfalso
      rcases goR_none L [] 0 h with ⟨key, hk⟩ | hk
      · rw [List.nil_append] at hk
        by_cases k1 : key = req_m
        · subst k1; omega
        · by_cases k2 : key = req_s
          · subst k2; omega
          · by_cases k3 : key = req_p
            · subst k3; omega
            · by_cases k4 : key = req_a
              · subst k4; omega
              · obtain ⟨x, hx, e⟩ := cnt_pos (L := L) (key := key) (by omega)
                have := cnt4_lt L x hx (by unfold isM; rw [e]; simp [k1, k2, k3]) (by unfold isA; rw [e]; simp [k4])
                omega
      · rw [List.nil_append] at hk
        omega
def reqT (L : List S62) : Int :=
  if tokB (req_get req_m L) true = false then 14 else if (req_get req_s L).toList = [] then 14 else
  if slashB (req_get req_p L) = true then 0 else if (req_get req_p L).toList ≠ [42] then 14 else if (req_get req_m L).toList ≠ [79, 80, 84, 73, 79, 78, 83] then 14 else 0
theorem req_of_ok (L : List S62) : req_of L true = if goR [] L 0 = some 3 then reqT L else 14 := by
  unfold req_of
  rw [if_neg (by simp)]
  by_cases h : okR L
  · rw [if_pos ((goR_ok L).2 h)]
    obtain ⟨c1, c2, c3, c4, c5⟩ := h
    rw [if_neg (by omega), if_neg (by omega), if_neg (by omega), if_neg (by omega), if_neg (by omega)]
    rfl
  · rw [if_neg (fun e => h ((goR_ok L).1 e))]
    by_cases c1 : req_cnt req_m L = 1
    · by_cases c2 : req_cnt req_s L = 1
      · by_cases c3 : req_cnt req_p L = 1
        · by_cases c4 : req_cnt req_a L ≤ 1
          · by_cases c5 : L.length = 3 + req_cnt req_a L
            · exact absurd ⟨c1, c2, c3, c4, c5⟩ h
            · rw [if_neg (by omega), if_neg (by omega), if_neg (by omega), if_neg (by omega), if_pos c5]
          · rw [if_neg (by omega), if_neg (by omega), if_neg (by omega), if_pos (by omega)]
        · rw [if_neg (by omega), if_neg (by omega), if_pos c3]
      · rw [if_neg (by omega), if_pos c2]
    · rw [if_pos c1]
theorem key_list (x : S62) : x.f0.toList = req_key x := Lib.toList_data _
theorem req_l1 (L : List S62) (n i : Nat) (x : S62) (hi : i < L.length) (hx : rd_T62 L (i : Int) = x) (hL : L.length ≤ 1000000) (hn : n ≤ 1000000) : ∀ (d k j : Nat), j + d = i → mailcoachref22_Request.l1 (d + (k + 2)) L (n : Int) (i : Int) (j : Int) = if ((L.take i).drop j).any (sameR x) = true then some 14 else if isM x = true then mailcoachref22_Request.l0 k L ((n : Int) + 1) ((i : Int) + 1) else if isA x = true then mailcoachref22_Request.l0 k L (n : Int) ((i : Int) + 1) else some 14 := by
  intro d
  induction d with
  | zero =>
    intro k j hj
    rw [Nat.zero_add, mailcoachref22_Request.l1, if_neg (by omega), if_pos (by omega), if_pos (by omega), List.drop_eq_nil_of_le (by rw [List.length_take]; omega), List.any_nil, if_neg Bool.false_ne_true, hx, key_list]
    have q1 : ∀ b : Bool, mailcoachref22_Request.j2 (k + 1) L (n : Int) (i : Int) x.f0 b = if b = true then mailcoachref22_Request.l0 k L ((n : Int) + 1) ((i : Int) + 1) else if isA x = true then mailcoachref22_Request.l0 k L (n : Int) ((i : Int) + 1) else some 14 := by
      intro b
      rw [mailcoachref22_Request.j2, w64 ((n : Int) + 1) (by omega) (by omega), w64 ((i : Int) + 1) (by omega) (by omega), key_list]
      unfold isA
      simp only [beq_iff_eq]
      rfl
    rw [q1, q1, q1]
    unfold isM
    rw [show ([58, 109, 101, 116, 104, 111, 100] : List UInt8) = req_m from rfl, show ([58, 115, 99, 104, 101, 109, 101] : List UInt8) = req_s from rfl, show ([58, 112, 97, 116, 104] : List UInt8) = req_p from rfl]
    by_cases h1 : req_key x = req_m
    · rw [if_pos h1, h1]; rfl
    · rw [if_neg h1]
      by_cases h2 : req_key x = req_s
      · rw [if_pos h2, h2]; rfl
      · rw [if_neg h2, show (req_key x == req_m) = false from beq_eq_false_iff_ne.2 h1, show (req_key x == req_s) = false from beq_eq_false_iff_ne.2 h2]
        rfl
  | succ d ih =>
    intro k j hj
    have hR := ih k (j + 1) (by omega)
    rw [Int.natCast_add] at hR
    have hjl : j < (L.take i).length := by rw [List.length_take]; omega
    have hrd : rd_T62 L (j : Int) = (L.take i)[j] := by
      rw [List.getElem_take]
      simp [rd_T62, List.getD_eq_getElem?_getD, List.getElem?_eq_getElem (show j < L.length by omega)]
    rw [show d + 1 + (k + 2) = d + (k + 2) + 1 by omega, mailcoachref22_Request.l1, if_pos (by omega), if_pos (by omega), if_pos (by omega), if_pos (by omega), if_pos (by omega), hx, key_list, key_list, w64 ((j : Int) + 1) (by omega) (by omega), List.drop_eq_getElem_cons hjl, List.any_cons, ← hrd]
    by_cases h : req_key (rd_T62 L (j : Int)) = req_key x
    · rw [if_pos h, show sameR x (rd_T62 L (j : Int)) = true from beq_iff_eq.2 h]; rfl
    · rw [if_neg h, show sameR x (rd_T62 L (j : Int)) = false from beq_eq_false_iff_ne.2 h, Bool.false_or]
      exact hR
theorem req_end (L : List S62) (k : Nat) (hL : L.length ≤ 1000000) (hs : ∀ x ∈ L, x.f0.size ≤ 1000000 ∧ x.f1.size ≤ 1000000) (hk : 2000000 < k) (n : Nat) (i : Int) (hi : ¬ i < (L.length : Int)) : mailcoachref22_Request.l0 (k + 1) L (n : Int) i = if n = 3 then some (reqT L) else some 14 := by
  rw [mailcoachref22_Request.l0, if_neg hi]
  by_cases h3 : n = 3
  · rw [if_pos (by omega), if_pos h3]
    obtain ⟨b1, g1⟩ := get_ok L ⟨#[58, 109, 101, 116, 104, 111, 100]⟩ k hL (by omega)
    obtain ⟨b2, g2⟩ := get_ok L ⟨#[58, 115, 99, 104, 101, 109, 101]⟩ k hL (by omega)
    obtain ⟨b3, g3⟩ := get_ok L ⟨#[58, 112, 97, 116, 104]⟩ k hL (by omega)
    rw [show (⟨#[58, 109, 101, 116, 104, 111, 100]⟩ : ByteArray).data.toList = req_m from rfl] at g1
    rw [show (⟨#[58, 115, 99, 104, 101, 109, 101]⟩ : ByteArray).data.toList = req_s from rfl] at g2
    rw [show (⟨#[58, 112, 97, 116, 104]⟩ : ByteArray).data.toList = req_p from rfl] at g3
    rw [g1, g2, g3]
    simp only [Option.bind_some]
    have hsz : (req_get req_m L).size ≤ 1000000 := by
      unfold req_get
      split
      · rename_i x hx
        exact (hs x (List.mem_of_find?_eq_some hx)).2
      · show 0 ≤ _; omega
    rw [token_ok _ true k (by omega) (by omega), forbidden_ok _ k (by omega), Option.bind_some]
    unfold reqT
    rw [tokB_split]
    obtain ⟨k, rfl⟩ : ∃ k', k = k' + 1 := ⟨k - 1, by omega⟩
    have hj : ∀ b : Bool, mailcoachref22_Request.j3 (k + 1) (req_get req_m L) (req_get req_p L) b = if b = true then some 14 else some (if slashB (req_get req_p L) = true then 0 else if (req_get req_p L).toList ≠ [42] then 14 else if (req_get req_m L).toList ≠ [79, 80, 84, 73, 79, 78, 83] then 14 else 0) := by
      intro b
      rw [mailcoachref22_Request.j3]
      cases b with
      | true => rfl
      | false =>
        rw [if_neg Bool.false_ne_true, if_neg Bool.false_ne_true]
        generalize req_get req_p L = p
        unfold slashB
        rw [Lib.toList_data p]
        cases hp : p.data.toList with
        | nil => rfl
        | cons c r =>
          have hps : 0 < p.size := by rw [Lib.size_eq, hp]; simp
          obtain ⟨c', hc', hct⟩ := bt_drop p 0 hps
          rw [List.drop_zero, hp] at hc'
          obtain ⟨rfl, _⟩ := List.cons.inj hc'
          rw [if_neg (by simp), if_pos (by omega), show bt p 0 = bt p ((0 : Nat) : Int) from rfl, hct]
          by_cases h47 : c = 47
          · subst h47; rfl
          · have hn : ¬ ((c.toNat : Int) = 47) := fun e => h47 (UInt8.toNat_inj.1 (by show c.toNat = 47; omega))
            rw [if_neg hn]
            have hsl : ¬ ((match c :: r with | [] => false | b :: _ => b == 47) = true) := by
              show ¬ ((c == 47) = true)
              simpa using h47
            by_cases h42 : c :: r = [42]
            · rw [if_pos h42, if_neg hsl, if_neg (show ¬ (c :: r ≠ [42]) from fun e => e h42)]
              by_cases ho : (req_get req_m L).toList = [79, 80, 84, 73, 79, 78, 83]
              · rw [if_pos ho, if_neg (show ¬ ((req_get req_m L).toList ≠ [79, 80, 84, 73, 79, 78, 83]) from fun e => e ho)]
              · rw [if_neg ho, if_pos ho]
            · rw [if_neg h42, if_neg hsl, if_pos h42]
    simp only [hj]
    cases ((req_get req_m L).data.toList.all (tokc true) && (req_get req_m L).toList != []) with
    | false => rfl
    | true =>
      rw [if_pos rfl, Option.bind_some]
      cases tok_has tok_names (req_get req_m L) with
      | true => rfl
      | false =>
        rw [if_neg Bool.false_ne_true]
        by_cases hsc : (req_get req_s L).toList = []
        · rw [hsc]; rfl
        · have : ((req_get req_s L).toList == []) = false := beq_eq_false_iff_ne.2 hsc
          rw [this, if_neg Bool.false_ne_true, if_neg (show ¬ ((true && !false) = false) from by simp), if_neg hsc]
  · rw [if_neg (by omega), if_neg h3]
theorem req_l0 (L : List S62) (hL : L.length ≤ 1000000) (hs : ∀ x ∈ L, x.f0.size ≤ 1000000 ∧ x.f1.size ≤ 1000000) : ∀ (d k i n : Nat), i + d = L.length → (L.length + 4) * d + 2000001 < k → n ≤ i → mailcoachref22_Request.l0 k L (n : Int) (i : Int) = match goR (L.take i) (L.drop i) n with | none => some 14 | some q => if q = 3 then some (reqT L) else some 14 := by
  intro d
  induction d with
  | zero =>
    intro k i n hi hk hn
    obtain ⟨k, rfl⟩ : ∃ k', k = k' + 1 := ⟨k - 1, by omega⟩
    rw [req_end L k hL hs (by omega) n _ (by omega), List.drop_eq_nil_of_le (by omega)]
    rfl
  | succ d ih =>
    intro k i n hi hk hn
    rw [Nat.mul_succ] at hk
    obtain ⟨k, rfl⟩ : ∃ k', k = i + (k' + 2) + 1 := ⟨k - i - 3, by omega⟩
    have hdr := msg_rd_drop L i (by omega)
    obtain ⟨x, hxx⟩ : ∃ x, rd_T62 L (i : Int) = x := ⟨_, rfl⟩
    rw [hxx] at hdr
    have h1 := req_l1 L n i x (by omega) hxx hL (by omega) i k 0 (by omega)
    have htk : L.take (i + 1) = L.take i ++ [x] := by
      rw [List.take_succ_eq_append_getElem (show i < L.length by omega)]
      congr 2
      rw [← hxx]
      simp [rd_T62, List.getD_eq_getElem?_getD, List.getElem?_eq_getElem (show i < L.length by omega)]
    have hA := ih k (i + 1) (n + 1) (by omega) (by omega) (by omega)
    have hB := ih k (i + 1) n (by omega) (by omega) (by omega)
    rw [Int.natCast_add, Int.natCast_add, htk] at hA
    rw [Int.natCast_add, htk] at hB
    rw [mailcoachref22_Request.l0, if_pos (by omega), show (0 : Int) = ((0 : Nat) : Int) from rfl, h1, List.drop_zero, hdr, goR]
    cases (L.take i).any (sameR x) with
    | true => rfl
    | false =>
      rw [if_neg Bool.false_ne_true, if_neg Bool.false_ne_true]
      cases isM x with
      | true => rw [if_pos rfl, if_pos rfl]; exact hA
      | false =>
        rw [if_neg Bool.false_ne_true, if_neg Bool.false_ne_true]
        cases isA x with
        | true => rw [if_pos rfl, if_pos rfl]; exact hB
        | false => rfl
theorem req_mem (l0 : List S62) (n : Nat) (l2 L : List S62) (h : marksS l0 n l2 = some L) : ∀ x ∈ L, x ∈ l0 := by
  unfold marksS at h
  obtain ⟨p, hp, h⟩ := Option.bind_eq_some_iff.mp h
  split at h
  · cases h
  · obtain rfl := Option.some.inj h
    intro x hx
    rw [leadS_split l0 p hp]
    exact List.mem_append_left _ hx
theorem req_len (l0 : List S62) (n : Nat) (l2 L : List S62) (h : marksS l0 n l2 = some L) : L.length ≤ l0.length := by
  unfold marksS at h
  obtain ⟨p, hp, h⟩ := Option.bind_eq_some_iff.mp h
  split at h
  · cases h
  · obtain rfl := Option.some.inj h
    rw [leadS_split l0 p hp, List.length_append]
    omega
theorem request_both (l0 : List S62) (l1 : List Int) (l2 : List S62) (k : Nat) (hl0 : l0.length ≤ 1000000) (hl1 : l1.length ≤ 1000000) (hl2 : l2.length ≤ 1000000) (hs0 : ∀ x ∈ l0, x.f0.size ≤ 1000000 ∧ x.f1.size ≤ 1000000) (hs2 : ∀ x ∈ l2, x.f0.size ≤ 1000000 ∧ x.f1.size ≤ 1000000) (hs : msg_sum l0 + msg_sum l2 ≤ 4611686018427387904) (hk : 2000000000000 < k) :
    ∃ e, message_Request.f l0 l1 l2 = some e ∧ mailcoachref22_Request.f k l0 l1 l2 = some e := by
  have ok0 : okF l0 := fun x hx => by have := hs0 x hx; omega
  have ok2 : okF l2 := fun x hx => by have := hs2 x hx; omega
  unfold message_Request.f mailcoachref22_Request.f
  rw [great_ok l0 l1 l2 k hl0 hl1 hl2 hs (by omega), great_msg l0 l1 l2 hl0 hl2 hs, Option.bind_some, Option.bind_some, marks_msg l0 l1 l2 ok0 ok2, fields_ok l0 l1 l2 k hl0 hl1 hl2 hs0 hs2 (by omega)]
  cases greatS l0 l1.length l2 with
  | true => exact ⟨3, rfl, rfl⟩
  | false =>
    rw [if_neg Bool.false_ne_true, if_neg Bool.false_ne_true, Option.bind_some, Option.bind_some]
    cases hm : marksS l0 l1.length l2 with
    | none => exact ⟨14, rfl, rfl⟩
    | some L =>
      have hLl := req_len _ _ _ _ hm
      have hLs : ∀ x ∈ L, x.f0.size ≤ 1000000 ∧ x.f1.size ≤ 1000000 := fun x hx => hs0 x (req_mem _ _ _ _ hm x hx)
      have h := req_l0 L (by omega) hLs L.length k 0 0 (by omega) (by
        have : (L.length + 4) * L.length ≤ 1000004 * 1000000 := Nat.mul_le_mul (by omega) (by omega)
        omega) (Nat.le_refl _)
      rw [List.take_zero, List.drop_zero] at h
      refine ⟨req_of L true, ?_, ?_⟩
      · have hc : L.all (fun x => decide (x.f0.size ≤ 4294967280)) = true ∧ L.length ≤ 1000000 := ⟨List.all_eq_true.2 (fun x hx => decide_eq_true (by have := hLs x hx; omega)), by omega⟩
        exact if_pos hc
      · refine (if_pos rfl).trans ?_
        refine Eq.trans h ?_
        rw [req_of_ok]
        cases goR [] L 0 with
        | none => rfl
        | some q =>
          by_cases hq : q = 3
          · subst hq; rfl
          · dsimp only
            rw [if_neg hq, if_neg (by simpa using hq)]
/-! responses -/
def fR (s : ByteArray) : Nat → Nat → Int × Int
  | _, 0 => (0, 14)
  | n, d + 1 => if (msg_itoa (n : Int)).toList = s.toList then ((n : Int), 0) else fR s (n + 1) d
theorem fR_hit (s : ByteArray) (m : Nat) (hm : (msg_itoa (m : Int)).toList = s.toList) (hb : m ≤ 1000000) : ∀ d n, n ≤ m → m < n + d → fR s n d = ((m : Int), 0)
  | 0, n, h1, h2 => by omega
  | d + 1, n, h1, h2 => by
    rw [fR]
    by_cases h : (msg_itoa (n : Int)).toList = s.toList
    · rw [if_pos h]
      have e : (msg_itoa (n : Int)).toList = (msg_itoa (m : Int)).toList := h.trans hm.symm
      rw [Lib.toList_data, Lib.toList_data] at e
      have e1 : Lib.itoa (n : Int) = Lib.itoa (m : Int) := e
      have a1 := ma_atoi (n : Int) (by omega) (by omega)
      have a2 := ma_atoi (m : Int) (by omega) (by omega)
      rw [e1, a2] at a1
      injection a1 with a1
      rw [a1]
    · rw [if_neg h]
      have : n ≠ m := fun e => h (by rw [e]; exact hm)
      exact fR_hit s m hm hb d (n + 1) (by omega) (by omega)
theorem fR_miss (s : ByteArray) : ∀ (d n : Nat), (∀ m : Nat, n ≤ m → m < n + d → (msg_itoa (m : Int)).toList ≠ s.toList) → fR s n d = (0, 14)
  | 0, n, _ => rfl
  | d + 1, n, h => by
    rw [fR, if_neg (h n (Nat.le_refl _) (by omega))]
    exact fR_miss s d (n + 1) (fun m h1 h2 => h m (by omega) (by omega))
theorem three (m : Nat) (h1 : 200 ≤ m) (h2 : m < 600) : (msg_itoa (m : Int)).size = 3 := by
  have h : ∀ i : Fin 400, (msg_itoa ((200 + i.val : Nat) : Int)).size = 3 := by decide +kernel
  have := h ⟨m - 200, by omega⟩
  rw [show 200 + (m - 200) = m by omega] at this
  exact this
theorem resp_both (x : S62) (hs : x.f1.size ≤ 1000000) : resp_tail x = some (if x.f1.size = 3 then fR x.f1 200 400 else (0, 14)) := by
  by_cases hm : ∃ m : Nat, 200 ≤ m ∧ m < 600 ∧ (msg_itoa (m : Int)).toList = x.f1.toList
  · obtain ⟨m, m1, m2, m3⟩ := hm
    have hsz : x.f1.size = 3 := by
      have e : x.f1 = msg_itoa (m : Int) := ((tok_eq _ _).1 m3).symm
      rw [e]
      exact three m m1 m2
    have hat : Lib.atoiAll x.f1.data.toList = .ok (m : Int) := by
      have e : x.f1.data.toList = Lib.itoa (m : Int) := by
        rw [← Lib.toList_data, ← m3, Lib.toList_data]
        rfl
      rw [e]
      exact ma_atoi (m : Int) (by omega) (by omega)
    rw [if_pos hsz, fR_hit x.f1 m m3 (by omega) 400 200 m1 (by omega)]
    unfold resp_tail
    rw [if_pos (by omega), hat]
    dsimp only
    rw [if_neg (by omega), if_neg (by omega), m3]
    simp
  · have hmiss : ∀ m : Nat, 200 ≤ m → m < 200 + 400 → (msg_itoa (m : Int)).toList ≠ x.f1.toList := fun m h1 h2 e => hm ⟨m, h1, by omega, e⟩
    rw [fR_miss x.f1 400 200 hmiss]
    rw [show (if x.f1.size = 3 then ((0 : Int), (14 : Int)) else (0, 14)) = (0, 14) from by split <;> rfl]
    unfold resp_tail
    rw [if_pos (by omega)]
    cases hat : Lib.atoiAll x.f1.data.toList with
    | ok v =>
      dsimp only
      by_cases h1 : v < 200
      · rw [if_pos h1]
      · rw [if_neg h1]
        by_cases h2 : 599 < v
        · rw [if_pos h2]
        · rw [if_neg h2]
          obtain ⟨m, rfl⟩ : ∃ m : Nat, v = (m : Int) := ⟨v.toNat, by omega⟩
          rw [if_pos (by simpa using hmiss m (by omega) (by omega))]
    | _ => rfl
theorem resp_l0 (x : S62) : ∀ (d k n : Nat), n + d = 600 → d + 1000003 < k → mailcoachref22_Response.l0 k [x] (n : Int) = some (fR x.f1 n d) := by
  intro d
  induction d with
  | zero =>
    intro k n hn hk
    obtain ⟨k, rfl⟩ : ∃ k', k = k' + 1 := ⟨k - 1, by omega⟩
    rw [mailcoachref22_Response.l0, if_neg (by omega)]
    rfl
  | succ d ih =>
    intro k n hn hk
    obtain ⟨k, rfl⟩ : ∃ k', k = k' + 1 := ⟨k - 1, by omega⟩
    have hR := ih k (n + 1) (by omega) (by omega)
    rw [Int.natCast_add] at hR
    rw [mailcoachref22_Response.l0, if_pos (by omega), digits_ok n k (by omega) (by omega), Option.bind_some, if_pos (by simp), w64 ((n : Int) + 1) (by omega) (by omega), fR, show rd_T62 [x] 0 = x from rfl]
    by_cases h : (msg_itoa (n : Int)).toList = x.f1.toList
    · rw [if_pos h, if_pos h]
    · rw [if_neg h, if_neg h]
      exact hR
theorem response_both (l0 : List S62) (l1 : List Int) (l2 : List S62) (k : Nat) (hl0 : l0.length ≤ 1000000) (hl1 : l1.length ≤ 1000000) (hl2 : l2.length ≤ 1000000) (hs0 : ∀ x ∈ l0, x.f0.size ≤ 1000000 ∧ x.f1.size ≤ 1000000) (hs2 : ∀ x ∈ l2, x.f0.size ≤ 1000000 ∧ x.f1.size ≤ 1000000) (hs : msg_sum l0 + msg_sum l2 ≤ 4611686018427387904) (hk : 5000000 < k) :
    ∃ e, message_Response.f l0 l1 l2 = some e ∧ mailcoachref22_Response.f k l0 l1 l2 = some e := by
  have ok0 : okF l0 := fun x hx => by have := hs0 x hx; omega
  have ok2 : okF l2 := fun x hx => by have := hs2 x hx; omega
  unfold message_Response.f mailcoachref22_Response.f
  rw [great_ok l0 l1 l2 k hl0 hl1 hl2 hs (by omega), great_msg l0 l1 l2 hl0 hl2 hs, Option.bind_some, Option.bind_some, marks_msg l0 l1 l2 ok0 ok2, fields_ok l0 l1 l2 k hl0 hl1 hl2 hs0 hs2 (by omega)]
  obtain ⟨k, rfl⟩ : ∃ k', k = k' + 1 := ⟨k - 1, by omega⟩
  cases greatS l0 l1.length l2 with
  | true => exact ⟨(0, 3), rfl, rfl⟩
  | false =>
    rw [if_neg Bool.false_ne_true, if_neg Bool.false_ne_true, Option.bind_some, Option.bind_some]
    cases hm : marksS l0 l1.length l2 with
    | none => exact ⟨(0, 14), rfl, rfl⟩
    | some L =>
      have hLs : ∀ x ∈ L, x.f0.size ≤ 1000000 ∧ x.f1.size ≤ 1000000 := fun x hx => hs0 x (req_mem _ _ _ _ hm x hx)
      rw [show (unM (some L)).2 = true from rfl, show (unM (some L)).1 = L from rfl, if_pos rfl, if_pos rfl]
      by_cases h1 : L.length = 1
      · obtain ⟨x, rfl⟩ : ∃ x, L = [x] := by
          match L, h1 with
          | [x], _ => exact ⟨x, rfl⟩
        have hx := hLs x List.mem_cons_self
        rw [if_pos (show ((([x] : List S62).length : Nat) : Int) = 1 from rfl), if_pos (show (0 : Int) < (([x] : List S62).length : Int) from by simp), show rd_T62 [x] 0 = x from rfl, resp_marks]
        by_cases hst : x.f0.toList = [58, 115, 116, 97, 116, 117, 115]
        · rw [if_pos hst, show (x.f0.toList != msg_status) = false from by rw [hst]; rfl, if_neg Bool.false_ne_true, resp_both x hx.2, mailcoachref22_Response.j0]
          refine ⟨_, rfl, ?_⟩
          by_cases h3 : x.f1.size = 3
          · rw [if_pos h3, if_neg (by rw [h3]; simp)]
            exact resp_l0 x 400 k 200 (by omega) (by omega)
          · rw [if_neg h3, if_pos (by simp; omega)]
        · rw [if_neg hst, show (x.f0.toList != msg_status) = true from (by have h9 : x.f0.toList ≠ msg_status := hst; simpa using h9), if_pos rfl, mailcoachref22_Response.j0]
          exact ⟨(0, 14), rfl, rfl⟩
      · rw [if_neg (by omega), resp_more h1, mailcoachref22_Response.j0]
        exact ⟨(0, 14), rfl, rfl⟩
end Go.Proofs.YtcgbpallpnaclaaGreatDoor.T
