/- A part of the walk of the laws of layer 26 (script): contracts of functions of the program, each walked once; and the plain law. -/
import Derived.Test.YtegmbihjjhhpmaaDoorSW
import Derived.Test.YtegmbihjjhhpmaaDoorSh
import Derived.Lib.ItoaLen
import Derived.IntWalk
import Derived.Great.Walk
import Derived.RangeFuncNested
import Derived.RangeFuncBound
import Derived.RangeFuncCalls
import Derived.RangeFuncLeaves
import Derived.RangeFuncBox
import Derived.OwnWalkIn
import Derived.TacticsInMore
import Derived.LoopNIn
import Derived.LoopIn
import Derived.Deep.DeepMust
import Derived.LoopN
import Derived.Laws.BitsAllLaws
import Derived.Maps.OwnIn
import Derived.Shelf.Abstract
import Derived.Sort.CutIn
import Derived.Shelf.RegionOpen
import Derived.StillTailTactics
import Derived.Great.BuildSlice
import Derived.Laws.Tables
import Derived.Lib.OthersKept
import Derived.Outline
import Derived.Deep.RegionHeld3
import Derived.Laws.StructEq
import Derived.Deep.RegionLaw
import Derived.Deep.RegionWith
import Derived.ArgAppend
namespace Go.Proofs.YtegmbihjjhhpmaaDoor.T
open Go.RowKit Go.Proofs.YtegmbihjjhhpmaaDoorW.PrintWords Go.Proofs.YtegmbihjjhhpmaaDoorW.PrintLast Go.Proofs.YtegmbihjjhhpmaaDoorW.PrintMore
open Go.Proofs.YtegmbihjjhhpmaaDoor.PSC
set_option linter.unusedVariables false
set_option linter.unusedSimpArgs false
/-! ### the laws: walks -/
def sc_inE (l : List S47) : Prop := l.length ≤ 140737488355328 ∧ ∀ x ∈ l, strE x ∧ sc_okE x
def sc_inR (l : List S51) : Prop := l.length ≤ 140737488355328 ∧ ∀ x ∈ l, strR x ∧ sc_okR x
theorem sc_Text_fit (l : List S47) : (sc_b (sc_Text l).1).size ≤ 4294967000 := by
  rw [sc_b_size]
  exact Nat.le_trans (sc_text_len sc_line l 0 false [] (by simp) (.inl (by omega)) (by simp)) (by decide)
theorem sc_RulesText_fit (l : List S51) : (sc_b (sc_RulesText l).1).size ≤ 4294967000 := by
  rw [sc_b_size]
  exact Nat.le_trans (sc_text_len sc_ruled l 0 false [] (by simp) (.inl (by omega)) (by simp)) (by decide)
theorem sc_Parse_of (s : ByteArray) (l : List S47) (w : World) (hp : sc_Parse s = (l, 0, 0)) (hs : s.size ≤ 4294967000) (hT : ScTab w) :
    Calls Tryd.prog 9 #[.string s] w fun e w' => (∃ A, e = .returned (.tuple #[.slice A l.length l.length, .int .i64 0, .int .i64 0]) ∧ Kd.C k47 w' A l.length l) ∧ Below w.heap.size w w' := by
  have h := script_Parse.calls s w hs hT
  rw [hp] at h
  refine h.mono fun e w' ⟨⟨A, c, he, ho⟩, hb⟩ => ⟨⟨A, he, sc_out_ev ho⟩, hb⟩
theorem sc_Rules_of (s : ByteArray) (l : List S51) (w : World) (hp : sc_Rules s = (l, 0, 0)) (hs : s.size ≤ 4294967000) (hT : ScTab w) :
    Calls Tryd.prog 14 #[.string s] w fun e w' => (∃ A, e = .returned (.tuple #[.slice A l.length l.length, .int .i64 0, .int .i64 0]) ∧ Kd.C k51 w' A l.length l) ∧ Below w.heap.size w w' := by
  have h := script_Rules.calls s w hs hT
  rw [hp] at h
  refine h.mono fun e w' ⟨⟨A, c, he, ho⟩, hb⟩ => ⟨⟨A, he, sc_out_ru ho⟩, hb⟩
set_option maxHeartbeats 3200000 in
set_option maxRecDepth 100000 in
theorem mailcoachlaw26_ScriptBack.calls (A : Option Addr) (c : Nat) (l : List S47) (w : World) (hr : Kd.C k47 w A l.length l) (hc : l.length ≤ c) (hl : sc_inE l) (hT : ScTab w) :
    Calls Tryd.prog 3 #[.slice A l.length c] w fun e w' => e = .returned (.bool true) ∧ Below w.heap.size w w' := by
  obtain ⟨hl0, hle⟩ := hl
  obtain ⟨r, hr1, hr2⟩ := sz_events l 140737488355331 281474976710661 (fun x hx => ⟨(hle x hx).1, by obtain ⟨h0, h1, h2, h3, h4, h5⟩ := (hle x hx).1; omega, by obtain ⟨h0, h1, h2, h3, h4, h5⟩ := (hle x hx).1; omega⟩) hl0 (by omega)
  have HR := Aside0.mk hr
  have HT := Aside0.mk hT
  have HSZ := Aside0.mk hr1
  have HC := Aside0.mk hc
  have HL := Aside0.mk hl0
  have LIV := Aside0.mk (fun (W : World) (hb : Below w.heap.size w W) => script_lives.calls W (HT.out.below hb))
  have HSM := Aside0.mk (sm_events l 140737488355331 281474976710661 (fun x hx => ⟨(hle x hx).1, by obtain ⟨h0, h1, h2, h3, h4, h5⟩ := (hle x hx).1; exact ⟨by omega, by omega, by omega, by omega⟩⟩) hl0 (by omega))
  have HLE := Aside0.mk hle
  have HR2 := Aside0.mk hr2
  have HB := Aside0.mk (Below.refl w.heap.size w)
  clear hr hT hr1 hc hl0 hle hr2
  by_cases hbig : 100000 < r
  · go_enter Tryd.func3, Tryd.ntmps3
    go_wp2_with (first | (go_at_call 6; refine (mailcoachlaw01_EventsSize.calls 281474976710661 A c l r _ HR.out HC.out HSZ.out).mono ?_; rintro e w1 ⟨rfl, hz⟩; have HB := Aside0.mk (below_step HB.out hz); clear hz) | (go_at_call 7; refine (LIV.out _ HB.out).mono ?_; rintro e w1 ⟨rfl, hz⟩; have HB := Aside0.mk (below_step HB.out hz); clear hz))
    go_ret
    exact ⟨rfl, HB.out⟩
  · have hbz : (100000 < r) = False := eq_false hbig
    by_cases hmany : 5000 < l.length
    · have hmz : (5000 : Int) < (l.length : Int) := by omega
      go_enter Tryd.func3, Tryd.ntmps3
      go_wp2_with (first | (go_at_call 6; refine (mailcoachlaw01_EventsSize.calls 281474976710661 A c l r _ HR.out HC.out HSZ.out).mono ?_; rintro e w1 ⟨rfl, hz⟩; have HB := Aside0.mk (below_step HB.out hz); clear hz) | (go_at_call 7; refine (LIV.out _ HB.out).mono ?_; rintro e w1 ⟨rfl, hz⟩; have HB := Aside0.mk (below_step HB.out hz); clear hz))
      go_ret
      exact ⟨rfl, HB.out⟩
    · have hmz : ((5000 : Int) < (l.length : Int)) = False := eq_false (by omega)
      have hmz2 : (5000 < l.length) = False := eq_false (by omega)
      have TXT := Aside0.mk (fun (W : World) (hb : Below w.heap.size w W) => script_Text.calls A c l W (Kd.C_below HR.out hb) HC.out (by omega) (fun x hx => sc_small_of x r (HR2.out (by omega) x hx) (by omega) (HLE.out x hx).2.2.2) (HT.out.below hb))
      have HFIT := Aside0.mk (sc_Text_fit l)
      have HBACK := Aside0.mk (sc_ScriptBack l (fun x hx => (HLE.out x hx).2))
      have HBAD := Aside0.mk (sc_text_bad sc_line l 0 false [])
      have hT0 : sc_text sc_line l 0 false [] = sc_Text l := rfl
      rw [hT0] at HBAD
      obtain ⟨⟨o, n⟩, hT⟩ : ∃ T, sc_Text l = T := ⟨_, rfl⟩
      rw [hT] at TXT HFIT HBACK HBAD
      simp only at TXT HFIT HBACK HBAD
      clear hT hT0 hmany hbig
      by_cases hn : n = 0
      · subst hn
        have HPA := Aside0.mk (fun (W : World) (hb : Below w.heap.size w W) => sc_Parse_of (sc_b o) l W (HBACK.out rfl) HFIT.out (HT.out.below hb))
        obtain ⟨X, hX⟩ : ∃ X, sc_b o = X := ⟨_, rfl⟩
        rw [hX] at TXT HPA
        clear hX HFIT HBACK HBAD
        go_enter Tryd.func3, Tryd.ntmps3
        go_wp2_with (first | (go_at_call 6; refine (mailcoachlaw01_EventsSize.calls 281474976710661 A c l r _ HR.out HC.out HSZ.out).mono ?_; rintro e w1 ⟨rfl, hz⟩; have HB := Aside0.mk (below_step HB.out hz); clear hz) | (go_at_call 7; refine (LIV.out _ HB.out).mono ?_; rintro e w1 ⟨rfl, hz⟩; have HB := Aside0.mk (below_step HB.out hz); clear hz) | (go_at_call 8; refine (TXT.out _ HB.out).mono ?_; rintro e w1 ⟨rfl, hz⟩; have HB := Aside0.mk (below_step HB.out hz); clear hz) | (go_at_call 9; refine (HPA.out _ HB.out).mono ?_; rintro e w1 ⟨⟨A5, rfl, ho⟩, hz⟩; have HO := Aside0.mk ho; have HB := Aside0.mk (below_step HB.out hz); clear hz ho) | (go_at_call 10; refine (mailcoachlaw01_SameEvents.calls 281474976710661 A5 l.length l A c l true _ HO.out (Nat.le_refl _) (Kd.C_below HR.out HB.out) HC.out HSM.out).mono ?_; rintro e w1 ⟨rfl, hz⟩; have HB := Aside0.mk (below_step HB.out hz); clear hz))
        go_ret
        exact ⟨rfl, HB.out⟩
      · have ho : o = [] := HBAD.out hn
        subst ho
        have TXT := Aside0.mk (show ∀ (W : World) (hb : Below w.heap.size w W), Calls Tryd.prog 8 #[.slice A l.length c] W fun e w' => e = .returned (.tuple #[.string ⟨#[]⟩, .int .i64 n]) ∧ Below W.heap.size W w' from TXT.out)
        clear HFIT HBACK HBAD
        have hn0 : (n == 0) = false := by simp [hn]
        have hn1 : (n != 0) = true := by simp [hn]
        go_enter Tryd.func3, Tryd.ntmps3
        go_wp2_with (first | (go_at_call 6; refine (mailcoachlaw01_EventsSize.calls 281474976710661 A c l r _ HR.out HC.out HSZ.out).mono ?_; rintro e w1 ⟨rfl, hz⟩; have HB := Aside0.mk (below_step HB.out hz); clear hz) | (go_at_call 7; refine (LIV.out _ HB.out).mono ?_; rintro e w1 ⟨rfl, hz⟩; have HB := Aside0.mk (below_step HB.out hz); clear hz) | (go_at_call 8; refine (TXT.out _ HB.out).mono ?_; rintro e w1 ⟨rfl, hz⟩; have HB := Aside0.mk (below_step HB.out hz); clear hz))
        go_ret
        exact ⟨rfl, HB.out⟩
end Go.Proofs.YtegmbihjjhhpmaaDoor.T
namespace Go.Proofs.YtegmbihjjhhpmaaDoor.T
open Go.RowKit Go.Proofs.YtegmbihjjhhpmaaDoorW.PrintWords Go.Proofs.YtegmbihjjhhpmaaDoorW.PrintLast Go.Proofs.YtegmbihjjhhpmaaDoorW.PrintMore
open Go.Proofs.YtegmbihjjhhpmaaDoor.PSC
set_option linter.unusedVariables false
set_option linter.unusedSimpArgs false
/-! ### what is parsed is small -/
theorem sc_parse_mem {α : Type} (f : Tk → α × Tk) : ∀ (ps : List (List UInt8)) (i : Nat) (acc : List α), (sc_parse f ps i acc).2.2 = 0 → (∀ x ∈ (sc_parse f ps i acc).1, x ∈ acc ∨ ∃ p, p.length ≤ 65536 ∧ f (sc_words p, false) = (x, ([], false))) ∧ (sc_parse f ps i acc).1.length ≤ acc.length + (4096 - i)
  | [], i, acc, _ => ⟨fun x hx => .inl (by simpa [sc_parse] using hx), by simp [sc_parse]⟩
  | [p], i, acc, h => by
    rw [sc_parse] at h ⊢
    split
    · exact ⟨fun x hx => .inl hx, by simp⟩
    · rename_i hp; rw [if_neg hp] at h; simp at h
  | p :: q :: ps, i, acc, h => by
    rw [sc_parse] at h ⊢
    split
    · rename_i hp; rw [if_pos hp] at h; simp at h
    · rename_i hp
      rw [if_neg hp] at h
      simp only [not_or, Nat.not_lt, Nat.not_le, Bool.not_eq_true, ne_eq, Classical.not_not] at hp
      obtain ⟨h1, h2, h3, h4⟩ := hp
      obtain ⟨k1, k2⟩ := sc_parse_mem f (q :: ps) (i + 1) _ h
      refine ⟨fun x hx => ?_, by rw [List.length_append] at k2; simp at k2; omega⟩
      rcases k1 x hx with hx | hx
      · rcases List.mem_append.1 hx with hx | hx
        · exact .inl hx
        · refine .inr ⟨p, h3, ?_⟩
          obtain rfl : x = (f (sc_words p, false)).1 := by simpa using hx
          exact Prod.ext rfl (Prod.ext h2 h1)
      · exact .inr hx
theorem sc_hexB_ge (s : ByteArray) : s.size ≤ (sc_hexB s).size := by
  show s.data.toList.length ≤ (sc_hex s.data.toList).length
  by_cases h : s.data.toList = []
  · rw [h]; simp
  · rw [sc_hex_raw _ h, sc_raw_len]; omega
theorem sc_toldL_ge (sign : ByteArray) (l : List S49) : msg_sum l + l.length ≤ (sc_toldL sign l).length := by
  induction l with
  | nil => simp [msg_sum]
  | cons f l ih =>
    have e : sc_toldL sign (f :: l) = (32 :: sign.data.toList ++ 32 :: (sc_hexB f.f0).data.toList ++ 32 :: (sc_hexB f.f1).data.toList) ++ sc_toldL sign l := by simp [sc_toldL, sc_tail, sc_fw]
    have e1 : msg_sum (f :: l) = f.f0.size + f.f1.size + msg_sum l := by simp [msg_sum]
    have e2 : (sc_hexB f.f0).data.toList.length = (sc_hexB f.f0).size := rfl
    have e3 : (sc_hexB f.f1).data.toList.length = (sc_hexB f.f1).size := rfl
    have h0 := sc_hexB_ge f.f0
    have h1 := sc_hexB_ge f.f1
    rw [e, e1]
    simp only [List.length_append, List.length_cons, e2, e3]
    omega
theorem sc_bw_ge (l : List Int) : l.length ≤ (sc_tail (sc_bw l)).length := by
  have h := sc_hexB_ge (sc_bytes l)
  have e2 : (sc_bytes l).size = l.length := by simp [sc_bytes, sc_b_size]
  have e3 : (sc_hexB (sc_bytes l)).data.toList.length = (sc_hexB (sc_bytes l)).size := rfl
  unfold sc_bw
  split
  · rename_i h0; subst h0; simp
  · simp only [sc_tail, List.flatMap_cons, List.flatMap_nil, List.append_nil, List.length_append, List.length_cons, e3]
    omega
theorem sc_line_small (x : S47) (s : ByteArray) (h : sc_line x = some s) (hs : s.size ≤ 65536) (ho : sc_ok64 x.f1) : sc_smallE x := by
  unfold sc_line at h
  cases hr : sc_krow x.f0 with
  | none => rw [hr] at h; cases h
  | some r =>
    rw [hr] at h
    simp only at h
    split at h
    · rename_i hm
      obtain rfl := Option.some.inj h
      have e2 : (sc_ew r x).tail = (if r.2.1 = 1 then sc_mw x.f2 else []) ++ (if r.2.2.1 = true then [sc_b (Lib.itoa x.f1)] else []) ++ (if r.2.2.2 = true then [sc_hexB (sc_bytes x.f3)] else []) := rfl
      rw [sc_b_size, List.length_append, e2, sc_tail_app, sc_tail_app, List.length_append, List.length_append] at hs
      rw [sc_mayB_len] at hm
      simp only [Bool.and_eq_true, Bool.or_eq_true, decide_eq_true_eq] at hm
      obtain ⟨⟨m1, _⟩, m3⟩ := hm
      have hd : x.f3.length ≤ 65536 := by
        rcases m3 with m3 | m3
        · omega
        · rw [m3, if_pos rfl, sc_tail_one] at hs
          have h1 := sc_hexB_ge (sc_bytes x.f3)
          have h2 : (sc_bytes x.f3).size = x.f3.length := by simp [sc_bytes, sc_b_size]
          omega
      have hmsg : msg_sum x.f2.f0 + x.f2.f0.length ≤ 65536 ∧ x.f2.f1.length ≤ 65536 ∧ msg_sum x.f2.f2 + x.f2.f2.length ≤ 65536 := by
        rcases m1 with m1 | m1
        · have a0 : x.f2.f0 = [] := List.eq_nil_of_length_eq_zero (by omega)
          have a2 : x.f2.f2 = [] := List.eq_nil_of_length_eq_zero (by omega)
          rw [a0, a2]
          exact ⟨by simp [msg_sum], by omega, by simp [msg_sum]⟩
        · rw [if_pos m1] at hs
          have e : sc_tail (sc_mw x.f2) = sc_toldL sc_f x.f2.f0 ++ sc_tail (sc_bw x.f2.f1) ++ sc_toldL sc_t x.f2.f2 := by unfold sc_mw; rw [sc_tail_app, sc_tail_app]; rfl
          rw [e, List.length_append, List.length_append] at hs
          have b0 := sc_toldL_ge sc_f x.f2.f0
          have b1 := sc_bw_ge x.f2.f1
          have b2 := sc_toldL_ge sc_t x.f2.f2
          omega
      obtain ⟨c0, c1, c2⟩ := hmsg
      exact ⟨ho, fun f hf => msg_sum_mem x.f2.f0 1000000 (by omega) f hf, by omega, by omega, fun f hf => msg_sum_mem x.f2.f2 1000000 (by omega) f hf, by omega, by omega⟩
    · cases h
theorem sc_ruled_small (x : S51) (s : ByteArray) (h : sc_ruled x = some s) (hs : s.size ≤ 65536) (ho : sc_ok64 x.f2) : sc_smallR x := by
  obtain rfl := Option.some.inj h
  have e2 : (sc_rw x).tail = [sc_hexB x.f0] ++ [sc_hexB x.f1] ++ [sc_b (Lib.itoa x.f2)] ++ sc_fw sc_f x.f3 ++ sc_bw x.f4 ++ (if x.f5 = true then [sc_echo] else []) := by unfold sc_rw; simp
  have e5 : sc_tail (sc_fw sc_f x.f3) = sc_toldL sc_f x.f3 := rfl
  rw [sc_b_size, List.length_append, e2] at hs
  simp only [sc_tail_app, List.length_append, sc_tail_one, e5] at hs
  have h0 := sc_hexB_ge x.f0
  have h1 := sc_hexB_ge x.f1
  have b0 := sc_toldL_ge sc_f x.f3
  have b1 := sc_bw_ge x.f4
  exact ⟨by omega, by omega, ho, fun f hf => msg_sum_mem x.f3 1000000 (by omega) f hf, by omega, by omega⟩
end Go.Proofs.YtegmbihjjhhpmaaDoor.T
namespace Go.Proofs.YtegmbihjjhhpmaaDoor.T
open Go.RowKit Go.Proofs.YtegmbihjjhhpmaaDoorW.PrintWords Go.Proofs.YtegmbihjjhhpmaaDoorW.PrintLast Go.Proofs.YtegmbihjjhhpmaaDoorW.PrintMore
open Go.Proofs.YtegmbihjjhhpmaaDoor.PSC
set_option linter.unusedVariables false
set_option linter.unusedSimpArgs false
/-! ### the laws: walks (made by wip/gen_law2.py) -/
theorem sc_Parse_bad (s : ByteArray) (w : World) (i n : Int) (hp : sc_Parse s = ([], i, n)) (hs : s.size ≤ 4294967000) (hT : ScTab w) :
    Calls Tryd.prog 9 #[.string s] w fun e w' => (∃ A, e = .returned (.tuple #[.slice A 0 0, .int .i64 i, .int .i64 n]) ∧ True) ∧ Below w.heap.size w w' := by
  have h := script_Parse.calls s w hs hT
  rw [hp] at h
  refine h.mono fun e w' ⟨⟨A, c, he, ho⟩, hb⟩ => ⟨⟨A, he, trivial⟩, hb⟩
theorem sc_Rules_bad (s : ByteArray) (w : World) (i n : Int) (hp : sc_Rules s = ([], i, n)) (hs : s.size ≤ 4294967000) (hT : ScTab w) :
    Calls Tryd.prog 14 #[.string s] w fun e w' => (∃ A, e = .returned (.tuple #[.slice A 0 0, .int .i64 i, .int .i64 n]) ∧ True) ∧ Below w.heap.size w w' := by
  have h := script_Rules.calls s w hs hT
  rw [hp] at h
  refine h.mono fun e w' ⟨⟨A, c, he, ho⟩, hb⟩ => ⟨⟨A, he, trivial⟩, hb⟩
theorem sc_Parse_fit (s : ByteArray) (l : List S47) (i : Int) (h : sc_Parse s = (l, i, 0)) : i = 0 ∧ l.length ≤ 4096 ∧ (∀ x ∈ l, sc_smallE x) ∧ sc_Text l = (s.data.toList, 0) := by
  have h0 : (sc_Parse s).2.2 = 0 := by rw [h]
  obtain ⟨m1, m2⟩ := sc_parse_mem tk_event (sc_split 10 s.data.toList) 0 [] h0
  have hi := sc_parse_zero tk_event (sc_split 10 s.data.toList) 0 [] h0
  have ht := sc_ScriptAgain s h0
  have e : sc_parse tk_event (sc_split 10 s.data.toList) 0 [] = (l, i, 0) := h
  rw [e] at m1 m2 hi
  rw [h] at ht
  refine ⟨hi, by simpa using m2, fun x hx => ?_, ht⟩
  rcases m1 x hx with hx | ⟨p, hp, hf⟩
  · cases hx
  · have := tk_event_ok (sc_words p, false)
    rw [hf] at this
    exact sc_line_small x _ (sc_event_again p x hf) hp this.2.2
theorem sc_Rules_fit (s : ByteArray) (l : List S51) (i : Int) (h : sc_Rules s = (l, i, 0)) : i = 0 ∧ l.length ≤ 4096 ∧ (∀ x ∈ l, sc_smallR x) ∧ sc_RulesText l = (s.data.toList, 0) := by
  have h0 : (sc_Rules s).2.2 = 0 := by rw [h]
  obtain ⟨m1, m2⟩ := sc_parse_mem tk_rule (sc_split 10 s.data.toList) 0 [] h0
  have hi := sc_parse_zero tk_rule (sc_split 10 s.data.toList) 0 [] h0
  have ht := sc_RulesAgain s h0
  have e : sc_parse tk_rule (sc_split 10 s.data.toList) 0 [] = (l, i, 0) := h
  rw [e] at m1 m2 hi
  rw [h] at ht
  refine ⟨hi, by simpa using m2, fun x hx => ?_, ht⟩
  rcases m1 x hx with hx | ⟨p, hp, hf⟩
  · cases hx
  · have := tk_rule_ok (sc_words p, false)
    rw [hf] at this
    exact sc_ruled_small x _ (sc_rule_again p x hf) hp this.2

set_option maxHeartbeats 3200000 in
set_option maxRecDepth 100000 in
theorem mailcoachlaw26_ScriptAgain.calls (s : ByteArray) (w : World) (hT : ScTab w) :
    Calls Tryd.prog 4 #[.string s] w fun e w' => e = .returned (.bool true) ∧ Below w.heap.size w w' := by
  have HT := Aside0.mk hT
  have LIV := Aside0.mk (fun (W : World) (hb : Below w.heap.size w W) => script_lives.calls W (HT.out.below hb))
  have HB := Aside0.mk (Below.refl w.heap.size w)
  clear hT
  by_cases hbig : (s.size : Int) > 200000
  · have HG := Aside0.mk (show mailcoachlaw26_great.f s = some true by unfold mailcoachlaw26_great.f; rw [decide_eq_true hbig])
    clear hbig
    go_enter Tryd.func4, Tryd.ntmps4
    go_wp2_with (first | (go_at_call 11; refine (mailcoachlaw26_great.calls s _ _ HG.out).mono ?_; rintro e w1 ⟨rfl, hz⟩; have HB := Aside0.mk (below_step HB.out hz.below); clear hz) | (go_at_call 7; refine (LIV.out _ HB.out).mono ?_; rintro e w1 ⟨rfl, hz⟩; have HB := Aside0.mk (below_step HB.out hz); clear hz))
    go_ret
    exact ⟨rfl, HB.out⟩
  · have HG := Aside0.mk (show mailcoachlaw26_great.f s = some false by unfold mailcoachlaw26_great.f; rw [decide_eq_false hbig])
    have HS := Aside0.mk (show s.size ≤ 4294967000 by omega)
    clear hbig
    obtain ⟨⟨l2, i, n⟩, hP⟩ : ∃ T, sc_Parse s = T := ⟨_, rfl⟩
    by_cases hn : n = 0
    · subst hn
      obtain ⟨rfl, f1, f2, f3⟩ := sc_Parse_fit s l2 i hP
      have PAR := Aside0.mk (fun (W : World) (hb : Below w.heap.size w W) => sc_Parse_of s l2 W hP HS.out (HT.out.below hb))
      have TXT := Aside0.mk (fun (W : World) (A : Option Addr) (h : Kd.C k47 W A l2.length l2) (hb : Below w.heap.size w W) => script_Text.calls A l2.length l2 W h (Nat.le_refl _) (by omega) f2 (HT.out.below hb))
      rw [f3] at TXT
      have TXT := Aside0.mk (show ∀ (W : World) (A : Option Addr) (h : Kd.C k47 W A l2.length l2) (hb : Below w.heap.size w W), Calls Tryd.prog 8 #[.slice A l2.length l2.length] W fun e w' => e = .returned (.tuple #[.string s, .int .i64 0]) ∧ Below W.heap.size W w' from TXT.out)
      clear f2 f3 hP
      have hss : (s.toList == s.toList) = true := by simp
      go_enter Tryd.func4, Tryd.ntmps4
      go_wp2_with (first | (go_at_call 11; refine (mailcoachlaw26_great.calls s _ _ HG.out).mono ?_; rintro e w1 ⟨rfl, hz⟩; have HB := Aside0.mk (below_step HB.out hz.below); clear hz) | (go_at_call 7; refine (LIV.out _ HB.out).mono ?_; rintro e w1 ⟨rfl, hz⟩; have HB := Aside0.mk (below_step HB.out hz); clear hz) | (go_at_call 9; refine (PAR.out _ HB.out).mono ?_; rintro e w1 ⟨⟨A5, rfl, ho⟩, hz⟩; have HO := Aside0.mk ho; have HB := Aside0.mk (below_step HB.out hz); clear hz ho) | (go_at_call 8; refine (TXT.out _ A5 HO.out HB.out).mono ?_; rintro e w1 ⟨rfl, hz⟩; have HB := Aside0.mk (below_step HB.out hz); clear hz))
      go_ret
      exact ⟨rfl, HB.out⟩
    · have hn0 : (n == 0) = false := by simp [hn]
      have hn1 : (n != 0) = true := by simp [hn]
      obtain ⟨f1, f2⟩ := sc_parse_bad tk_event (sc_split 10 s.data.toList) 0 [] (by show (sc_Parse s).2.2 ≠ 0; rw [hP]; exact hn)
      have e : sc_parse tk_event (sc_split 10 s.data.toList) 0 [] = (l2, i, n) := hP
      rw [e] at f1 f2
      simp only at f1 f2
      subst f1
      have PAR := Aside0.mk (fun (W : World) (hb : Below w.heap.size w W) => sc_Parse_bad s W i n hP HS.out (HT.out.below hb))
      clear e hP
      go_enter Tryd.func4, Tryd.ntmps4
      go_wp2_with (first | (go_at_call 11; refine (mailcoachlaw26_great.calls s _ _ HG.out).mono ?_; rintro e w1 ⟨rfl, hz⟩; have HB := Aside0.mk (below_step HB.out hz.below); clear hz) | (go_at_call 7; refine (LIV.out _ HB.out).mono ?_; rintro e w1 ⟨rfl, hz⟩; have HB := Aside0.mk (below_step HB.out hz); clear hz) | (go_at_call 9; refine (PAR.out _ HB.out).mono ?_; rintro e w1 ⟨⟨A5, rfl, ho⟩, hz⟩; have HO := Aside0.mk ho; have HB := Aside0.mk (below_step HB.out hz); clear hz ho))
      go_ret
      exact ⟨rfl, HB.out⟩

set_option maxHeartbeats 6400000 in
set_option maxRecDepth 100000 in
theorem mailcoachlaw26_ScriptRulesBack.calls (A : Option Addr) (c : Nat) (l : List S51) (s : ByteArray) (w : World) (hr : Kd.C k51 w A l.length l) (hc : l.length ≤ c) (hl : sc_inR l) (hT : ScTab w) :
    Calls Tryd.prog 5 #[.slice A l.length c, .string s] w fun e w' => e = .returned (.bool true) ∧ Below w.heap.size w w' := by
  obtain ⟨hl0, hle⟩ := hl
  obtain ⟨r, hr1, hr2⟩ := sz_rules l 140737488355331 281474976710661 (fun x hx => ⟨(hle x hx).1, by obtain ⟨h0, h1, h2, h3, h4⟩ := (hle x hx).1; omega⟩) hl0 (by omega)
  have HR := Aside0.mk hr
  have HT := Aside0.mk hT
  have HSZ := Aside0.mk hr1
  have HC := Aside0.mk hc
  have HL := Aside0.mk hl0
  have LIV := Aside0.mk (fun (W : World) (hb : Below w.heap.size w W) => script_lives.calls W (HT.out.below hb))
  have HSM := Aside0.mk (sm_rules l 140737488355331 281474976710661 (fun x hx => ⟨(hle x hx).1, by obtain ⟨h0, h1, h2, h3, h4⟩ := (hle x hx).1; exact ⟨by omega, by omega⟩⟩) hl0 (by omega))
  have HLE := Aside0.mk hle
  have HR2 := Aside0.mk hr2
  have HB := Aside0.mk (Below.refl w.heap.size w)
  clear hr hT hr1 hc hl0 hle hr2
  by_cases hbig : 100000 < r
  · go_enter Tryd.func5, Tryd.ntmps5
    go_wp2_with (first | (go_at_call 12; refine (mailcoachlaw01_RulesSize.calls 281474976710661 A c l r _ HR.out HC.out HSZ.out).mono ?_; rintro e w1 ⟨rfl, hz⟩; have HB := Aside0.mk (below_step HB.out hz); clear hz) | (go_at_call 7; refine (LIV.out _ HB.out).mono ?_; rintro e w1 ⟨rfl, hz⟩; have HB := Aside0.mk (below_step HB.out hz); clear hz))
    go_ret
    exact ⟨rfl, HB.out⟩
  · have hbz : (100000 < r) = False := eq_false hbig
    by_cases hmany : 5000 < l.length
    · have hmz : (5000 : Int) < (l.length : Int) := by omega
      go_enter Tryd.func5, Tryd.ntmps5
      go_wp2_with (first | (go_at_call 12; refine (mailcoachlaw01_RulesSize.calls 281474976710661 A c l r _ HR.out HC.out HSZ.out).mono ?_; rintro e w1 ⟨rfl, hz⟩; have HB := Aside0.mk (below_step HB.out hz); clear hz) | (go_at_call 7; refine (LIV.out _ HB.out).mono ?_; rintro e w1 ⟨rfl, hz⟩; have HB := Aside0.mk (below_step HB.out hz); clear hz))
      go_ret
      exact ⟨rfl, HB.out⟩
    · have hmz : ((5000 : Int) < (l.length : Int)) = False := eq_false (by omega)
      have hmz2 : (5000 < l.length) = False := eq_false (by omega)
      have TXT := Aside0.mk (fun (W : World) (hb : Below w.heap.size w W) => script_RulesText.calls A c l W (Kd.C_below HR.out hb) HC.out (by omega) (fun x hx => sc_smallR_of x r (HR2.out (by omega) x hx) (by omega) (HLE.out x hx).2.2) (HT.out.below hb))
      have HFIT := Aside0.mk (sc_RulesText_fit l)
      have HBACK := Aside0.mk (sc_RulesBack l (fun x hx => (HLE.out x hx).2))
      obtain ⟨⟨o, n⟩, hTX⟩ : ∃ T, sc_RulesText l = T := ⟨_, rfl⟩
      rw [hTX] at TXT HFIT HBACK
      simp only at TXT HFIT HBACK
      clear hTX hmany hbig
      by_cases hbig2 : (s.size : Int) > 200000
      · have HG := Aside0.mk (show mailcoachlaw26_great.f s = some true by unfold mailcoachlaw26_great.f; rw [decide_eq_true hbig2])
        clear hbig2
        go_enter Tryd.func5, Tryd.ntmps5
        go_wp2_with (first | (go_at_call 12; refine (mailcoachlaw01_RulesSize.calls 281474976710661 A c l r _ HR.out HC.out HSZ.out).mono ?_; rintro e w1 ⟨rfl, hz⟩; have HB := Aside0.mk (below_step HB.out hz); clear hz) | (go_at_call 11; refine (mailcoachlaw26_great.calls s _ _ HG.out).mono ?_; rintro e w1 ⟨rfl, hz⟩; have HB := Aside0.mk (below_step HB.out hz.below); clear hz) | (go_at_call 7; refine (LIV.out _ HB.out).mono ?_; rintro e w1 ⟨rfl, hz⟩; have HB := Aside0.mk (below_step HB.out hz); clear hz))
        go_ret
        exact ⟨rfl, HB.out⟩
      · have HG := Aside0.mk (show mailcoachlaw26_great.f s = some false by unfold mailcoachlaw26_great.f; rw [decide_eq_false hbig2])
        have HS := Aside0.mk (show s.size ≤ 4294967000 by omega)
        clear hbig2
        by_cases hn : n = 0
        · subst hn
          have HPA := Aside0.mk (fun (W : World) (hb : Below w.heap.size w W) => sc_Rules_of (sc_b o) l W (HBACK.out rfl) HFIT.out (HT.out.below hb))
          obtain ⟨X, hX⟩ : ∃ X, sc_b o = X := ⟨_, rfl⟩
          rw [hX] at TXT HPA
          clear hX HFIT HBACK
          obtain ⟨⟨l2, i2, n2⟩, hP⟩ : ∃ T, sc_Rules s = T := ⟨_, rfl⟩
          by_cases hn2 : n2 = 0
          · subst hn2
            obtain ⟨rfl, f1, f2, f3⟩ := sc_Rules_fit s l2 i2 hP
            have PAR2 := Aside0.mk (fun (W : World) (hb : Below w.heap.size w W) => sc_Rules_of s l2 W hP HS.out (HT.out.below hb))
            have TXT2 := Aside0.mk (fun (W : World) (A : Option Addr) (h : Kd.C k51 W A l2.length l2) (hb : Below w.heap.size w W) => script_RulesText.calls A l2.length l2 W h (Nat.le_refl _) (by omega) f2 (HT.out.below hb))
            rw [f3] at TXT2
            have TXT2 := Aside0.mk (show ∀ (W : World) (A : Option Addr) (h : Kd.C k51 W A l2.length l2) (hb : Below w.heap.size w W), Calls Tryd.prog 13 #[.slice A l2.length l2.length] W fun e w' => e = .returned (.tuple #[.string s, .int .i64 0]) ∧ Below W.heap.size W w' from TXT2.out)
            clear f2 f3 hP
            have hss : (s.toList == s.toList) = true := by simp
            go_enter Tryd.func5, Tryd.ntmps5
            go_wp2_with (first | (go_at_call 12; refine (mailcoachlaw01_RulesSize.calls 281474976710661 A c l r _ HR.out HC.out HSZ.out).mono ?_; rintro e w1 ⟨rfl, hz⟩; have HB := Aside0.mk (below_step HB.out hz); clear hz) | (go_at_call 11; refine (mailcoachlaw26_great.calls s _ _ HG.out).mono ?_; rintro e w1 ⟨rfl, hz⟩; have HB := Aside0.mk (below_step HB.out hz.below); clear hz) | (go_at_call 7; refine (LIV.out _ HB.out).mono ?_; rintro e w1 ⟨rfl, hz⟩; have HB := Aside0.mk (below_step HB.out hz); clear hz) | (first | (go_at_call 13; with_reducible refine (TXT.out _ HB.out).mono ?_; rintro e w1 ⟨rfl, hz⟩; have HB := Aside0.mk (below_step HB.out hz); clear hz) | fail) | (first | (go_at_call 14; with_reducible refine (HPA.out _ HB.out).mono ?_; rintro e w1 ⟨⟨A4, rfl, ho⟩, hz⟩; have HO4 := Aside0.mk ho; have HB := Aside0.mk (below_step HB.out hz); clear hz ho) | fail) | (go_at_call 15; refine (mailcoachlaw01_SameRules.calls 281474976710661 A4 l.length l A c l true _ HO4.out (Nat.le_refl _) (Kd.C_below HR.out HB.out) HC.out HSM.out).mono ?_; rintro e w1 ⟨rfl, hz⟩; have HB := Aside0.mk (below_step HB.out hz); clear hz) | (go_at_call 14; with_reducible refine (PAR2.out _ HB.out).mono ?_; rintro e w1 ⟨⟨A5, rfl, ho⟩, hz⟩; have HO := Aside0.mk ho; have HB := Aside0.mk (below_step HB.out hz); clear hz ho) | (go_at_call 13; with_reducible refine (TXT2.out _ A5 HO.out HB.out).mono ?_; rintro e w1 ⟨rfl, hz⟩; have HB := Aside0.mk (below_step HB.out hz); clear hz))
            go_ret
            exact ⟨rfl, HB.out⟩
          · have hn20 : (n2 == 0) = false := by simp [hn2]
            have hn21 : (n2 != 0) = true := by simp [hn2]
            obtain ⟨f1, f2⟩ := sc_parse_bad tk_rule (sc_split 10 s.data.toList) 0 [] (by show (sc_Rules s).2.2 ≠ 0; rw [hP]; exact hn2)
            have e : sc_parse tk_rule (sc_split 10 s.data.toList) 0 [] = (l2, i2, n2) := hP
            rw [e] at f1 f2
            simp only at f1 f2
            subst f1
            have PAR2 := Aside0.mk (fun (W : World) (hb : Below w.heap.size w W) => sc_Rules_bad s W i2 n2 hP HS.out (HT.out.below hb))
            clear e hP
            go_enter Tryd.func5, Tryd.ntmps5
            go_wp2_with (first | (go_at_call 12; refine (mailcoachlaw01_RulesSize.calls 281474976710661 A c l r _ HR.out HC.out HSZ.out).mono ?_; rintro e w1 ⟨rfl, hz⟩; have HB := Aside0.mk (below_step HB.out hz); clear hz) | (go_at_call 11; refine (mailcoachlaw26_great.calls s _ _ HG.out).mono ?_; rintro e w1 ⟨rfl, hz⟩; have HB := Aside0.mk (below_step HB.out hz.below); clear hz) | (go_at_call 7; refine (LIV.out _ HB.out).mono ?_; rintro e w1 ⟨rfl, hz⟩; have HB := Aside0.mk (below_step HB.out hz); clear hz) | (first | (go_at_call 13; with_reducible refine (TXT.out _ HB.out).mono ?_; rintro e w1 ⟨rfl, hz⟩; have HB := Aside0.mk (below_step HB.out hz); clear hz) | fail) | (first | (go_at_call 14; with_reducible refine (HPA.out _ HB.out).mono ?_; rintro e w1 ⟨⟨A4, rfl, ho⟩, hz⟩; have HO4 := Aside0.mk ho; have HB := Aside0.mk (below_step HB.out hz); clear hz ho) | fail) | (go_at_call 15; refine (mailcoachlaw01_SameRules.calls 281474976710661 A4 l.length l A c l true _ HO4.out (Nat.le_refl _) (Kd.C_below HR.out HB.out) HC.out HSM.out).mono ?_; rintro e w1 ⟨rfl, hz⟩; have HB := Aside0.mk (below_step HB.out hz); clear hz) | (go_at_call 14; with_reducible refine (PAR2.out _ HB.out).mono ?_; rintro e w1 ⟨⟨A5, rfl, ho⟩, hz⟩; have HO := Aside0.mk ho; have HB := Aside0.mk (below_step HB.out hz); clear hz ho))
            go_ret
            exact ⟨rfl, HB.out⟩
        · have hn0 : (n == 0) = false := by simp [hn]
          have hn1 : (n != 0) = true := by simp [hn]
          clear HFIT HBACK
          obtain ⟨X, hX⟩ : ∃ X, sc_b o = X := ⟨_, rfl⟩
          rw [hX] at TXT
          clear hX
          obtain ⟨⟨l2, i2, n2⟩, hP⟩ : ∃ T, sc_Rules s = T := ⟨_, rfl⟩
          by_cases hn2 : n2 = 0
          · subst hn2
            obtain ⟨rfl, f1, f2, f3⟩ := sc_Rules_fit s l2 i2 hP
            have PAR2 := Aside0.mk (fun (W : World) (hb : Below w.heap.size w W) => sc_Rules_of s l2 W hP HS.out (HT.out.below hb))
            have TXT2 := Aside0.mk (fun (W : World) (A : Option Addr) (h : Kd.C k51 W A l2.length l2) (hb : Below w.heap.size w W) => script_RulesText.calls A l2.length l2 W h (Nat.le_refl _) (by omega) f2 (HT.out.below hb))
            rw [f3] at TXT2
            have TXT2 := Aside0.mk (show ∀ (W : World) (A : Option Addr) (h : Kd.C k51 W A l2.length l2) (hb : Below w.heap.size w W), Calls Tryd.prog 13 #[.slice A l2.length l2.length] W fun e w' => e = .returned (.tuple #[.string s, .int .i64 0]) ∧ Below W.heap.size W w' from TXT2.out)
            clear f2 f3 hP
            have hss : (s.toList == s.toList) = true := by simp
            go_enter Tryd.func5, Tryd.ntmps5
            go_wp2_with (first | (go_at_call 12; refine (mailcoachlaw01_RulesSize.calls 281474976710661 A c l r _ HR.out HC.out HSZ.out).mono ?_; rintro e w1 ⟨rfl, hz⟩; have HB := Aside0.mk (below_step HB.out hz); clear hz) | (go_at_call 11; refine (mailcoachlaw26_great.calls s _ _ HG.out).mono ?_; rintro e w1 ⟨rfl, hz⟩; have HB := Aside0.mk (below_step HB.out hz.below); clear hz) | (go_at_call 7; refine (LIV.out _ HB.out).mono ?_; rintro e w1 ⟨rfl, hz⟩; have HB := Aside0.mk (below_step HB.out hz); clear hz) | (go_at_call 13; with_reducible refine (TXT.out _ HB.out).mono ?_; rintro e w1 ⟨rfl, hz⟩; have HB := Aside0.mk (below_step HB.out hz); clear hz) | (go_at_call 14; with_reducible refine (PAR2.out _ HB.out).mono ?_; rintro e w1 ⟨⟨A5, rfl, ho⟩, hz⟩; have HO := Aside0.mk ho; have HB := Aside0.mk (below_step HB.out hz); clear hz ho) | (go_at_call 13; with_reducible refine (TXT2.out _ A5 HO.out HB.out).mono ?_; rintro e w1 ⟨rfl, hz⟩; have HB := Aside0.mk (below_step HB.out hz); clear hz))
            go_ret
            exact ⟨rfl, HB.out⟩
          · have hn20 : (n2 == 0) = false := by simp [hn2]
            have hn21 : (n2 != 0) = true := by simp [hn2]
            obtain ⟨f1, f2⟩ := sc_parse_bad tk_rule (sc_split 10 s.data.toList) 0 [] (by show (sc_Rules s).2.2 ≠ 0; rw [hP]; exact hn2)
            have e : sc_parse tk_rule (sc_split 10 s.data.toList) 0 [] = (l2, i2, n2) := hP
            rw [e] at f1 f2
            simp only at f1 f2
            subst f1
            have PAR2 := Aside0.mk (fun (W : World) (hb : Below w.heap.size w W) => sc_Rules_bad s W i2 n2 hP HS.out (HT.out.below hb))
            clear e hP
            go_enter Tryd.func5, Tryd.ntmps5
            go_wp2_with (first | (go_at_call 12; refine (mailcoachlaw01_RulesSize.calls 281474976710661 A c l r _ HR.out HC.out HSZ.out).mono ?_; rintro e w1 ⟨rfl, hz⟩; have HB := Aside0.mk (below_step HB.out hz); clear hz) | (go_at_call 11; refine (mailcoachlaw26_great.calls s _ _ HG.out).mono ?_; rintro e w1 ⟨rfl, hz⟩; have HB := Aside0.mk (below_step HB.out hz.below); clear hz) | (go_at_call 7; refine (LIV.out _ HB.out).mono ?_; rintro e w1 ⟨rfl, hz⟩; have HB := Aside0.mk (below_step HB.out hz); clear hz) | (go_at_call 13; with_reducible refine (TXT.out _ HB.out).mono ?_; rintro e w1 ⟨rfl, hz⟩; have HB := Aside0.mk (below_step HB.out hz); clear hz) | (go_at_call 14; with_reducible refine (PAR2.out _ HB.out).mono ?_; rintro e w1 ⟨⟨A5, rfl, ho⟩, hz⟩; have HO := Aside0.mk ho; have HB := Aside0.mk (below_step HB.out hz); clear hz ho))
            go_ret
            exact ⟨rfl, HB.out⟩
end Go.Proofs.YtegmbihjjhhpmaaDoor.T
