/- A part of the walk of the laws of layer 22 (message): contracts of functions of the program, each walked once. -/
import Derived.Test.YtcgbpallpnaclaaDoorXO1
import Derived.RangeFuncNested
import Derived.RangeFuncBound
import Derived.RangeFuncCalls
import Derived.RangeFuncLeaves
import Derived.RangeFuncBox
import Derived.OwnWalkIn
import Derived.TacticsInMore
import Derived.LoopNIn
import Derived.LoopIn
import Derived.Deep.DeepMust
import Derived.LoopN
import Derived.Laws.BitsAllLaws
import Derived.Maps.OwnIn
import Derived.Maps.Own
import Derived.Maps.OwnSet
import Derived.Maps.OwnOps
import Derived.Shelf.Abstract
import Derived.Sort.CutIn
import Derived.Shelf.RegionOpen
import Derived.StillTailTactics
import Derived.Outline
import Derived.Deep.RegionHeld3
import Derived.Laws.StructEq
import Derived.Laws.RangeAny
import Derived.Laws.EntriesVeiled
import Derived.WalkSpells
import Derived.Lib.SlBytesConst
import Derived.Deep.RegionLaw
import Derived.Deep.RegionWith
import Derived.ArgAppend
import Derived.Shelf.Strings.SlTrimAscii
import Derived.Shelf.Strings.IndexAnyAll
import Derived.Test.YtcgbpallpnaclaaDoorSh
import Derived.Test.YtcgbpallpnaclaaDoorWEqStruct
namespace Go.Proofs.YtcgbpallpnaclaaDoor.T
open Go.RowKit Go.Proofs.YtcgbpallpnaclaaDoorW.PrintWords Go.Proofs.YtcgbpallpnaclaaDoorW.PrintLast Go.Proofs.YtcgbpallpnaclaaDoorW.PrintMore
open Go.Proofs.YtcgbpallpnaclaaDoor.PMG
set_option linter.unusedVariables false
set_option linter.unusedSimpArgs false
/-! ### mailcoachlaw22.MessageOrder -/
theorem ord_fld (W : World) (A B C : Option Addr) (n c m d k e : Nat) : (Instr.field 32 (.agg #[.slice A n c, .slice B m d, .slice C k e]) 0).run Tryd.prog W = .ok (.slice A n c) W := by
  have hag := Tryd.isAgg22
  have hsz := Tryd.sizeOf22
  simp [Instr.field, run_underlying Tryd.underlying32, asAgg, part, Sem.run_bind, hag, hsz]
def fldR (x : S45) (cs : List Value) : Prop := cs = [.string x.f0, .string x.f1]
theorem fldR_of {w : World} {A : Option Addr} {xs : List S45} {m : Nat} (h : ReadsRow (k45.K w) k45.sz w A m xs) : ReadsRow fldR k45.sz w A m xs := by
  refine ⟨h.1, h.2.1, fun hp => ?_⟩
  obtain ⟨ad, e, hc⟩ := h.2.2 hp
  refine ⟨ad, e, fun j p hj => ?_⟩
  obtain ⟨cs, hl, hk, hcells⟩ := hc j p hj
  exact ⟨cs, hl, k45_open hk, hcells⟩
theorem ord_take {w : World} {A : Option Addr} {xs : List S45} {m : Nat} (h : Kd.C k45 w A xs.length xs) (hm : m ≤ xs.length) : ReadsRow fldR k45.sz w A m (xs.take m) := by
  have h1 := Kd.C_take h hm
  have hl : (xs.take m).length = m := by rw [List.length_take]; omega
  rw [hl] at h1
  exact fldR_of h1
theorem ord_drop {w : World} {A : Option Addr} {xs : List S45} {m c : Nat} (h : Kd.C k45 w A xs.length xs) (hm : m ≤ xs.length) (hc : xs.length ≤ c) : ReadsRow fldR k45.sz w (if c = m then A else A.map (·.add (m * 2))) (xs.length - m) (xs.drop m) := by
  have h1 := Kd.C_drop h hm hc
  rw [List.length_drop] at h1
  exact fldR_of h1
theorem fldR_M (w : World) (base : Nat) (ok : Nat → Prop) : ∀ (x : S45) cs, fldR x cs → k45.M w base ok x cs := by
  intro x cs h
  obtain rfl := h
  exact k45_mkM _ _ _ x
theorem keep_row {w w1 : World} {base : Nat} {ok : Nat → Prop} {v : Value} {xs : List S45} {u : Option Nat} (h : Kd.R k45 45 w base ok v xs) (hg : w.grownBy w1 u) (hne : ∀ k, v.ownBlock = some k → some k ≠ u) : Kd.R k45 45 w1 base ok v xs :=
  Kd.R_mono (Kd.R_grown (field_ok h (ok' := fun k => some k ≠ u ∧ ok k) (fun k hk => ⟨hne k hk, h.1 k hk⟩)) hg (fun k hk => hk.1)) (fun k hk => hk.2)
theorem row_form {w : World} {base : Nat} {ok : Nat → Prop} {v : Value} {xs : List S45} (h : Kd.R k45 45 w base ok v xs) : ∃ B n c, v = .slice B n c := by
  obtain ⟨B, c, rfl⟩ := Kd.R_slice h
  exact ⟨B, _, c, rfl⟩
theorem row_lt {w : World} {base : Nat} {ok : Nat → Prop} {v : Value} {xs : List S45} (h : Kd.R k45 45 w base ok v xs) (k : Nat) (hk : v.ownBlock = some k) : k < w.heap.size := by
  obtain ⟨inner, ho⟩ := Kd.R_own h
  exact own_lt ho k hk
theorem row_ne {w : World} {base : Nat} {ok : Nat → Prop} {v u u' : Value} {xs : List S45} (h : Kd.R k45 45 w base ok v xs) (hn : ∀ k, v.ownBlock = some k → some k ≠ u.ownBlock) (hat : u'.ownBlock = u.ownBlock ∨ ∃ b, u'.ownBlock = some b ∧ w.heap.size ≤ b) : ∀ k, v.ownBlock = some k → some k ≠ u'.ownBlock := by
  intro k hk
  rcases hat with hat | ⟨b, hb, hle⟩
  · rw [hat]; exact hn k hk
  · rw [hb]
    intro he
    injection he with he
    have := row_lt h k hk
    omega
theorem ord_wrap (k : Nat) (hk : k ≤ 1000) : IntKind.i64.wrap ((k : Int) + 1) = (k : Int) + 1 := by
  simp [IntKind.wrap, IntKind.bits, IntKind.signed]
  omega
theorem ord_cut (W : World) (A : Option Addr) (n c k : Nat) : (Result.ok (Value.slice (if c = ((k : Int) + 1).toNat then A else A.map (·.add (((k : Int) + 1).toNat * 2))) (n - ((k : Int) + 1).toNat) (c - ((k : Int) + 1).toNat)) W : Result Value) = .ok (.slice (if c = k + 1 then A else A.map (·.add ((k + 1) * 2))) (n - (k + 1)) (c - (k + 1))) W := by
  rw [show ((k : Int) + 1).toNat = k + 1 by omega]
theorem ml_empty0 {α : Type} (d : Kd α) (w : World) : Kd.C d w none ([] : List α).length [] := ⟨rfl, by simp, fun h => by simp at h⟩
def u8at (a b c d i : Nat) : Nat := [a, b, c, d].getD i 0
theorem u8at_le {a b c d : Nat} (ha : a ≤ 255) (hb : b ≤ 255) (hc : c ≤ 255) (hd : d ≤ 255) (i : Nat) : u8at a b c d i ≤ 255 := by
  unfold u8at
  match i with
  | 0 => exact ha
  | 1 => exact hb
  | 2 => exact hc
  | 3 => exact hd
  | _ + 4 => exact Nat.zero_le _
theorem u8at_cell (a b c d i : Nat) (hi : i < 4) : (#[Value.int .u8 (a : Int), .int .u8 (b : Int), .int .u8 (c : Int), .int .u8 (d : Int)] : Array Value)[i]? = some (.int .u8 (u8at a b c d i : Nat)) := by
  unfold u8at
  match i, hi with
  | 0, _ => rfl
  | 1, _ => rfl
  | 2, _ => rfl
  | 3, _ => rfl
set_option maxHeartbeats 6400000 in
set_option maxRecDepth 100000 in
theorem mailcoachlaw22_MessageOrder.calls (o0 o1 o2 o3 : Nat) (at_ twice : Nat) (w : World) (ho0 : o0 ≤ 255) (ho1 : o1 ≤ 255) (ho2 : o2 ≤ 255) (ho3 : o3 ≤ 255) (hat : at_ ≤ 255) (htw : twice ≤ 255) (hT : MsgTab w) :
    Calls Tryd.prog 6 #[.agg #[.int .u8 o0, .int .u8 o1, .int .u8 o2, .int .u8 o3], .int .u8 at_, .int .u8 twice] w fun e w' => e = .returned (.bool true) ∧ Below w.heap.size w w' := by
  have HT := Aside0.mk hT
  clear hT
  have hfl := ord_fld
  go_enter Tryd.func6, Tryd.ntmps6
  go_wp2_with (first | (go_at_call 18; obtain ⟨wo, hwo⟩ : ∃ z, w.alloc (.cells #[.int .u8 o0, .int .u8 o1, .int .u8 o2, .int .u8 o3] 50) = z := ⟨_, rfl⟩; rw [hwo]; refine (mailcoachlaw22_Get.calls ord_path (lv_get ord_path) [] [] _ rfl).mono ?_; rintro e w1 ⟨u0, u1, u2, rfl, hq0, hq1, hq2, hb⟩; obtain ⟨A1, c1, rfl⟩ := Kd.R_slice hq0; obtain ⟨A2, c2, rfl⟩ := Kd.R_slice hq1; obtain ⟨A3, c3, rfl⟩ := Kd.R_slice hq2; have HO1 := Aside0.mk (Kd.R_mono hq0 (ok' := fun _ => True) (fun _ _ => trivial)); have HB1 := Aside0.mk hb; clear hb hq0 hq1 hq2) | (((with_reducible refine gate_builtin (b := .append) (xs := #[.tmp 14, .tmp 16]) rfl ?_); (try (refine gate_guard (by rfl) ?_; dsimp only)); at_builtin; go_must (refine Kd.R_append k45 (w0 := wo) wo.heap.size rfl (.tmp 14) (.tmp 16) 22 45 (.agg #[(.string ⟨#[]⟩), (.string ⟨#[]⟩)]) 32 rfl Tryd.underlying22 info45 rfl (by decide) (by omega) _ (lv_get ord_path) ord_a [.string ord_a.f0, .string ord_a.f1] (fun _ => True) (fun _ => False) rfl (by rfl) ?aP (fun _ hk => hk.elim) (fun _ _ => trivial) HO1.out HB1.out (Below.size HB1.out) (by decide) ?_; (case aP => exact k45_mkM _ _ _ ord_a); intro v1 w2 ho hb hg hat; have HO2 := Aside0.mk ho; have HB2 := Aside0.mk hb; clear ho hb hg hat))))
  have BKw := Aside0.mk (show wo.heap[w.heap.size]? = some (.cells #[.int .u8 o0, .int .u8 o1, .int .u8 o2, .int .u8 o3] 50 (0, 0)) by rw [← hwo]; exact tok_block _ _ _)
  have HBw := Aside0.mk (show Below w.heap.size w wo by rw [← hwo]; exact below_alloc (Below.refl _ _) _)
  clear hwo
  obtain ⟨i0, hii, hzz⟩ := Option.map_eq_some_iff.1 info45
  simp only [Prod.mk.injEq] at hzz
  obtain ⟨_z0, hz1, _z2⟩ := hzz
  go_loopw [7, 8, 9] (fun v7 v8 v9 wr => ∃ (i : Nat) (L A : List S45), i ≤ 4 ∧ v9 = .int .i64 i ∧ OrdSt i L A ∧ Aside0 (Kd.R k45 45 wr wo.heap.size (fun _ => True) v7 A) ∧ Aside0 (Kd.R k45 45 wr wo.heap.size (fun _ => True) v8 L) ∧ Aside0 (∀ k, v8.ownBlock = some k → some k ≠ v7.ownBlock) ∧ Aside0 (Below wo.heap.size wo wr)) (fun _ _ v9 _ => 4 - (intOf v9).toNat)
  case atStart => exact ⟨0, [], _, by omega, rfl, ⟨rfl, rfl⟩, HO2, ⟨Kd.R_nil _ _ _ _ _⟩, ⟨fun k hk => by cases hk⟩, HB2⟩
  case round =>
    obtain ⟨i, L, A, hi, rfl, HS, HA, HL, HN, HB⟩ := hrel
    obtain ⟨B1, d1, rfl⟩ := Kd.R_slice HA.out
    obtain ⟨B2, d2, rfl⟩ := Kd.R_slice HL.out
    have HLn := Aside0.mk (OrdSt.len i L A HS)
    by_cases hi4 : i < 4
    · have hob := u8at_le ho0 ho1 ho2 ho3 i
      have hcell : wr.cell? ⟨w.heap.size, i, none⟩ = some (.int .u8 (u8at o0 o1 o2 o3 i : Nat)) := (blk_cell (blk_below BKw.out HB.out) i).trans (u8at_cell o0 o1 o2 o3 i hi4)
      generalize u8at o0 o1 o2 o3 i = o at hob hcell
      obtain ⟨k, hkk⟩ : ∃ k : Nat, k = o % A.length := ⟨_, rfl⟩
      have hkA : k < A.length := by rw [hkk]; exact Nat.mod_lt _ (by have := HLn.out; omega)
      have hmod2 : (o : Int) % (A.length : Int) = (k : Int) := by rw [hkk]; rfl
      have hmod : Int.tmod (o : Int) (A.length : Int) = (k : Int) := by rw [hkk]; exact Int.ofNat_tmod o A.length
      clear hkk
      have HK := Aside0.mk (show k ≤ A.length by omega)
      have HCA := Aside0.mk (Kd.R_reads' HA.out).2.2
      have hd1 : A.length ≤ d1 := (Kd.R_reads' HA.out).2.1
      have hA4 : A.length ≤ 4 := by have := HLn.out; omega
      have hL4 : L.length ≤ 4 := by have := HLn.out; omega
      obtain ⟨ad1, e1, hx1, hy1⟩ := at_T45 HCA.out k (by omega) (by omega)
      cases e1
      simp only [Int.toNat_natCast] at hx1 hy1
      have hwr : IntKind.i64.wrap ((k : Int) + 1) = (k : Int) + 1 := ord_wrap k (by omega)
      have hcut1 := cut_to (P := Tryd.prog) 22 45 .i64 (i := i0) Tryd.underlying22 hii (some ad1) A.length d1 k (by omega) (by omega) hd1
      simp only [Int.toNat_natCast] at hcut1
      have hcut2 := cut_from (P := Tryd.prog) 22 45 .i64 (i := i0) Tryd.underlying22 hii 2 hz1 (some ad1) A.length d1 ((k : Int) + 1) (by omega) (by omega)
      have hcut2 := fun W => (hcut2 W).trans (ord_cut W (some ad1) A.length d1 k)
      have hAd : ∀ W : World, Kd.C k45 W (some ad1) A.length A → ReadsRow fldR k45.sz W (if d1 = k + 1 then some ad1 else some (ad1.add ((k + 1) * 2))) (A.length - (k + 1)) (A.drop (k + 1)) := fun W h => ord_drop h (by omega) hd1
      clear hcut2
      go_wp2_with (first | (((with_reducible refine gate_builtin (b := .append) (xs := #[.tmp 29, .tmp 34]) rfl ?_); (try (refine gate_guard (by rfl) ?_; dsimp only)); at_builtin; go_must (refine Kd.R_append k45 (w0 := wo) wo.heap.size rfl (.tmp 29) (.tmp 34) 22 45 (.agg #[(.string ⟨#[]⟩), (.string ⟨#[]⟩)]) 32 rfl Tryd.underlying22 info45 rfl (by decide) (by omega) (.slice B2 L.length d2) L (rd_T45 A k) [.string (rd_T45 A k).f0, .string (rd_T45 A k).f1] (fun _ => True) (fun _ => False) rfl (by rfl) ?aP (fun _ hk => hk.elim) (fun _ _ => trivial) HL.out HB.out (Below.size HB.out) (by omega) ?_; (case aP => exact k45_mkM _ _ _ (rd_T45 A k)); intro v1 w2 ho hb hg hat; have HL2 := Aside0.mk ho; have HB2 := Aside0.mk hb; have HA2 := Aside0.mk (keep_row HA.out hg (fun k hk h => HN.out k h.symm hk.symm)); clear ho hb hg hat))))
      go_region_law (first | ((fail_if_success (have hx_ := HV3)); refine Kd.R_append_rows_step k45 (Rr := fldR) (w0 := wo) wo.heap.size rfl (.const (.slice none 0 0)) (.tmp 38) 22 45 (.agg #[(.string ⟨#[]⟩), (.string ⟨#[]⟩)]) 32 rfl Tryd.underlying22 info45 rfl (by decide) (by omega) (.slice none 0 0) [] (A.take k) (some ad1) k d1 (fun _ => True) (fun _ => False) rfl rfl ?aO ?aR (fldR_M _ _ _) (fun _ hk => hk.elim) (fun _ _ => trivial) ?aB ?aS ?aL ?_; (case aO => exact (Kd.R_nil _ _ _ _ _)); (case aR => exact (ord_take (Kd.R_reads' (d := k45) (e := 45) (by (with_reducible repeat (first | apply Kd.R_alloc | apply Kd.R_drewN | apply Kd.R_drew)); exact HA2.out)).2.2 HK.out)); (case aB => exact (by repeat (first | (with_reducible first | exact HB2.out | apply below_alloc | apply pw_below_drewN | apply below_drew1) | exact HB2.out))); (case aS => exact (below_size (by repeat (first | (with_reducible first | exact HB2.out | apply below_alloc | apply pw_below_drewN | apply below_drew1) | exact HB2.out)))); (case aL => (simp; omega)); intro v3 w3 ho hb hg hat; have HA3 := Aside0.mk (keep_row (by (with_reducible repeat (first | apply Kd.R_alloc | apply Kd.R_drewN | apply Kd.R_drew)); exact HA2.out) hg (fun k _ h => by cases h)); have HL3 := Aside0.mk (keep_row (by (with_reducible repeat (first | apply Kd.R_alloc | apply Kd.R_drewN | apply Kd.R_drew)); exact HL2.out) hg (fun k _ h => by cases h)); have HN3 := Aside0.mk (row_ne (u := .slice none 0 0) (by (with_reducible repeat (first | apply Kd.R_alloc | apply Kd.R_drewN | apply Kd.R_drew)); exact HL2.out) (fun k _ h => by cases h) hat); have HV3 := Aside0.mk ho; have HB3 := Aside0.mk hb; clear ho hb hg hat) | (have hx_ := HV3; clear hx_; refine Kd.R_append_rows_step k45 (Rr := fldR) (w0 := wo) wo.heap.size rfl (.tmp 39) (.tmp 43) 22 45 (.agg #[(.string ⟨#[]⟩), (.string ⟨#[]⟩)]) 32 rfl Tryd.underlying22 info45 rfl (by decide) (by omega) v3 (A.take k) (A.drop (k + 1)) (if d1 = k + 1 then some ad1 else some (ad1.add ((k + 1) * 2))) (A.length - (k + 1)) (d1 - (k + 1)) (fun _ => True) (fun _ => False) rfl rfl ?aO ?aR (fldR_M _ _ _) (fun _ hk => hk.elim) (fun _ _ => trivial) ?aB ?aS ?aL ?_; (case aO => exact (by (with_reducible repeat (first | apply Kd.R_alloc | apply Kd.R_drewN | apply Kd.R_drew)); exact HV3.out)); (case aR => exact (hAd _ (Kd.R_reads' (d := k45) (e := 45) (by (with_reducible repeat (first | apply Kd.R_alloc | apply Kd.R_drewN | apply Kd.R_drew)); exact HA3.out)).2.2)); (case aB => exact (by repeat (first | (with_reducible first | exact HB3.out | apply below_alloc | apply pw_below_drewN | apply below_drew1) | exact HB3.out))); (case aS => exact (below_size (by repeat (first | (with_reducible first | exact HB3.out | apply below_alloc | apply pw_below_drewN | apply below_drew1) | exact HB3.out)))); (case aL => (rw [List.length_take]; omega)); intro v4 w4 ho hb hg hat; have HL4 := Aside0.mk (keep_row (by (with_reducible repeat (first | apply Kd.R_alloc | apply Kd.R_drewN | apply Kd.R_drew)); exact HL3.out) hg HN3.out); have HN4 := Aside0.mk (row_ne (by (with_reducible repeat (first | apply Kd.R_alloc | apply Kd.R_drewN | apply Kd.R_drew)); exact HL3.out) HN3.out hat); have HV4 := Aside0.mk ho; have HB4 := Aside0.mk hb; clear ho hb hg hat))
      go_wp2
      exact ⟨⟨i + 1, _, _, by omega, by go_num, ⟨L, A, k, HS, hkA, rfl, rfl⟩, HV4, HL4, HN4, HB4⟩, by simp [intOf]; omega⟩
    · obtain rfl : i = 4 := by omega
      have HW := Aside0.mk (OrdSt.says HS)
      have HL4 := Aside0.mk (show L.length = 4 from HLn.out.1)
      clear HS HLn HN HA
      obtain ⟨q, hqq⟩ : ∃ q : Nat, q = at_ % 5 := ⟨_, rfl⟩
      have HQ5 := Aside0.mk (show q < 5 by rw [hqq]; exact Nat.mod_lt _ (by omega))
      have hq1 : (at_ : Int) % 5 = (q : Int) := by rw [hqq]; rfl
      have hq2 : Int.tmod (at_ : Int) 5 = (q : Int) := by rw [hqq]; exact Int.ofNat_tmod at_ 5
      obtain ⟨t, htt⟩ : ∃ t : Nat, t = twice % 4 := ⟨_, rfl⟩
      have HT4 := Aside0.mk (show t < 4 by rw [htt]; exact Nat.mod_lt _ (by omega))
      have ht1 : (twice : Int) % 4 = (t : Int) := by rw [htt]; rfl
      have ht2 : Int.tmod (twice : Int) 4 = (t : Int) := by rw [htt]; exact Int.ofNat_tmod twice 4
      have hq4 : decide ((q : Int) = 4) = decide (q = 4) := by by_cases h : q = 4 <;> simp [h] <;> omega
      clear hqq htt
      have hqL : q ≤ L.length := by have := HL4.out; have := HQ5.out; omega
      have htL : t < L.length := by have := HL4.out; have := HT4.out; omega
      have HQL := Aside0.mk hqL
      have hd2 : L.length ≤ d2 := (Kd.R_reads' HL.out).2.1
      have hLs : L.length ≤ 4 := by have := HL4.out; omega
      obtain ⟨ad2, e1, _, _⟩ := at_T45 (Kd.R_reads' HL.out).2.2 t (by omega) (by omega)
      cases e1
      have hcut1 := cut_to (P := Tryd.prog) 22 45 .i64 (i := i0) Tryd.underlying22 hii (some ad2) L.length d2 q (by omega) (by omega) hd2
      simp only [Int.toNat_natCast] at hcut1
      have hcut2 := cut_from (P := Tryd.prog) 22 45 .i64 (i := i0) Tryd.underlying22 hii 2 hz1 (some ad2) L.length d2 (q : Int) (by omega) (by omega)
      simp only [Int.toNat_natCast] at hcut2
      have hAd : ∀ W : World, Kd.C k45 W (some ad2) L.length L → ReadsRow fldR k45.sz W (if d2 = q then some ad2 else (some ad2).map (·.add (q * 2))) (L.length - q) (L.drop q) := fun W h => ord_drop h (by omega) hd2
      obtain ⟨Ad2, hAe⟩ : ∃ z, (if d2 = q then some ad2 else (some ad2).map (·.add (q * 2))) = z := ⟨_, rfl⟩
      simp only [hAe] at hcut2 hAd
      clear hAe
      have hrq : ∀ (X : List S45) (r : Int), message_Request.f X [] [] = some r → X.length ≤ 10 → ∀ (W : World) (v : Value), Kd.R k45 45 W wo.heap.size (fun _ => True) v X → Below wo.heap.size wo W → Calls Tryd.prog 15 #[.agg #[v, .slice none 0 0, .slice none 0 0]] W fun e w' => e = .returned (.int .i64 r) ∧ Below W.heap.size W w' := by
        intro X r hr hX W v hv hB
        obtain ⟨B, d, rfl⟩ := Kd.R_slice hv
        exact message_Request.calls B d X none 0 [] none 0 [] r W (Kd.R_reads' hv).2.2 (Kd.R_reads' hv).2.1 (ml_empty0 _ _) (Nat.zero_le _) (ml_empty0 _ _) (Nat.zero_le _) ((HT.out.below HBw.out).below hB) hr
      have HRQ := Aside0.mk hrq
      clear hrq
      by_cases h4 : q = 4
      · have H4 := Aside0.mk h4
        have HTW := Aside0.mk (show message_Request.f ((L.take q ++ [ord_x]) ++ L.drop q) [] [] = some 0 by rw [HW.out.two q HQ5.out, if_pos h4])
        clear h4
        go_wp2_with (first
          | (go_at_call 15; (with_reducible refine (HRQ.out L 0 HW.out.one (by omega) _ (.slice (some ad2) L.length d2) HL.out HB.out).mono ?_); rintro e w5 ⟨rfl, hb⟩; have HB5 := Aside0.mk (below_step HB.out hb); have HL5 := Aside0.mk (Kd.R_below HL.out hb); clear hb)
          | (((with_reducible refine gate_builtin (b := .append) (xs := #[.const (.slice none 0 0), .tmp 54]) rfl ?_); (try (refine gate_guard (by rfl) ?_; dsimp only)); at_builtin; go_must (refine Kd.R_append_rows k45 (Rr := fldR) (w0 := wo) wo.heap.size rfl (.const (.slice none 0 0)) (.tmp 54) 22 45 (.agg #[(.string ⟨#[]⟩), (.string ⟨#[]⟩)]) 32 rfl Tryd.underlying22 info45 rfl (by decide) (by omega) (.slice none 0 0) [] (L.take q) (some ad2) q d2 (fun _ => True) (fun _ => False) rfl rfl (Kd.R_nil _ _ _ _ _) (ord_take (Kd.R_reads' HL5.out).2.2 HQL.out) (fldR_M _ _ _) (fun _ hk => hk.elim) (fun _ _ => trivial) HB5.out (Below.size HB5.out) (by simp; omega) ?_; intro v6 w6 ho hb hg hat; have HN6 := Aside0.mk (row_ne (u := .slice none 0 0) HL5.out (fun k _ h => by cases h) hat); have HL6 := Aside0.mk (keep_row HL5.out hg (fun k _ h => by cases h)); have HV6 := Aside0.mk ho; have HB6 := Aside0.mk hb; clear ho hb hg hat)))
          | (((with_reducible refine gate_builtin (b := .append) (xs := #[.tmp 55, .tmp 57]) rfl ?_); (try (refine gate_guard (by rfl) ?_; dsimp only)); at_builtin; go_must (refine Kd.R_append k45 (w0 := wo) wo.heap.size rfl (.tmp 55) (.tmp 57) 22 45 (.agg #[(.string ⟨#[]⟩), (.string ⟨#[]⟩)]) 32 rfl Tryd.underlying22 info45 rfl (by decide) (by omega) v6 (L.take q) ord_x [.string ord_x.f0, .string ord_x.f1] (fun _ => True) (fun _ => False) rfl (by rfl) ?aP (fun _ hk => hk.elim) (fun _ _ => trivial) HV6.out HB6.out (Below.size HB6.out) (by rw [List.length_take]; omega) ?_; (case aP => exact k45_mkM _ _ _ ord_x); intro v7 w7 ho hb hg hat; have HN7 := Aside0.mk (row_ne HL6.out HN6.out hat); have HL7 := Aside0.mk (keep_row HL6.out hg HN6.out); have HV7 := Aside0.mk ho; have HB7 := Aside0.mk hb; clear ho hb hg hat)))
          | (((with_reducible refine gate_builtin (b := .append) (xs := #[.tmp 59, .tmp 62]) rfl ?_); (try (refine gate_guard (by rfl) ?_; dsimp only)); at_builtin; go_must (refine Kd.R_append_rows k45 (Rr := fldR) (w0 := wo) wo.heap.size rfl (.tmp 59) (.tmp 62) 22 45 (.agg #[(.string ⟨#[]⟩), (.string ⟨#[]⟩)]) 32 rfl Tryd.underlying22 info45 rfl (by decide) (by omega) v7 (L.take q ++ [ord_x]) (L.drop q) Ad2 (L.length - q) (d2 - q) (fun _ => True) (fun _ => False) rfl rfl HV7.out (hAd _ (Kd.R_reads' HL7.out).2.2) (fldR_M _ _ _) (fun _ hk => hk.elim) (fun _ _ => trivial) HB7.out (Below.size HB7.out) (by simp; omega) ?_; intro v8 w8 ho hb hg hat; have HL8 := Aside0.mk (keep_row HL7.out hg HN7.out); obtain ⟨B8, n8, d8, rfl⟩ := row_form ho; have HV8 := Aside0.mk ho; have HB8 := Aside0.mk hb; clear ho hb hg hat)))
          | (go_at_call 15; (with_reducible refine (HRQ.out _ 0 HTW.out (by simp; omega) _ (.slice B8 n8 d8) HV8.out HB8.out).mono ?_); rintro e w9 ⟨rfl, hb⟩; have HB9 := Aside0.mk (below_step HB8.out hb); have HL9 := Aside0.mk (Kd.R_below HL8.out hb); obtain ⟨ad9, e9, hx9, hy9⟩ := at_T45 (Kd.R_reads' HL9.out).2.2 t (by omega) (by omega); cases e9; simp only [Int.toNat_natCast] at hx9 hy9; clear hb)
          | (((with_reducible refine gate_builtin (b := .append) (xs := #[.tmp 71, .tmp 78]) rfl ?_); (try (refine gate_guard (by rfl) ?_; dsimp only)); at_builtin; go_must (refine Kd.R_append k45 (w0 := wo) wo.heap.size rfl (.tmp 71) (.tmp 78) 22 45 (.agg #[(.string ⟨#[]⟩), (.string ⟨#[]⟩)]) 32 rfl Tryd.underlying22 info45 rfl (by decide) (by omega) _ L (rd_T45 L t) [.string (rd_T45 L t).f0, .string (rd_T45 L t).f1] (fun _ => True) (fun _ => False) rfl (by rfl) ?aP (fun _ hk => hk.elim) (fun _ _ => trivial) HL9.out HB9.out (Below.size HB9.out) (by omega) ?_; (case aP => exact k45_mkM _ _ _ (rd_T45 L t)); intro v10 w10 ho hb hg hat; obtain ⟨B10, n10, d10, rfl⟩ := row_form ho; have HV10 := Aside0.mk ho; have HB10 := Aside0.mk hb; clear ho hb hg hat)))
          | (go_at_call 15; (with_reducible refine (HRQ.out _ _ (HW.out.three t HT4.out) (by simp; omega) _ (.slice B10 n10 d10) HV10.out HB10.out).mono ?_); rintro e w11 ⟨rfl, hb⟩; have HB11 := Aside0.mk (below_step HBw.out (below_step HB10.out hb)); clear hb)
          | (go_at_call 11; (with_reducible refine (mailcoachlaw22_lives.calls w11 (HT.out.below HB11.out)).mono ?_); rintro e w12 ⟨rfl, hb⟩; have HB12 := Aside0.mk (below_step HB11.out hb); clear hb))
        all_goals first | (exfalso; have h4 := H4.out; omega) | (exfalso; have h4 := H4.out; rename_i hx_; simp at hx_; omega) | (go_ret; exact ⟨rfl, HB12.out⟩)
      · have H4 := Aside0.mk h4
        have HTW := Aside0.mk (show message_Request.f ((L.take q ++ [ord_x]) ++ L.drop q) [] [] = some 14 by rw [HW.out.two q HQ5.out, if_neg h4])
        clear h4
        go_wp2_with (first
          | (go_at_call 15; (with_reducible refine (HRQ.out L 0 HW.out.one (by omega) _ (.slice (some ad2) L.length d2) HL.out HB.out).mono ?_); rintro e w5 ⟨rfl, hb⟩; have HB5 := Aside0.mk (below_step HB.out hb); have HL5 := Aside0.mk (Kd.R_below HL.out hb); clear hb)
          | (((with_reducible refine gate_builtin (b := .append) (xs := #[.const (.slice none 0 0), .tmp 54]) rfl ?_); (try (refine gate_guard (by rfl) ?_; dsimp only)); at_builtin; go_must (refine Kd.R_append_rows k45 (Rr := fldR) (w0 := wo) wo.heap.size rfl (.const (.slice none 0 0)) (.tmp 54) 22 45 (.agg #[(.string ⟨#[]⟩), (.string ⟨#[]⟩)]) 32 rfl Tryd.underlying22 info45 rfl (by decide) (by omega) (.slice none 0 0) [] (L.take q) (some ad2) q d2 (fun _ => True) (fun _ => False) rfl rfl (Kd.R_nil _ _ _ _ _) (ord_take (Kd.R_reads' HL5.out).2.2 HQL.out) (fldR_M _ _ _) (fun _ hk => hk.elim) (fun _ _ => trivial) HB5.out (Below.size HB5.out) (by simp; omega) ?_; intro v6 w6 ho hb hg hat; have HN6 := Aside0.mk (row_ne (u := .slice none 0 0) HL5.out (fun k _ h => by cases h) hat); have HL6 := Aside0.mk (keep_row HL5.out hg (fun k _ h => by cases h)); have HV6 := Aside0.mk ho; have HB6 := Aside0.mk hb; clear ho hb hg hat)))
          | (((with_reducible refine gate_builtin (b := .append) (xs := #[.tmp 55, .tmp 57]) rfl ?_); (try (refine gate_guard (by rfl) ?_; dsimp only)); at_builtin; go_must (refine Kd.R_append k45 (w0 := wo) wo.heap.size rfl (.tmp 55) (.tmp 57) 22 45 (.agg #[(.string ⟨#[]⟩), (.string ⟨#[]⟩)]) 32 rfl Tryd.underlying22 info45 rfl (by decide) (by omega) v6 (L.take q) ord_x [.string ord_x.f0, .string ord_x.f1] (fun _ => True) (fun _ => False) rfl (by rfl) ?aP (fun _ hk => hk.elim) (fun _ _ => trivial) HV6.out HB6.out (Below.size HB6.out) (by rw [List.length_take]; omega) ?_; (case aP => exact k45_mkM _ _ _ ord_x); intro v7 w7 ho hb hg hat; have HN7 := Aside0.mk (row_ne HL6.out HN6.out hat); have HL7 := Aside0.mk (keep_row HL6.out hg HN6.out); have HV7 := Aside0.mk ho; have HB7 := Aside0.mk hb; clear ho hb hg hat)))
          | (((with_reducible refine gate_builtin (b := .append) (xs := #[.tmp 59, .tmp 62]) rfl ?_); (try (refine gate_guard (by rfl) ?_; dsimp only)); at_builtin; go_must (refine Kd.R_append_rows k45 (Rr := fldR) (w0 := wo) wo.heap.size rfl (.tmp 59) (.tmp 62) 22 45 (.agg #[(.string ⟨#[]⟩), (.string ⟨#[]⟩)]) 32 rfl Tryd.underlying22 info45 rfl (by decide) (by omega) v7 (L.take q ++ [ord_x]) (L.drop q) Ad2 (L.length - q) (d2 - q) (fun _ => True) (fun _ => False) rfl rfl HV7.out (hAd _ (Kd.R_reads' HL7.out).2.2) (fldR_M _ _ _) (fun _ hk => hk.elim) (fun _ _ => trivial) HB7.out (Below.size HB7.out) (by simp; omega) ?_; intro v8 w8 ho hb hg hat; have HL8 := Aside0.mk (keep_row HL7.out hg HN7.out); obtain ⟨B8, n8, d8, rfl⟩ := row_form ho; have HV8 := Aside0.mk ho; have HB8 := Aside0.mk hb; clear ho hb hg hat)))
          | (go_at_call 15; (with_reducible refine (HRQ.out _ 14 HTW.out (by simp; omega) _ (.slice B8 n8 d8) HV8.out HB8.out).mono ?_); rintro e w9 ⟨rfl, hb⟩; have HB9 := Aside0.mk (below_step HB8.out hb); have HL9 := Aside0.mk (Kd.R_below HL8.out hb); obtain ⟨ad9, e9, hx9, hy9⟩ := at_T45 (Kd.R_reads' HL9.out).2.2 t (by omega) (by omega); cases e9; simp only [Int.toNat_natCast] at hx9 hy9; clear hb)
          | (((with_reducible refine gate_builtin (b := .append) (xs := #[.tmp 71, .tmp 78]) rfl ?_); (try (refine gate_guard (by rfl) ?_; dsimp only)); at_builtin; go_must (refine Kd.R_append k45 (w0 := wo) wo.heap.size rfl (.tmp 71) (.tmp 78) 22 45 (.agg #[(.string ⟨#[]⟩), (.string ⟨#[]⟩)]) 32 rfl Tryd.underlying22 info45 rfl (by decide) (by omega) _ L (rd_T45 L t) [.string (rd_T45 L t).f0, .string (rd_T45 L t).f1] (fun _ => True) (fun _ => False) rfl (by rfl) ?aP (fun _ hk => hk.elim) (fun _ _ => trivial) HL9.out HB9.out (Below.size HB9.out) (by omega) ?_; (case aP => exact k45_mkM _ _ _ (rd_T45 L t)); intro v10 w10 ho hb hg hat; obtain ⟨B10, n10, d10, rfl⟩ := row_form ho; have HV10 := Aside0.mk ho; have HB10 := Aside0.mk hb; clear ho hb hg hat)))
          | (go_at_call 15; (with_reducible refine (HRQ.out _ _ (HW.out.three t HT4.out) (by simp; omega) _ (.slice B10 n10 d10) HV10.out HB10.out).mono ?_); rintro e w11 ⟨rfl, hb⟩; have HB11 := Aside0.mk (below_step HBw.out (below_step HB10.out hb)); clear hb)
          | (go_at_call 11; (with_reducible refine (mailcoachlaw22_lives.calls w11 (HT.out.below HB11.out)).mono ?_); rintro e w12 ⟨rfl, hb⟩; have HB12 := Aside0.mk (below_step HB11.out hb); clear hb))
        all_goals first | (exfalso; have h4 := H4.out; omega) | (exfalso; have h4 := H4.out; rename_i hx_; simp at hx_; omega) | (go_ret; exact ⟨rfl, HB12.out⟩)
end Go.Proofs.YtcgbpallpnaclaaDoor.T
