-- Written by wip/mprint.py (the kit's printer, and texts of this claim's own for what it does not take). Not trusted: Lean checks it.
import Derived.Test.YtmkmefdajbdceaaPTXx0
namespace Go.Proofs.Ytmkmefdajbdceaa.PTX
open Go.RowKit Go.Proofs.YtmkmefdajbdceaaW.PrintWords Go.Proofs.YtmkmefdajbdceaaW.PrintLast Go.Proofs.YtmkmefdajbdceaaW.PrintMore
attribute [local go_sem] max2_int min2_int max_two min_two max_three min_three max_four min_four   -- for this text's walks alone
set_option linter.unusedVariables false
set_option linter.unusedSimpArgs false

/-! ### varint_GetPrefix: function 25, by hand -/
theorem or_join (i : Nat) (a c : Int) (h0 : 0 ≤ a) (c0 : 0 ≤ c) (c1 : c < 2 ^ i) (h1 : a * 2 ^ i + c < 18446744073709551616) : bits .or .u64 (a * 2 ^ i) c = a * 2 ^ i + c := by
  obtain ⟨a, rfl⟩ := Int.eq_ofNat_of_zero_le h0
  obtain ⟨c, rfl⟩ := Int.eq_ofNat_of_zero_le c0
  have e : (a : Int) * 2 ^ i = ((2 ^ i * a : Nat) : Int) := by rw [Int.natCast_mul, Int.natCast_pow, Int.mul_comm]; rfl
  rw [e] at h1 ⊢
  have hc : c < 2 ^ i := by
    have : ((2 ^ i : Nat) : Int) = 2 ^ i := by rw [Int.natCast_pow]; rfl
    omega
  rw [u64_or_nat _ _ (by omega) (by omega), ← Nat.two_pow_add_eq_or_of_lt hc]
  omega
theorem or_comm64 (a c : Int) (h0 : 0 ≤ a) (h1 : a < 18446744073709551616) (c0 : 0 ≤ c) (c1 : c < 18446744073709551616) : bits .or .u64 a c = bits .or .u64 c a := by
  rw [u64_or a c h0 h1 c0 c1, u64_or c a c0 c1 h0 h1, Nat.or_comm]
theorem u8_and127 (x : Int) (h0 : 0 ≤ x) (h1 : x < 256) : bits .and .u8 x 127 = x % 128 := bits_mask .u8 8 (by decide) wraps_u8 7 (by decide) x h0 h1

def varint_GetPrefix.ok (l : List Int) : Bool := l.all fun x => decide (0 ≤ x) && decide (x < 256)
/-- What is told of the bytes behind the first one, from number i on, v being what came up to there. -/
def varint_GetPrefix.S (t : List Int) (m above : Int) : Nat → Nat → Int → Int × Int × Int × Int
  | 0, _, _ => (0, 0, 0, if t.length ≥ 10 then 5 else 4)
  | d + 1, i, v => if i < t.length then
      (if rd t i < 128 then
        (if v + rd t i % 128 * 2 ^ (7 * i) > 4611686018427387903 - m then (0, 0, 0, 3) else (above, v + rd t i % 128 * 2 ^ (7 * i) + m, (i : Int) + 2, 0))
       else varint_GetPrefix.S t m above d (i + 1) (v + rd t i % 128 * 2 ^ (7 * i)))
      else (0, 0, 0, if t.length ≥ 10 then 5 else 4)
def varint_GetPrefix.M (a0 : Int) : Int := 2 ^ a0.toNat - 1
def varint_GetPrefix.f (a0 : Int) (l1 : List Int) : Option (Int × Int × Int × Int) :=
  if a0 < 1 ∨ 8 < a0 then some (0, 0, 0, 1)
  else if l1.length = 0 then some (0, 0, 0, 4)
  else if varint_GetPrefix.ok l1 = true then
    (if rd l1 0 % 2 ^ a0.toNat < varint_GetPrefix.M a0 then some (rd l1 0 - rd l1 0 % 2 ^ a0.toNat, rd l1 0 % 2 ^ a0.toNat, 1, 0)
     else some (varint_GetPrefix.S (l1.drop 1) (varint_GetPrefix.M a0) (rd l1 0 - rd l1 0 % 2 ^ a0.toNat) 10 0 0))
  else none
theorem varint_GetPrefix.rd_bd {l : List Int} (hl : varint_GetPrefix.ok l = true) (i : Nat) (hi : i < l.length) : 0 ≤ rd l i ∧ rd l i < 256 := by
  have h := List.all_eq_true.1 hl (rd l i) (by
    unfold rd
    rw [List.getD_eq_getElem?_getD, List.getElem?_eq_getElem (by simpa using hi)]
    exact List.getElem_mem _)
  simpa using h
theorem varint_GetPrefix.bad (A1 : Option Addr) (c1 : Nat) (l1 : List Int) (a0 : Int) (w : World) (h : a0 < 1 ∨ 8 < a0) :
    Calls Try.prog 25 #[.int .i64 a0, .slice A1 l1.length c1] w fun e w' => e = .returned (.tuple #[.int .u8 0, .int .u64 0, .int .i64 0, .int .i64 1]) ∧ Drawn0 w w' := by
  rcases h with h | h
  · go_enter Try.func25, Try.ntmps25
    go_wp2
    exact bodyPost_ret (v := .tuple #[.int .u8 0, .int .u64 0, .int .i64 0, .int .i64 1]) (by simp [results, Try.results25, go_sem]) rfl ⟨rfl, Drawn0.refl _⟩
  · have h1 : ¬ a0 < 1 := by omega
    go_enter Try.func25, Try.ntmps25
    go_wp2
    exact bodyPost_ret (v := .tuple #[.int .u8 0, .int .u64 0, .int .i64 0, .int .i64 1]) (by simp [results, Try.results25, go_sem]) rfl ⟨rfl, Drawn0.refl _⟩
theorem varint_GetPrefix.short (A1 : Option Addr) (c1 : Nat) (a0 : Int) (w : World) (h : 1 ≤ a0) (h8 : a0 ≤ 8) :
    Calls Try.prog 25 #[.int .i64 a0, .slice A1 0 c1] w fun e w' => e = .returned (.tuple #[.int .u8 0, .int .u64 0, .int .i64 0, .int .i64 4]) ∧ Drawn0 w w' := by
  go_enter Try.func25, Try.ntmps25
  go_wp2
  exact bodyPost_ret (v := .tuple #[.int .u8 0, .int .u64 0, .int .i64 0, .int .i64 4]) (by simp [results, Try.results25, go_sem]) rfl ⟨rfl, Drawn0.refl _⟩
/-- The machine's words for the mask and what it parts. -/
theorem varint_GetPrefix.mask (a0 x : Int) (h : 1 ≤ a0) (h8 : a0 ≤ 8) (x0 : 0 ≤ x) (x1 : x < 256) :
    IntKind.u64.wrap (IntKind.u64.wrap (2 ^ a0.toNat) - 1) = varint_GetPrefix.M a0 ∧ varint_GetPrefix.M a0 % 256 = varint_GetPrefix.M a0 ∧
    bits .and .u64 x (varint_GetPrefix.M a0) = x % 2 ^ a0.toNat ∧ bits .andNot .u8 x (varint_GetPrefix.M a0) = x - x % 2 ^ a0.toNat ∧ 1 ≤ varint_GetPrefix.M a0 ∧ varint_GetPrefix.M a0 ≤ 255 ∧ 0 ≤ x % 2 ^ a0.toNat := by
  have hx : x = ((x.toNat : Nat) : Int) := by omega
  have hxl : x.toNat < 256 := by omega
  rcases (show a0 = 1 ∨ a0 = 2 ∨ a0 = 3 ∨ a0 = 4 ∨ a0 = 5 ∨ a0 = 6 ∨ a0 = 7 ∨ a0 = 8 by omega) with rfl | rfl | rfl | rfl | rfl | rfl | rfl | rfl
  all_goals
    refine ⟨by decide +kernel, by decide +kernel, ?_, ?_, by decide +kernel, by decide +kernel, by omega⟩
    · rw [hx]
      exact of_decide_eq_true (List.all_eq_true.1 (show (List.range 256).all (fun n => decide (bits .and .u64 (n : Int) (varint_GetPrefix.M _) = (n : Int) % 2 ^ (Int.toNat _))) = true by decide +kernel) _ (List.mem_range.2 hxl))
    · rw [hx]
      exact of_decide_eq_true (List.all_eq_true.1 (show (List.range 256).all (fun n => decide (bits .andNot .u8 (n : Int) (varint_GetPrefix.M _) = (n : Int) - (n : Int) % 2 ^ (Int.toNat _))) = true by decide +kernel) _ (List.mem_range.2 hxl))
theorem varint_GetPrefix.S_end (t : List Int) (m a : Int) (d i : Nat) (v : Int) (h : d = 0 ∨ ¬ i < t.length) : varint_GetPrefix.S t m a d i v = (0, 0, 0, if t.length ≥ 10 then 5 else 4) := by
  cases d with
  | zero => simp only [varint_GetPrefix.S]
  | succ d =>
    simp only [varint_GetPrefix.S]
    rw [if_neg (by omega)]
/-- One part more. -/
theorem varint_GetPrefix.add (i : Nat) (hi : i < 10) (p v : Int) (p0 : 0 ≤ p) (p1 : p < 128) (v0 : 0 ≤ v) (v1 : v < 2 ^ (7 * i)) :
    (p * 2 ^ (7 * i) < 18446744073709551616 ∧ IntKind.u64.wrap (p * 2 ^ (7 * i)) / 2 ^ (7 * i) = p ∧ bits .or .u64 v (IntKind.u64.wrap (p * 2 ^ (7 * i))) = v + p * 2 ^ (7 * i) ∧ v + p * 2 ^ (7 * i) < 18446744073709551616 ∧ v + p * 2 ^ (7 * i) < 2 ^ (7 * (i + 1)) ∧ 0 ≤ p * 2 ^ (7 * i)) ∨
    (18446744073709551616 ≤ p * 2 ^ (7 * i) ∧ (IntKind.u64.wrap (p * 2 ^ (7 * i)) / 2 ^ (7 * i) != p) = true ∧ i = 9 ∧ v + p * 2 ^ (7 * i) < 2 ^ (7 * (i + 1))) := by
  by_cases ho : p * 2 ^ (7 * i) < 18446744073709551616
  · left
    have hw : IntKind.u64.wrap (p * 2 ^ (7 * i)) = p * 2 ^ (7 * i) := by
      rw [IntKind.wrap_u64, Int.emod_eq_of_lt (Int.mul_nonneg p0 (Int.le_of_lt (Int.pow_pos (by decide)))) ho]
    have hs : v + p * 2 ^ (7 * i) < 18446744073709551616 ∧ v + p * 2 ^ (7 * i) < 2 ^ (7 * (i + 1)) ∧ 0 ≤ p * 2 ^ (7 * i) ∧ p * 2 ^ (7 * i) / 2 ^ (7 * i) = p := by
      rcases (show i = 0 ∨ i = 1 ∨ i = 2 ∨ i = 3 ∨ i = 4 ∨ i = 5 ∨ i = 6 ∨ i = 7 ∨ i = 8 ∨ i = 9 by omega) with rfl | rfl | rfl | rfl | rfl | rfl | rfl | rfl | rfl | rfl <;> simp only [Nat.reduceMul, Nat.reduceAdd, Int.reducePow] at v1 ho ⊢ <;> omega
    rw [hw]
    refine ⟨ho, hs.2.2.2, ?_, hs.1, hs.2.1, hs.2.2.1⟩
    have e := or_join (7 * i) p v p0 v0 v1 (by omega)
    rw [or_comm64 _ _ v0 (by omega) hs.2.2.1 ho, e, Int.add_comm]
  · right
    have h9 : i = 9 := by
      rcases (show i = 0 ∨ i = 1 ∨ i = 2 ∨ i = 3 ∨ i = 4 ∨ i = 5 ∨ i = 6 ∨ i = 7 ∨ i = 8 ∨ i = 9 by omega) with rfl | rfl | rfl | rfl | rfl | rfl | rfl | rfl | rfl | rfl <;> first | rfl | (simp only [Nat.reduceMul, Nat.reduceAdd, Int.reducePow] at v1 ho; omega)
    subst h9
    simp only [Nat.reduceMul, Nat.reduceAdd, Int.reducePow] at v1 ho ⊢
    refine ⟨by omega, ?_, trivial, by omega⟩
    rw [IntKind.wrap_u64]
    simp only [bne_iff_ne, ne_eq]
    omega
set_option maxHeartbeats 6400000 in
set_option maxRecDepth 100000 in
theorem varint_GetPrefix.main (A1 : Option Addr) (c1 : Nat) (l1 : List Int) (a0 : Int) (w : World) (h : 1 ≤ a0) (h8 : a0 ≤ 8) (hr1 : Kd.C (Kd.int .u8) w A1 l1.length l1) (hc1 : l1.length ≤ c1) (hn : 0 < l1.length) (hok : varint_GetPrefix.ok l1 = true) (R1 R2 R3 R4 : Int)
    (hR : (if rd l1 0 % 2 ^ a0.toNat < varint_GetPrefix.M a0 then (rd l1 0 - rd l1 0 % 2 ^ a0.toNat, rd l1 0 % 2 ^ a0.toNat, 1, 0)
     else (varint_GetPrefix.S (l1.drop 1) (varint_GetPrefix.M a0) (rd l1 0 - rd l1 0 % 2 ^ a0.toNat) 10 0 0)) = (R1, R2, R3, R4)) :
    Calls Try.prog 25 #[.int .i64 a0, .slice A1 l1.length c1] w fun e w' => e = .returned (.tuple #[.int .u8 R1, .int .u64 R2, .int .i64 R3, .int .i64 R4]) ∧ Drawn0 w w' := by
  have HR := Aside0.mk hR
  have HR1 := Aside0.mk hr1
  have HC1 := Aside0.mk hc1
  have HOK := Aside0.mk hok
  have hb := varint_GetPrefix.rd_bd hok 0 hn
  clear hr1 hc1 hok hR
  obtain ⟨ad1, e1, hx1⟩ := Kd.at_int HR1.out 0 (by omega) (by omega)
  cases e1
  have hx0 : w.cell? ad1 = some (.int .u8 (rd l1 0)) := by simpa [go_sem] using hx1
  clear hx1
  have hne : ((l1.length : Int) == 0) = false := by simp; intro h; rw [h] at hn; exact absurd hn (Nat.lt_irrefl 0)
  have hlt : 0 < (l1.length : Int) := by omega
  have hb0 : 0 ≤ rd l1 0 := hb.1
  have hb1 : rd l1 0 < 256 := hb.2
  obtain ⟨e1, e2, e3, e4, m1, m2, k0⟩ := varint_GetPrefix.mask a0 (rd l1 0) h h8 hb0 hb1
  obtain ⟨M, hM⟩ : ∃ M, varint_GetPrefix.M a0 = M := ⟨_, rfl⟩
  obtain ⟨K, hK⟩ : ∃ K, rd l1 0 % 2 ^ a0.toNat = K := ⟨_, rfl⟩
  obtain ⟨B, hB⟩ : ∃ B, rd l1 0 - K = B := ⟨_, rfl⟩
  rw [hM] at e1 e2 e3 e4 m1 m2 HR
  rw [hK] at e3 e4 k0 HR
  rw [hB] at e4 HR
  clear hM hK hB hb
  by_cases hKM : K < M
  · rw [if_pos hKM] at HR
    have hj := HR.out
    simp only [Prod.mk.injEq] at hj
    obtain ⟨rfl, rfl, rfl, rfl⟩ := hj
    clear HR
    go_enter Try.func25, Try.ntmps25
    go_wp2
    exact bodyPost_ret (v := .tuple #[.int .u8 B, .int .u64 K, .int .i64 1, .int .i64 0]) (by simp [results, Try.results25, go_sem]) rfl ⟨rfl, Drawn0.refl _⟩
  · rw [if_neg hKM] at HR
    have hd1 : decide (a0 < 1) = false := decide_eq_false (by omega)
    have hd8 : decide (8 < a0) = false := decide_eq_false (by omega)
    obtain ⟨A2, hA2⟩ : ∃ A2, (if c1 = (1 : Int).toNat then some ad1 else (some ad1).map (·.add ((1 : Int).toNat * 1))) = A2 := ⟨_, rfl⟩
    have hcut := cut_from (P := Try.prog) 22 5 .i64 Try.underlying22 (i := _) rfl 1 rfl (some ad1) l1.length c1 1 (by omega) (by omega)
    have hC2 := Kd.C_drop (m := 1) HR1.out (by omega) HC1.out
    rw [hA2] at hcut
    have hA2' : (if c1 = 1 then some ad1 else (some ad1).map (·.add (1 * 1))) = A2 := hA2
    rw [show (Kd.int IntKind.u8).sz = 1 from rfl, hA2'] at hC2
    obtain ⟨t, ht⟩ : ∃ t, l1.drop 1 = t := ⟨_, rfl⟩
    have hok2 : varint_GetPrefix.ok t = true := by rw [← ht]; exact List.all_eq_true.2 fun x hx => List.all_eq_true.1 HOK.out x (List.mem_of_mem_drop hx)
    have hl2 : l1.length = t.length + 1 := by rw [← ht, List.length_drop]; omega
    rw [ht] at hC2 HR
    have HC2 := Aside0.mk hC2
    have HOK2 := Aside0.mk hok2
    rw [hl2] at hcut hne hlt ⊢
    simp only [Nat.add_sub_cancel, show Int.toNat 1 = 1 from rfl] at hcut
    clear hC2 hA2 hA2' ht hl2 HR1 HC1 HOK hok2
    go_enter Try.func25, Try.ntmps25
    go_wp2
    go_loop [11, 12, 50] (fun v11 v12 v50 => ∃ (i : Nat) (v : Int), i ≤ 10 ∧ v50 = .int .i64 i ∧ Aside0 (i < 10 → v12 = .bool false ∧ v11 = .int .u64 v) ∧ 0 ≤ v ∧ Aside0 (v < 2 ^ (7 * i)) ∧ Aside0 (varint_GetPrefix.S t M B (10 - i) i v = (R1, R2, R3, R4))) (fun _ _ v50 => 10 - (intOf v50).toNat)
    case atStart => exact ⟨0, 0, by omega, rfl, ⟨fun _ => ⟨rfl, rfl⟩⟩, by omega, ⟨by decide⟩, HR⟩
    case round =>
      obtain ⟨i, v, hi, rfl, H12, hv0, HV, HS⟩ := hrel
      clear HR
      by_cases hlen : i < t.length
      · by_cases hi10 : i = 10
        · have hS := HS.out
          rw [varint_GetPrefix.S_end t M B _ _ v (.inl (by omega)), if_pos (by omega)] at hS
          simp only [Prod.mk.injEq] at hS
          obtain ⟨rfl, rfl, rfl, rfl⟩ := hS
          obtain ⟨ad2, e5, hx2⟩ := Kd.at_int HC2.out i (by omega) (by omega)
          cases e5
          simp only [Int.toNat_natCast] at hx2
          have h10 : decide (10 < t.length + 1) = true := decide_eq_true (by omega)
          have hyt : ((i : Int) == 10) = true := by simp; omega
          have h10n : 10 < t.length := by omega
          clear HS HV hi10 H12
          go_wp2
          exact bodyPost_ret (v := .tuple #[.int .u8 0, .int .u64 0, .int .i64 0, .int .i64 5]) (by simp [results, Try.results25, go_sem]) rfl ⟨rfl, Drawn0.refl _⟩
        · have hi10' : i < 10 := by omega
          obtain ⟨rfl, rfl⟩ := H12.out hi10'
          obtain ⟨ad2, e5, hx2⟩ := Kd.at_int HC2.out i (by omega) (by omega)
          cases e5
          simp only [Int.toNat_natCast] at hx2
          have hc := varint_GetPrefix.rd_bd HOK2.out i hlen
          have hc0 := hc.1
          have hc1 := hc.2
          clear hc
          have hnt : ((i : Int) == 10) = false := by simp; omega
          have hpa := u8_and127 (rd t i) hc0 hc1
          obtain ⟨p, hp⟩ : ∃ p, rd t i % 128 = p := ⟨_, rfl⟩
          rw [hp] at hpa
          have p0 : 0 ≤ p := by omega
          have p1 : p < 128 := by omega
          obtain ⟨d, hd⟩ : ∃ d, 10 - i = d + 1 := ⟨9 - i, by omega⟩
          have hS := HS.out
          rw [hd] at hS
          simp only [varint_GetPrefix.S] at hS
          rw [if_pos hlen, hp] at hS
          clear HS
          rcases varint_GetPrefix.add i hi10' p v p0 p1 hv0 HV.out with ⟨o1, o2, o3, o4, o5, o6⟩ | ⟨o1, o2, o3, o4⟩
          · obtain ⟨q, hq⟩ : ∃ q, IntKind.u64.wrap (p * 2 ^ (7 * i)) = q := ⟨_, rfl⟩
            obtain ⟨v2, hv2⟩ : ∃ v2, v + p * 2 ^ (7 * i) = v2 := ⟨_, rfl⟩
            have v20 : 0 ≤ v2 := by omega
            rw [hq] at o2 o3
            rw [hv2] at o3 o4 o5 hS
            have O5 := Aside0.mk o5
            have HD := Aside0.mk hd
            clear o1 o5 o6 hp hd hv2
            by_cases hl : rd t i < 128
            · rw [if_pos hl] at hS
              by_cases hg : v2 > 4611686018427387903 - M
              · rw [if_pos hg] at hS
                simp only [Prod.mk.injEq] at hS
                obtain ⟨rfl, rfl, rfl, rfl⟩ := hS
                go_wp2
                exact bodyPost_ret (v := .tuple #[.int .u8 0, .int .u64 0, .int .i64 0, .int .i64 3]) (by simp [results, Try.results25, go_sem]) rfl ⟨rfl, Drawn0.refl _⟩
              · rw [if_neg hg] at hS
                simp only [Prod.mk.injEq] at hS
                obtain ⟨rfl, rfl, rfl, rfl⟩ := hS
                go_wp2
                exact bodyPost_ret (v := .tuple #[.int .u8 B, .int .u64 (v2 + M), .int .i64 ((i : Int) + 2), .int .i64 0]) (by simp [results, Try.results25, go_sem]) rfl ⟨rfl, Drawn0.refl _⟩
            · rw [if_neg hl] at hS
              have HS2 := Aside0.mk hS
              clear hS
              go_wp2
              go_round
              case rel => exact ⟨i + 1, v2, by omega, by go_num, ⟨fun _ => ⟨rfl, rfl⟩⟩, v20, ⟨O5.out⟩, ⟨by rw [show 10 - (i + 1) = d by have := HD.out; omega]; exact HS2.out⟩⟩
              case measure => simp [intOf]; omega
          · obtain ⟨v2, hv2⟩ : ∃ v2, v + p * 2 ^ (7 * i) = v2 := ⟨_, rfl⟩
            have v20 : 18446744073709551616 ≤ v2 := by omega
            rw [hv2] at o4 hS
            have O4 := Aside0.mk o4
            have HD := Aside0.mk hd
            have HO3 := Aside0.mk o3
            clear o1 o3 o4 hp hd hv2
            by_cases hl : rd t i < 128
            · rw [if_pos hl, if_pos (by omega)] at hS
              simp only [Prod.mk.injEq] at hS
              obtain ⟨rfl, rfl, rfl, rfl⟩ := hS
              go_wp2
              exact bodyPost_ret (v := .tuple #[.int .u8 0, .int .u64 0, .int .i64 0, .int .i64 3]) (by simp [results, Try.results25, go_sem]) rfl ⟨rfl, Drawn0.refl _⟩
            · rw [if_neg hl] at hS
              have HS2 := Aside0.mk hS
              have HV20 := Aside0.mk v20
              clear hS v20
              go_wp2
              go_round
              case rel => exact ⟨i + 1, v2, by omega, by go_num, ⟨fun h => absurd h (by have := HO3.out; omega)⟩, by have := HV20.out; omega, ⟨O4.out⟩, ⟨by rw [show 10 - (i + 1) = d by have := HD.out; omega]; exact HS2.out⟩⟩
              case measure => simp [intOf]; omega
      · have hS := HS.out
        rw [varint_GetPrefix.S_end t M B _ _ v (.inr hlen)] at hS
        clear HS HV
        by_cases h10 : t.length ≥ 10
        · rw [if_pos h10] at hS
          simp only [Prod.mk.injEq] at hS
          obtain ⟨rfl, rfl, rfl, rfl⟩ := hS
          have h10' : decide (10 < t.length + 1) = true := decide_eq_true (by omega)
          have hin : t.length ≤ i := by omega
          go_wp2
          exact bodyPost_ret (v := .tuple #[.int .u8 0, .int .u64 0, .int .i64 0, .int .i64 5]) (by simp [results, Try.results25, go_sem]) rfl ⟨rfl, Drawn0.refl _⟩
        · rw [if_neg h10] at hS
          simp only [Prod.mk.injEq] at hS
          obtain ⟨rfl, rfl, rfl, rfl⟩ := hS
          have h10' : decide (10 < t.length + 1) = false := decide_eq_false (by omega)
          go_wp2
          exact bodyPost_ret (v := .tuple #[.int .u8 0, .int .u64 0, .int .i64 0, .int .i64 4]) (by simp [results, Try.results25, go_sem]) rfl ⟨rfl, Drawn0.refl _⟩
theorem varint_GetPrefix.calls (a0 : Int) (A1 : Option Addr) (c1 : Nat) (l1 : List Int) (r1 : Int) (r2 : Int) (r3 : Int) (r4 : Int) (w : World) (hr1 : Kd.C (Kd.int .u8) w A1 l1.length l1) (hc1 : l1.length ≤ c1) (h : varint_GetPrefix.f a0 l1 = some (r1, r2, r3, r4)) :
    Calls Try.prog 25 #[.int .i64 a0, .slice A1 l1.length c1] w fun e w' => e = .returned (.tuple #[.int .u8 r1, .int .u64 r2, .int .i64 r3, .int .i64 r4]) ∧ Drawn0 w w' := by
  unfold varint_GetPrefix.f at h
  by_cases h1 : a0 < 1 ∨ 8 < a0
  · rw [if_pos h1] at h
    simp only [Option.some.injEq, Prod.mk.injEq] at h
    obtain ⟨rfl, rfl, rfl, rfl⟩ := h
    exact varint_GetPrefix.bad A1 c1 l1 a0 w h1
  · rw [if_neg h1] at h
    by_cases hn : l1.length = 0
    · rw [if_pos hn] at h
      simp only [Option.some.injEq, Prod.mk.injEq] at h
      obtain ⟨rfl, rfl, rfl, rfl⟩ := h
      rw [hn]
      exact varint_GetPrefix.short A1 c1 a0 w (by omega) (by omega)
    · rw [if_neg hn] at h
      by_cases hok : varint_GetPrefix.ok l1 = true
      · rw [if_pos hok] at h
        refine varint_GetPrefix.main A1 c1 l1 a0 w (by omega) (by omega) hr1 hc1 (by omega) hok r1 r2 r3 r4 ?_
        split at h <;> rename_i hlt
        · rw [if_pos hlt]; exact Option.some.inj h
        · rw [if_neg hlt]; exact Option.some.inj h
      · rw [if_neg hok] at h
        cases h


end Go.Proofs.Ytmkmefdajbdceaa.PTX
