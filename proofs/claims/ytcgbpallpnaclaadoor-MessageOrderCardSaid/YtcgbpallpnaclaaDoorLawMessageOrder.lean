/- MessageOrder: for every input the law returns true; the card ties what the row lists to the program's text. Conditions: the row's own list of package-level variables. -/
import Derived.Test.YtcgbpallpnaclaaDoorCards
import Derived.Test.YtcgbpallpnaclaaDoorTie
import Derived.Deep.DeepHandedRow
import Derived.LaidMore
import Derived.LaidLaws
import Derived.Lay
import Derived.Test.YtcgbpallpnaclaaDoorXO2
import Derived.WalkKit
import Derived.ProofKit
import Derived.OpenShut
import Derived.ShutString
import Derived.ChangeOld
import Derived.Below
import Derived.SizedLaws
import Derived.Lib.SmallJoins
import Derived.Lib.LaidTab
namespace Go.Proofs.YtcgbpallpnaclaaDoor.messageOrder
open Go.ChangeShapes Go.WideShapes Go.ChangeAt Go.RowKit Go.Joins
open Go.Proofs.YtcgbpallpnaclaaDoorW.PrintWords
open Go.Proofs.YtcgbpallpnaclaaDoor.PMG
open Go.Proofs.YtcgbpallpnaclaaDoor.T
set_option linter.unusedVariables false
theorem own : ownKnob Tryd.prog.godebug = none := by kernel_rfl
theorem laidOut : laidOutB Tryd.prog = true := by kernel_rfl
theorem laid_tail {P : Program} {W : World} {x : String × DataW Unit} {r : List (String × DataW Unit)} (h : laidMet P (x :: r) W) : laidMet P r W := by
  obtain ⟨ps, ⟨g, t, cs, fuel, p, q, _, _, _, _, hq, rfl⟩, hnd, hall⟩ := h
  exact ⟨q, hq, (List.nodup_append.1 hnd).2.1, fun b off hm => hall b off (List.mem_append_right _ hm)⟩
theorem tab {W : World} (h : laidMetH Tryd.prog Rows.messageOrderRow.laid W) : MsgTab W := by
  rw [MakeChecks.laidMetH_plain _ _ _ (by kernel_rfl)] at h
  exact Lib.tabIs_of_head (zs := Lib.pow10Tab) (k := .u64) (g := (Tryd.prog.globalNamed "internal/strconv.uint64pow10").get (by kernel_rfl)) (t := 112) (e := 90) (n := 20) (Option.some_get _).symm (by kernel_rfl) (by kernel_rfl) (by kernel_rfl) (by kernel_rfl) (by kernel_rfl) (laid_tail (laid_tail h))
theorem c5 : Tryd.prog.cellsOf 5 = 1 := by kernel_rfl
theorem c50 : Tryd.prog.cellsOf 50 = 4 := by kernel_rfl
theorem four {α : Type} {l : List α} (h : l.length = 4) : ∃ a b c d, l = [a, b, c, d] := by
  match l, h with
  | [a, b, c, d], _ => exact ⟨a, b, c, d, rfl⟩
section
variable {H : Type} {enc : TypeId × Value → H} {w : World} {base : Nat} {spare : Nat → Bool} {held : Bool}
set_option maxRecDepth 100000 in
theorem open_arr4 {fuel : Nat} {cs : List Value} {x : DataW H × List MemPlace} (h : DataW.trod enc Tryd.prog w base spare held fuel 50 cs = some x) : ∃ a b c d : Nat, a ≤ 255 ∧ b ≤ 255 ∧ c ≤ 255 ∧ d ≤ 255 ∧ cs = [.int .u8 a, .int .u8 b, .int .u8 c, .int .u8 d] := by
  obtain ⟨xs, m, _, _, hl, hxs, hf⟩ := DataW.trod_array Tryd.underlying50 h
  rw [c50] at hl
  obtain ⟨a, b, c, d, rfl⟩ := four hl
  have one : ∀ (v : Value) (y : Option (DataW H × List MemPlace)), DataW.trod enc Tryd.prog w base spare held m 5 [v] = y → y.isSome = true → ∃ n : Nat, n ≤ 255 ∧ v = .int .u8 n := by
    intro v y hy hs
    obtain ⟨z, hz⟩ := Option.isSome_iff_exists.1 hs
    rw [hz] at hy
    obtain ⟨u, e, hw⟩ := DataW.trod_int Tryd.underlying5 hy
    simp at e
    have hwf := hw.2
    simp [Lit.wf, IntKind.min, IntKind.max, IntKind.signed, IntKind.bits] at hwf
    exact ⟨u.toNat, by omega, by rw [e, Int.toNat_of_nonneg (by omega)]⟩
  have each : ∀ i, (hi : i < 4) → (xs[i]?).isSome = true := fun i hi => by rw [List.getElem?_eq_getElem (by omega)]; rfl
  have f0 := hf 0 (by omega)
  have f1 := hf 1 (by omega)
  have f2 := hf 2 (by omega)
  have f3 := hf 3 (by omega)
  rw [c5] at f0 f1 f2 f3
  obtain ⟨n0, l0, rfl⟩ := one a _ f0 (each 0 (by omega))
  obtain ⟨n1, l1, rfl⟩ := one b _ f1 (each 1 (by omega))
  obtain ⟨n2, l2, rfl⟩ := one c _ f2 (each 2 (by omega))
  obtain ⟨n3, l3, rfl⟩ := one d _ f3 (each 3 (by omega))
  exact ⟨n0, n1, n2, n3, l0, l1, l2, l3, rfl⟩
end
theorem door_met (os : Os) : laidMetH Tryd.prog Rows.messageOrderRow.laid ((World.laidAll Tryd.prog os Rows.messageOrderRow.laid).forCall (fun _ _ => 0) ⟨#[], #[.agg #[.int .u8 0, .int .u8 0, .int .u8 0, .int .u8 0], .int .u8 0, .int .u8 0], []⟩).memory :=
  by rw [MakeChecks.laidMetH_plain _ _ _ (by kernel_rfl)]; exact laidMet_laidAll _ (by kernel_rfl) (by kernel_rfl)
theorem reads (os : Os) {H : Type} (enc : TypeId × Value → H) : ∃ places, DataW.whole enc Tryd.prog ((World.laidAll Tryd.prog os Rows.messageOrderRow.laid).forCall (fun _ _ => 0) ⟨#[], #[.agg #[.int .u8 0, .int .u8 0, .int .u8 0, .int .u8 0], .int .u8 0, .int .u8 0], []⟩).memory Tryd.f6.params.toList Rows.messageOrderSpec.vars false (#[.agg #[.int .u8 0, .int .u8 0, .int .u8 0, .int .u8 0], .int .u8 0, .int .u8 0] : Array Value).toList 8 = some ([.agg [.lit (.int .u8 0), .lit (.int .u8 0), .lit (.int .u8 0), .lit (.int .u8 0)], .lit (.int .u8 0), .lit (.int .u8 0)], [], places) :=
  ⟨[], by kernel_rfl⟩
set_option maxRecDepth 100000 in
theorem lifted (os : Os) (started : os.Started) (H : Type) (enc : TypeId × Value → H) (F : Stop.Interp) :
    ReturnsInHanded {} Tryd.checked os 6 .any ((OpenSpec.ofChange Rows.messageOrderSpec).preRow enc Tryd.prog Tryd.f6 Rows.messageOrderRow.domain false Rows.messageOrderRow.laid) (((OpenSpec.ofChange Rows.messageOrderSpec).at F).post enc Tryd.prog Tryd.f6 false true false false) := by
  obtain ⟨places, hx⟩ := reads os enc
  have hAss : ∀ c, ({} : Assume).holds Tryd.checked.prog c := fun c => by simp [Assume.holds]
  have okB : Input.okWideB Tryd.prog ((World.laidAll Tryd.prog os Rows.messageOrderRow.laid).forCall (fun _ _ => 0) ⟨#[], #[.agg #[.int .u8 0, .int .u8 0, .int .u8 0, .int .u8 0], .int .u8 0, .int .u8 0], []⟩) 6 ⟨#[], #[.agg #[.int .u8 0, .int .u8 0, .int .u8 0, .int .u8 0], .int .u8 0, .int .u8 0], []⟩ = true := by kernel_rfl
  refine returnsInHanded_of_row (C := Tryd.checked) (s := OpenSpec.ofChange Rows.messageOrderSpec) own started (by kernel_rfl) Tryd.func6
    ⟨World.laidAll Tryd.prog os Rows.messageOrderRow.laid, fun _ _ => 0, ⟨#[], #[.agg #[.int .u8 0, .int .u8 0, .int .u8 0, .int .u8 0], .int .u8 0, .int .u8 0], []⟩, World.laidAll_os _ _ _, World.shaped_of_ZipB (by kernel_rfl) (by kernel_rfl),
      (Input.okWide_of_okWideB (base := 0) okB).1, (Input.okWide_of_okWideB okB).2,
      OpenSpec.preRow_of_cond 8 hx (by kernel_rfl) (fun k hk => by cases hk) (by kernel_rfl) (door_met os), hAss _⟩ ?_
  intro W base args ds gs before hval0 hW _ _ hsz0 hL _ _
  have hsz : (DataW.weightsEach Tryd.prog (Tryd.f6.params.toList ++ Rows.messageOrderSpec.plain.varTypes Tryd.prog) (ds ++ gs)).all (· ≤ reachBytes) = true := hsz0
  have hval : ∀ (j : Nat) t v, Tryd.f6.params[j]? = some t → args[j]? = some v → Value.okWide Tryd.prog W .any base t v := hval0
  have hW' := hW
  obtain ⟨p, q, hA0, hV, rfl, hfz, hnd⟩ := hW
  have hA : DataW.TrodAll enc Tryd.prog W 0 (fun _ => true) true Tryd.f6.params.toList args.toList ds p := hA0
  rw [Tryd.params6] at hA hval hsz
  obtain ⟨v0, vs0, d0, ds0, p0, q0, hargs, rfl, rfl, h0, r0⟩ := trodAll_cons hA
  obtain ⟨v1, vs1, d1, ds1, p1, q1, rfl, rfl, rfl, h1, r1⟩ := trodAll_cons r0
  obtain ⟨v2, vs2, d2, ds2, p2, q2, rfl, rfl, rfl, h2, r2⟩ := trodAll_cons r1
  obtain ⟨rfl, rfl, rfl⟩ := trodAll_nil r2
  obtain rfl : args = #[v0, v1, v2] := by cases args; simp_all
  obtain ⟨rfl, rfl⟩ := trodVars_none hV
  have k0 := h0
  have lt0 : ∀ x ∈ p0, x.block < W.heap.size := by obtain ⟨m, hm⟩ := k0; exact DataW.trod_lt m _ _ _ hm
  obtain ⟨cs, rfl, hcs⟩ : ∃ cs : Array Value, v0 = .agg cs ∧ cs.size = 4 := by
    have h := (hval 0 50 v0 rfl rfl)
    simp only [Value.okWide, Tryd.underlying50] at h
    obtain ⟨cs, e1, e2, _⟩ := h
    exact ⟨cs, e1, by rw [e2, c50]⟩
  obtain ⟨x0, x1, x2, x3, b0, b1, b2, b3, e0⟩ : ∃ a b c d : Nat, a ≤ 255 ∧ b ≤ 255 ∧ c ≤ 255 ∧ d ≤ 255 ∧ cs = #[.int .u8 a, .int .u8 b, .int .u8 c, .int .u8 d] := by
    obtain ⟨fuel, hf⟩ := h0
    obtain ⟨a, b, c, d, ha, hb, hc, hd, he⟩ := open_arr4 hf
    exact ⟨a, b, c, d, ha, hb, hc, hd, by simp [Value.cells] at he; exact Array.toList_inj.1 he⟩
  subst e0
  obtain ⟨a1, rfl, rfl, rfl, w1⟩ := open_int Tryd.underlying5 (hval 1 5 v1 rfl rfl) h1
  obtain ⟨a2, rfl, rfl, rfl, w2⟩ := open_int Tryd.underlying5 (hval 2 5 v2 rfl rfl) h2
  obtain ⟨n1, e1⟩ : ∃ n : Nat, a1 = n ∧ n ≤ 255 := by
    have w1 := w1
    simp [Lit.wf, IntKind.min, IntKind.max, IntKind.signed, IntKind.bits] at w1
    exact ⟨a1.toNat, by omega, by omega⟩
  obtain ⟨n2, e2⟩ : ∃ n : Nat, a2 = n ∧ n ≤ 255 := by
    have w2 := w2
    simp [Lit.wf, IntKind.min, IntKind.max, IntKind.signed, IntKind.bits] at w2
    exact ⟨a2.toNat, by omega, by omega⟩
  obtain ⟨rfl, hn1⟩ := e1
  obtain ⟨rfl, hn2⟩ := e2
  clear hA0 hval0 hsz0 hsz
  refine (mailcoachlaw22_MessageOrder.calls x0 x1 x2 x3 n1 n2 W b0 b1 b2 b3 hn1 hn2 (tab hL)).mono fun e W' ⟨he, bel⟩ => ?_
  subst he
  exact ⟨_, rfl, _, _, _, [], _, [], hW', trodAll_mk1 (shut_bool Tryd.underlying4 _), (trodAll_cons_mk (Below.trod laidOut (by kernel_rfl) (of_decide_eq_true (by kernel_rfl)) k0 bel lt0) (trodAll_cons_mk (shut_int Tryd.underlying5 w1) (trodAll_cons_mk (shut_int Tryd.underlying5 w2) trodAll_mk0))), rfl, bel.frame _, fun h => by cases h⟩
theorem said : Rows.MessageOrderSaid :=
  OpenClaim.holds_of_cond 6 Tryd.f6 rfl rfl rfl rfl rfl rfl rfl ⟨rfl, rfl, rfl, rfl, rfl⟩ rfl rfl rfl rfl rfl (by kernel_rfl) Tryd.func6 (by kernel_rfl)
    (of_decide_eq_true (by kernel_rfl)) (by unfold Func.isWrapper; first | (rw [if_pos (by decide +kernel)]; kernel_rfl) | (rw [if_neg (by decide +kernel)]; exact ⟨rfl, rfl⟩))
    (fun os started H enc _ F => by rw [OpenClaim.pre_eq_preRow]; exact lifted os started H enc F)
theorem plain (f : FuncId) (fn : Func) (hf : Tryd.pinned.checked.prog.funcNamed Rows.messageOrderRow.func = some f) (hfn : Tryd.pinned.checked.prog.funcs[f]? = some fn) :
    true = Tryd.pinned.checked.prog.looks [] ∧ ∀ (j : Nat) t, fn.params[j]? = some t → Tryd.pinned.checked.prog.wantsStandIn t = false := by
  obtain rfl : f = 6 := Option.some.inj ((show Tryd.prog.funcNamed Rows.messageOrderRow.func = some 6 by kernel_rfl).symm.trans hf) |>.symm
  obtain rfl : fn = Tryd.f6 := (Option.some.inj (Tryd.func6.symm.trans hfn)).symm
  refine ⟨by kernel_rfl, fun j t ht => ?_⟩
  rw [Tryd.params6] at ht
  have hm : t ∈ [50, 5, 5] := by simpa using Array.mem_of_getElem? ht
  have hall : ([50, 5, 5].all fun u => !Tryd.prog.wantsStandIn u) = true := by kernel_rfl
  exact (show Tryd.prog.wantsStandIn t = false by simpa using List.all_eq_true.1 hall t hm)
theorem card : Rows.MessageOrderCardSaid :=
  Claim7.holds_tied_plain_at .later [] _ _ _ _ said (fun _ h => by cases h) (by kernel_rfl) (fun _ h => by cases h) messageOrder_row_tie rfl ⟨rfl, rfl⟩ (by kernel_rfl) rfl plain (by kernel_rfl)
#print axioms card
end Go.Proofs.YtcgbpallpnaclaaDoor.messageOrder
namespace Go.Proofs.YtcgbpallpnaclaaDoor
/-- The card, under a short name, for the claim. -/
theorem messageOrder_holds : Rows.MessageOrderCardSaid := messageOrder.card
end Go.Proofs.YtcgbpallpnaclaaDoor
