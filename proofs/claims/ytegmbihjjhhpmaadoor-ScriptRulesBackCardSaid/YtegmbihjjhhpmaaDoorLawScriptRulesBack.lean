/- ScriptRulesBack: for every input the law returns true; the card ties what the row lists to the program's text. Conditions: the row's own list of package-level variables. -/
import Derived.Test.YtegmbihjjhhpmaaDoorCards
import Derived.Test.YtegmbihjjhhpmaaDoorTie
import Derived.Deep.DeepHandedRow
import Derived.LaidMore
import Derived.LaidLaws
import Derived.Lay
import Derived.Test.YtegmbihjjhhpmaaDoorSZ
import Derived.WalkKit
import Derived.ProofKit
import Derived.OpenShut
import Derived.ShutString
import Derived.ChangeOld
import Derived.Below
import Derived.SizedLaws
import Derived.Lib.SmallJoins
import Derived.Lib.LaidTab
import Derived.Stop.LaidErr
import Derived.Shelf.Vars
namespace Go.Proofs.YtegmbihjjhhpmaaDoor.scriptRulesBack
open Go.ChangeShapes Go.WideShapes Go.ChangeAt Go.RowKit Go.Joins
open Go.Proofs.YtegmbihjjhhpmaaDoorW.PrintWords
open Go.Proofs.YtegmbihjjhhpmaaDoor.PSC
open Go.Proofs.YtegmbihjjhhpmaaDoor.T
set_option linter.unusedVariables false
theorem own : ownKnob Tryd.prog.godebug = none := by kernel_rfl
theorem laidOut : laidOutB Tryd.prog = true := by kernel_rfl
theorem laid_tail {P : Program} {W : World} {x : String × DataW Unit} {r : List (String × DataW Unit)} (h : laidMet P (x :: r) W) : laidMet P r W := by
  obtain ⟨ps, ⟨g, t, cs, fuel, p, q, _, _, _, _, hq, rfl⟩, hnd, hall⟩ := h
  exact ⟨q, hq, (List.nodup_append.1 hnd).2.1, fun b off hm => hall b off (List.mem_append_right _ hm)⟩
theorem star : "*" ++ "errors.errorString" = "*errors.errorString" := by decide
theorem errRow (u : TypeId) (h : Tryd.prog.typeName? 3 u = some "*errors.errorString") : u = 150 :=
  typeName_ptr_named (nm := "errors.errorString") (by rw [star]; kernel_rfl) (by kernel_rfl) (by decide) u (by rw [star]; exact h)
theorem errVar {n : String} {g : Nat} {text : List UInt8} {r : List (String × DataW Unit)} {W : World} (h : laidMet Tryd.prog ((n, .iface "*errors.errorString" (.ptr (.agg [.lit (.string text)]))) :: r) W) (hg : Tryd.prog.globalNamed n = some g) (ht : (Tryd.prog.globals[g]?).map (·.type) = some 80) : ScVar W n := by
  obtain ⟨a, s, hv, _⟩ := laid_sentinel h hg ht Tryd.underlying80 errRow Tryd.underlying150 Tryd.underlying152 rfl rfl Tryd.underlying9 (by kernel_rfl) (by kernel_rfl)
  exact ⟨_, _, hv⟩
theorem tab {W : World} (h : laidMetH Tryd.prog Rows.scriptRulesBackRow.laid W) (hSh : W.ShapedOpen Tryd.prog) : ScTab W := by
  rw [MakeChecks.laidMetH_plain _ _ _ (by kernel_rfl)] at h
  have h3 := laid_tail (laid_tail h)
  have h5 := laid_tail (laid_tail h3)
  have h6 := laid_tail h5
  exact ⟨Lib.tabIs_of_head (zs := Lib.pow10Tab) (k := .u64) (g := (Tryd.prog.globalNamed "internal/strconv.uint64pow10").get (by kernel_rfl)) (t := 123) (e := 113) (n := 20) (Option.some_get _).symm (by kernel_rfl) (by kernel_rfl) (by kernel_rfl) (by kernel_rfl) (by kernel_rfl) h3,
    errVar (n := "strconv.ErrSyntax") (g := (Tryd.prog.globalNamed "strconv.ErrSyntax").get (by kernel_rfl)) h6 (Option.some_get _).symm (by kernel_rfl), errVar (n := "strconv.ErrRange") (g := (Tryd.prog.globalNamed "strconv.ErrRange").get (by kernel_rfl)) h5 (Option.some_get _).symm (by kernel_rfl), Go.Proofs.cell_of_shapedOpen_int (zero := #[.int .i64 0]) (t := 3) hSh (of_decide_eq_true (by kernel_rfl)) (by kernel_rfl) rfl (by kernel_rfl) (by kernel_rfl) Tryd.underlying3⟩
theorem len2 {α : Type} {l : List α} (h : l.length = 2) : ∃ a b, l = [a, b] := by
  match l, h with
  | [a, b], _ => exact ⟨a, b, rfl⟩
theorem len3 {α : Type} {l : List α} (h : l.length = 3) : ∃ a b c, l = [a, b, c] := by
  match l, h with
  | [a, b, c], _ => exact ⟨a, b, c, rfl⟩
theorem len6 {α : Type} {l : List α} (h : l.length = 6) : ∃ a b c d e f, l = [a, b, c, d, e, f] := by
  match l, h with
  | [a, b, c, d, e, f], _ => exact ⟨a, b, c, d, e, f, rfl⟩
section
variable {H : Type} {P : Program}
theorem wt_struct {fs : Array Field} {t : TypeId} {parts : List (DataW H)} {i : Nat} {f : Field} {d : DataW H} (hu : P.underlying t = some (.struct fs)) (hf : fs[i]? = some f) (hd : parts[i]? = some d) {n : Nat} (hn : n ∈ d.weights P f.type) : n ∈ (DataW.agg parts).weights P t := by
  simp only [DataW.weights, hu]
  exact DataW.weights_mem_each (j := i) (by rw [List.getElem?_map, Array.getElem?_toList, hf]; rfl) hd n hn
theorem wt_all {e : TypeId} : ∀ {elems : List (DataW H)} {i : Nat} {d : DataW H}, elems[i]? = some d → ∀ {n : Nat}, n ∈ d.weights P e → n ∈ DataW.weightsAll P e elems
  | x :: r, 0, d, hd, n, hn => by
    simp only [List.getElem?_cons_zero, Option.some.injEq] at hd
    subst hd
    simp only [DataW.weightsAll, List.mem_append]
    exact .inl hn
  | x :: r, i + 1, d, hd, n, hn => by
    simp only [List.getElem?_cons_succ] at hd
    simp only [DataW.weightsAll, List.mem_append]
    exact .inr (wt_all hd hn)
  | [], _, _, hd, _, _ => by simp at hd
theorem wt_slice {t e : TypeId} {elems spare : List (DataW H)} {i : Nat} {d : DataW H} (hu : P.underlying t = some (.slice e)) (hd : elems[i]? = some d) {n : Nat} (hn : n ∈ d.weights P e) : n ∈ (DataW.slice elems spare).weights P t := by
  simp only [DataW.weights, hu]
  exact List.mem_cons_of_mem _ (List.mem_append_left _ (wt_all hd hn))
theorem wt_len {t e : TypeId} {elems spare : List (DataW H)} (hu : P.underlying t = some (.slice e)) : (elems.length + spare.length) * P.bytesOf e ∈ (DataW.slice elems spare).weights P t := by
  simp [DataW.weights, hu]
end
theorem cF : Tryd.prog.cellsOf 49 = 2 := by kernel_rfl
theorem cS : Tryd.prog.cellsOf 9 = 1 := by kernel_rfl
theorem cR : Tryd.prog.cellsOf 51 = 6 := by kernel_rfl
theorem cM : Tryd.prog.cellsOf 45 = 3 := by kernel_rfl
theorem cI : Tryd.prog.cellsOf 3 = 1 := by kernel_rfl
theorem cB : Tryd.prog.cellsOf 4 = 1 := by kernel_rfl
theorem cFS : Tryd.prog.cellsOf 42 = 1 := by kernel_rfl
theorem cBS : Tryd.prog.cellsOf 43 = 1 := by kernel_rfl
theorem zF : Tryd.prog.bytesOf 49 = 32 := by kernel_rfl
theorem zU : Tryd.prog.bytesOf 5 = 1 := by kernel_rfl
section
variable {H : Type} {enc : TypeId × Value → H} {w : World} {base : Nat}
def Wt (x : DataW H) (t : TypeId) : Prop := ∀ n ∈ x.weights Tryd.prog t, n ≤ reachBytes
theorem reach : reachBytes ≤ 140737488355327 := by decide
theorem open_str {n : Nat} {v : Value} {x : DataW H × List MemPlace} (h : DataW.trod enc Tryd.prog w base (fun _ => true) true n 9 [v] = some x) (hw : Wt x.1 9) : ∃ u : ByteArray, v = .string u ∧ u.size ≤ 140737488355327 := by
  obtain ⟨u, e, rfl, _⟩ := DataW.trod_string Tryd.underlying9 h
  simp at e
  have := hw u.data.toList.length (by simp [DataW.weights])
  have h2 := reach
  exact ⟨u, e, by rw [Lib.size_eq]; omega⟩
theorem open_field {n : Nat} {cs : List Value} {x : DataW H × List MemPlace} (h : DataW.trod enc Tryd.prog w base (fun _ => true) true n 49 cs = some x) (hw : Wt x.1 49) : ∃ y : S49, cs = [.string y.f0, .string y.f1] ∧ y.f0.size ≤ 140737488355327 ∧ y.f1.size ≤ 140737488355327 := by
  obtain ⟨xs, m, _, rfl, hl, hxs, hf⟩ := DataW.trod_struct Tryd.underlying49 h
  rw [cF] at hl
  obtain ⟨a, b, rfl⟩ := len2 hl
  have h0 : DataW.trod enc Tryd.prog w base (fun _ => true) true m 9 (([a, b].drop 0).take (Tryd.prog.cellsOf 9)) = xs[0]? := hf 0 _ rfl
  have h1 : DataW.trod enc Tryd.prog w base (fun _ => true) true m 9 (([a, b].drop 1).take (Tryd.prog.cellsOf 9)) = xs[1]? := hf 1 _ rfl
  have hx2 : xs.length = 2 := hxs
  rw [cS, List.getElem?_eq_getElem (by omega)] at h0 h1
  obtain ⟨u, e0, q0⟩ := open_str h0 (fun z hz => hw z (wt_struct (i := 0) Tryd.underlying49 rfl (by rw [List.getElem?_map, List.getElem?_eq_getElem (by omega)]; rfl) hz))
  obtain ⟨v, e1, q1⟩ := open_str h1 (fun z hz => hw z (wt_struct (i := 1) Tryd.underlying49 rfl (by rw [List.getElem?_map, List.getElem?_eq_getElem (by omega)]; rfl) hz))
  exact ⟨⟨u, v⟩, by rw [e0, e1], q0, q1⟩
theorem open_fields {fuel : Nat} {v : Value} {x : DataW H × List MemPlace} (h : DataW.trod enc Tryd.prog w base (fun _ => true) true fuel 42 [v] = some x) (hw : Wt x.1 42) : ∃ (A : Option Addr) (cap : Nat) (l : List S49), v = .slice A l.length cap ∧ k49.C w A l.length l ∧ l.length ≤ cap ∧ strF l ∧ l.length ≤ 140737488355327 := by
  rcases DataW.trod_slice Tryd.underlying42 h with ⟨h0, _⟩ | ⟨a, len, cap, elems, rest, n, _, e, rfl, _, hl, hm, hlen, hel, _, _⟩
  · simp at h0
    exact ⟨none, 0, [], h0, ⟨rfl, by simp, fun h => by simp at h⟩, by simp, (fun y hy => by cases hy), by simp⟩
  · simp at e
    have hsz := hw _ (wt_len Tryd.underlying42)
    rw [zF, List.length_map, List.length_map, hlen] at hsz
    have hr := reach
    have each : ∀ i : Nat, ∃ y : S49, i < len → (w.cells? base (a.add (i * 2)) 2 = some [.string y.f0, .string y.f1] ∧ y.f0.size ≤ 140737488355327 ∧ y.f1.size ≤ 140737488355327) := by
      intro i
      by_cases hi : i < len
      · have := hel i hi
        rw [cF, List.getElem?_eq_getElem (by omega), Option.bind_eq_some_iff] at this
        obtain ⟨cs, h1, h2⟩ := this
        obtain ⟨y, rfl, q0, q1⟩ := open_field h2 (fun z hz => hw z (wt_slice (i := i) Tryd.underlying42 (by rw [List.getElem?_map, List.getElem?_eq_getElem (by omega)]; rfl) hz))
        exact ⟨y, fun _ => ⟨h1, q0, q1⟩⟩
      · exact ⟨z49, fun h => absurd h hi⟩
    obtain ⟨f, hf⟩ := Classical.axiomOfChoice each
    have hlen2 : ((List.range len).map f).length = len := by simp
    refine ⟨some a, cap, (List.range len).map f, by rw [hlen2]; exact e, ⟨rfl, by rw [hlen2]; omega, fun _ => ⟨a, rfl, fun j p hj => ?_⟩⟩, by rw [hlen2]; exact hl, ?_, by rw [hlen2]; omega⟩
    · have hjl : j < len := by
        have := (List.getElem?_eq_some_iff.1 hj).1
        rwa [hlen2] at this
      rw [List.getElem?_map, List.getElem?_range hjl] at hj
      obtain rfl := Option.some.inj hj
      refine ⟨_, rfl, k49_mk w (f j), fun i u hu => ?_⟩
      obtain ⟨_, _, hc⟩ := World.cells?_some (hf j hjl).1
      have hi3 : i < 2 := by
        have := (List.getElem?_eq_some_iff.1 hu).1
        simpa using this
      have := hc i hi3
      rw [hu] at this
      have hadd : (a.add (j * 2)).add i = a.add (j * 2 + i) := Addr.add_add _ _ _
      rw [hadd] at this
      exact this
    · intro y hy
      obtain ⟨j, hj, rfl⟩ := List.mem_map.1 hy
      have := (hf j (List.mem_range.1 hj)).2
      omega
theorem open_bytes {fuel : Nat} {v : Value} {x : DataW H × List MemPlace} (h : DataW.trod enc Tryd.prog w base (fun _ => true) true fuel 43 [v] = some x) (hw : Wt x.1 43) : ∃ (A : Option Addr) (cap : Nat) (l : List Int), v = .slice A l.length cap ∧ (Kd.int .u8).C w A l.length l ∧ l.length ≤ cap ∧ l.length ≤ 140737488355327 ∧ sc_okB l := by
  have hw2 := hw
  rcases open_ints Tryd.underlying43 Tryd.underlying5 (by kernel_rfl) h with ⟨hcs, _⟩ | ⟨x, l, c, zs, hcs, _, hl, hm, hz, rfl, hcell, hwf⟩
  · simp at hcs
    exact ⟨none, 0, [], hcs, ⟨rfl, by simp, fun h => by simp at h⟩, by simp, by simp, sc_okB_nil⟩
  · simp at hcs
    have hz2 : zs.length = c := by simpa using hz
    have hlen : (zs.take l).length = l := by rw [List.length_take]; omega
    have hmx : c ≤ 9223372036854775807 := by simpa [maxLen] using hm
    have hsz := hw2 _ (wt_len Tryd.underlying43)
    rw [zU] at hsz
    simp [lits, hz2] at hsz
    have hr := reach
    refine ⟨some x, c, zs.take l, by rw [hlen]; exact hcs, ⟨rfl, by rw [hlen]; omega, fun _ => ⟨x, rfl, fun j p hj => ?_⟩⟩, by rw [hlen]; exact hl, by rw [hlen]; omega, fun y hy => by
      have := hwf y (List.mem_of_mem_take hy)
      simp [Lit.wf, IntKind.min, IntKind.max, IntKind.signed, IntKind.bits] at this
      omega⟩
    have hj2 : j < l := by
      have := (List.getElem?_eq_some_iff.1 hj).1
      rwa [hlen] at this
    rw [List.getElem?_take, if_pos hj2] at hj
    refine ⟨[.int .u8 p], rfl, rfl, fun i u hu => ?_⟩
    obtain rfl : i = 0 := by
      have := (List.getElem?_eq_some_iff.1 hu).1
      simpa using this
    obtain rfl := Option.some.inj hu
    have h1 := hcell j (by omega)
    rw [List.getD_eq_getElem?_getD, hj] at h1
    show w.cell? (x.add (j * 1 + 0)) = _
    rw [Nat.mul_one, Nat.add_zero]
    exact h1
theorem open_rule {n : Nat} {cs : List Value} {x : DataW H × List MemPlace} (h : DataW.trod enc Tryd.prog w base (fun _ => true) true n 51 cs = some x) (hw : Wt x.1 51) : ∃ (y : S51) (A3 : Option Addr) (c3 : Nat) (A4 : Option Addr) (c4 : Nat), cs = [.string y.f0, .string y.f1, .int .i64 y.f2, .slice A3 y.f3.length c3, .slice A4 y.f4.length c4, .bool y.f5] ∧ y.f3.length ≤ c3 ∧ k49.C w A3 y.f3.length y.f3 ∧ y.f4.length ≤ c4 ∧ (Kd.int .u8).C w A4 y.f4.length y.f4 ∧ strR y ∧ sc_okR y := by
  obtain ⟨xs, m, _, rfl, hl, hxs, hf⟩ := DataW.trod_struct Tryd.underlying51 h
  rw [cR] at hl
  obtain ⟨a0, a1, a2, a3, a4, a5, rfl⟩ := len6 hl
  have h0 : DataW.trod enc Tryd.prog w base (fun _ => true) true m 9 (([a0, a1, a2, a3, a4, a5].drop 0).take (Tryd.prog.cellsOf 9)) = xs[0]? := hf 0 _ rfl
  have h1 : DataW.trod enc Tryd.prog w base (fun _ => true) true m 9 (([a0, a1, a2, a3, a4, a5].drop 1).take (Tryd.prog.cellsOf 9)) = xs[1]? := hf 1 _ rfl
  have h2 : DataW.trod enc Tryd.prog w base (fun _ => true) true m 3 (([a0, a1, a2, a3, a4, a5].drop 2).take (Tryd.prog.cellsOf 3)) = xs[2]? := hf 2 _ rfl
  have h3 : DataW.trod enc Tryd.prog w base (fun _ => true) true m 42 (([a0, a1, a2, a3, a4, a5].drop 3).take (Tryd.prog.cellsOf 42)) = xs[3]? := hf 3 _ rfl
  have h4 : DataW.trod enc Tryd.prog w base (fun _ => true) true m 43 (([a0, a1, a2, a3, a4, a5].drop 4).take (Tryd.prog.cellsOf 43)) = xs[4]? := hf 4 _ rfl
  have h5 : DataW.trod enc Tryd.prog w base (fun _ => true) true m 4 (([a0, a1, a2, a3, a4, a5].drop 5).take (Tryd.prog.cellsOf 4)) = xs[5]? := hf 5 _ rfl
  have hx6 : xs.length = 6 := hxs
  rw [cS, List.getElem?_eq_getElem (by omega)] at h0 h1
  rw [cI, List.getElem?_eq_getElem (by omega)] at h2
  rw [cFS, List.getElem?_eq_getElem (by omega)] at h3
  rw [cBS, List.getElem?_eq_getElem (by omega)] at h4
  rw [cB, List.getElem?_eq_getElem (by omega)] at h5
  obtain ⟨u0, rfl, q0⟩ := open_str h0 (fun z hz => hw z (wt_struct (i := 0) Tryd.underlying51 rfl (by rw [List.getElem?_map, List.getElem?_eq_getElem (by omega)]; rfl) hz))
  obtain ⟨u1, rfl, q1⟩ := open_str h1 (fun z hz => hw z (wt_struct (i := 1) Tryd.underlying51 rfl (by rw [List.getElem?_map, List.getElem?_eq_getElem (by omega)]; rfl) hz))
  obtain ⟨u2, e2, _, w2⟩ := DataW.trod_int Tryd.underlying3 h2
  obtain ⟨A3, c3, u3, rfl, C3, l3, s3, n3⟩ := open_fields h3 (fun z hz => hw z (wt_struct (i := 3) Tryd.underlying51 rfl (by rw [List.getElem?_map, List.getElem?_eq_getElem (by omega)]; rfl) hz))
  obtain ⟨A4, c4, u4, rfl, C4, l4, n4, o4⟩ := open_bytes h4 (fun z hz => hw z (wt_struct (i := 4) Tryd.underlying51 rfl (by rw [List.getElem?_map, List.getElem?_eq_getElem (by omega)]; rfl) hz))
  obtain ⟨u5, e5, _⟩ := DataW.trod_bool Tryd.underlying4 h5
  simp at e2 e5
  subst e2 e5
  simp [Lit.wf, IntKind.min, IntKind.max, IntKind.signed, IntKind.bits] at w2
  exact ⟨⟨u0, u1, u2, u3, u4, u5⟩, A3, c3, A4, c4, rfl, l3, C3, l4, C4, ⟨by show u0.size ≤ _; omega, by show u1.size ≤ _; omega, s3, by show u3.length ≤ _; omega, by show u4.length ≤ _; omega⟩, ⟨o4, ⟨by show _ ≤ u2; omega, by show u2 ≤ _; omega⟩⟩⟩
theorem open_rules {fuel : Nat} {v : Value} {x : DataW H × List MemPlace} (h : DataW.trod enc Tryd.prog w base (fun _ => true) true fuel 33 [v] = some x) (hw : Wt x.1 33) : ∃ (A : Option Addr) (cap : Nat) (l : List S51), v = .slice A l.length cap ∧ k51.C w A l.length l ∧ l.length ≤ cap ∧ (∀ y ∈ l, strR y ∧ sc_okR y) ∧ l.length ≤ 140737488355327 := by
  rcases DataW.trod_slice Tryd.underlying33 h with ⟨h0, _⟩ | ⟨a, len, cap, elems, rest, n, _, e, rfl, _, hl, hm, hlen, hel, _, _⟩
  · simp at h0
    exact ⟨none, 0, [], h0, ⟨rfl, by simp, fun h => by simp at h⟩, by simp, (fun y hy => by cases hy), by simp⟩
  · simp at e
    have hsz := hw _ (wt_len Tryd.underlying33)
    rw [show Tryd.prog.bytesOf 51 = 96 by kernel_rfl, List.length_map, List.length_map, hlen] at hsz
    have hr := reach
    have each : ∀ i : Nat, ∃ y : S51 × Option Addr × Nat × Option Addr × Nat, i < len → (w.cells? base (a.add (i * 6)) 6 = some [.string y.1.f0, .string y.1.f1, .int .i64 y.1.f2, .slice y.2.1 y.1.f3.length y.2.2.1, .slice y.2.2.2.1 y.1.f4.length y.2.2.2.2, .bool y.1.f5] ∧ (y.1.f3.length ≤ y.2.2.1 ∧ k49.C w y.2.1 y.1.f3.length y.1.f3 ∧ y.1.f4.length ≤ y.2.2.2.2 ∧ (Kd.int .u8).C w y.2.2.2.1 y.1.f4.length y.1.f4) ∧ strR y.1 ∧ sc_okR y.1) := by
      intro i
      by_cases hi : i < len
      · have := hel i hi
        rw [cR, List.getElem?_eq_getElem (by omega), Option.bind_eq_some_iff] at this
        obtain ⟨cs, h1, h2⟩ := this
        obtain ⟨y, A3, c3, A4, c4, rfl, p1, p2, p3, p4, p5⟩ := open_rule h2 (fun z hz => hw z (wt_slice (i := i) Tryd.underlying33 (by rw [List.getElem?_map, List.getElem?_eq_getElem (by omega)]; rfl) hz))
        exact ⟨⟨y, A3, c3, A4, c4⟩, fun _ => ⟨h1, ⟨p1, p2, p3, p4⟩, p5⟩⟩
      · exact ⟨⟨z51, none, 0, none, 0⟩, fun h => absurd h hi⟩
    obtain ⟨f, hf⟩ := Classical.axiomOfChoice each
    have hlen2 : ((List.range len).map (fun i => (f i).1)).length = len := by simp
    refine ⟨some a, cap, (List.range len).map (fun i => (f i).1), by rw [hlen2]; exact e, ⟨rfl, by rw [hlen2]; omega, fun _ => ⟨a, rfl, fun j p hj => ?_⟩⟩, by rw [hlen2]; exact hl, ?_, by rw [hlen2]; omega⟩
    · have hjl : j < len := by
        have := (List.getElem?_eq_some_iff.1 hj).1
        rwa [hlen2] at this
      rw [List.getElem?_map, List.getElem?_range hjl] at hj
      obtain rfl := Option.some.inj hj
      obtain ⟨hc0, ⟨p1, p2, p3, p4⟩, _⟩ := hf j hjl
      refine ⟨_, rfl, k51_mk w (f j).1 (A3 := (f j).2.1) (c3 := (f j).2.2.1) p1 p2 (A4 := (f j).2.2.2.1) (c4 := (f j).2.2.2.2) p3 p4, fun i u hu => ?_⟩
      obtain ⟨_, _, hc⟩ := World.cells?_some hc0
      have hi6 : i < 6 := by
        have := (List.getElem?_eq_some_iff.1 hu).1
        simpa using this
      have := hc i hi6
      rw [hu] at this
      have hadd : (a.add (j * 6)).add i = a.add (j * 6 + i) := Addr.add_add _ _ _
      rw [hadd] at this
      exact this
    · intro y hy
      obtain ⟨j, hj, rfl⟩ := List.mem_map.1 hy
      exact (hf j (List.mem_range.1 hj)).2.2
theorem open_message {n : Nat} {cs : List Value} {x : DataW H × List MemPlace} (h : DataW.trod enc Tryd.prog w base (fun _ => true) true n 45 cs = some x) (hw : Wt x.1 45) : ∃ (A0 : Option Addr) (c0 : Nat) (l0 : List S49) (A1 : Option Addr) (c1 : Nat) (l1 : List Int) (A2 : Option Addr) (c2 : Nat) (l2 : List S49), cs = [.slice A0 l0.length c0, .slice A1 l1.length c1, .slice A2 l2.length c2] ∧ k49.C w A0 l0.length l0 ∧ l0.length ≤ c0 ∧ (Kd.int .u8).C w A1 l1.length l1 ∧ l1.length ≤ c1 ∧ k49.C w A2 l2.length l2 ∧ l2.length ≤ c2 ∧ strF l0 ∧ strF l2 ∧ l0.length ≤ 140737488355327 ∧ l1.length ≤ 140737488355327 ∧ l2.length ≤ 140737488355327 ∧ sc_okB l1 := by
  obtain ⟨xs, m, _, rfl, hl, hxs, hf⟩ := DataW.trod_struct Tryd.underlying45 h
  rw [cM] at hl
  obtain ⟨a0, a1, a2, rfl⟩ := len3 hl
  have h0 : DataW.trod enc Tryd.prog w base (fun _ => true) true m 42 (([a0, a1, a2].drop 0).take (Tryd.prog.cellsOf 42)) = xs[0]? := hf 0 _ rfl
  have h1 : DataW.trod enc Tryd.prog w base (fun _ => true) true m 43 (([a0, a1, a2].drop 1).take (Tryd.prog.cellsOf 43)) = xs[1]? := hf 1 _ rfl
  have h2 : DataW.trod enc Tryd.prog w base (fun _ => true) true m 42 (([a0, a1, a2].drop 2).take (Tryd.prog.cellsOf 42)) = xs[2]? := hf 2 _ rfl
  have hx3 : xs.length = 3 := hxs
  rw [cFS, List.getElem?_eq_getElem (by omega)] at h0 h2
  rw [cBS, List.getElem?_eq_getElem (by omega)] at h1
  obtain ⟨A0, c0, u0, rfl, C0, l0, s0, n0⟩ := open_fields h0 (fun z hz => hw z (wt_struct (i := 0) Tryd.underlying45 rfl (by rw [List.getElem?_map, List.getElem?_eq_getElem (by omega)]; rfl) hz))
  obtain ⟨A1, c1, u1, rfl, C1, l1, n1, o1⟩ := open_bytes h1 (fun z hz => hw z (wt_struct (i := 1) Tryd.underlying45 rfl (by rw [List.getElem?_map, List.getElem?_eq_getElem (by omega)]; rfl) hz))
  obtain ⟨A2, c2, u2, rfl, C2, l2, s2, n2⟩ := open_fields h2 (fun z hz => hw z (wt_struct (i := 2) Tryd.underlying45 rfl (by rw [List.getElem?_map, List.getElem?_eq_getElem (by omega)]; rfl) hz))
  exact ⟨A0, c0, u0, A1, c1, u1, A2, c2, u2, rfl, C0, l0, C1, l1, C2, l2, s0, s2, n0, n1, n2, o1⟩
theorem cE : Tryd.prog.cellsOf 47 = 6 := by kernel_rfl
theorem cK : Tryd.prog.cellsOf 41 = 1 := by kernel_rfl
theorem open_event {n : Nat} {cs : List Value} {x : DataW H × List MemPlace} (h : DataW.trod enc Tryd.prog w base (fun _ => true) true n 47 cs = some x) (hw : Wt x.1 47) : ∃ (y : S47) (A2 : Option Addr) (c2 : Nat) (A3 : Option Addr) (c3 : Nat) (A4 : Option Addr) (c4 : Nat) (A5 : Option Addr) (c5 : Nat), cs = [.int .u8 y.f0, .int .i64 y.f1, .slice A2 y.f2.f0.length c2, .slice A3 y.f2.f1.length c3, .slice A4 y.f2.f2.length c4, .slice A5 y.f3.length c5] ∧ y.f2.f0.length ≤ c2 ∧ k49.C w A2 y.f2.f0.length y.f2.f0 ∧ y.f2.f1.length ≤ c3 ∧ (Kd.int .u8).C w A3 y.f2.f1.length y.f2.f1 ∧ y.f2.f2.length ≤ c4 ∧ k49.C w A4 y.f2.f2.length y.f2.f2 ∧ y.f3.length ≤ c5 ∧ (Kd.int .u8).C w A5 y.f3.length y.f3 ∧ strE y ∧ sc_okE y := by
  obtain ⟨xs, m, _, rfl, hl, hxs, hf⟩ := DataW.trod_struct Tryd.underlying47 h
  rw [cE] at hl
  obtain ⟨a0, a1, a2, a3, a4, a5, rfl⟩ := len6 hl
  have h0 : DataW.trod enc Tryd.prog w base (fun _ => true) true m 41 (([a0, a1, a2, a3, a4, a5].drop 0).take (Tryd.prog.cellsOf 41)) = xs[0]? := hf 0 _ rfl
  have h1 : DataW.trod enc Tryd.prog w base (fun _ => true) true m 3 (([a0, a1, a2, a3, a4, a5].drop 1).take (Tryd.prog.cellsOf 3)) = xs[1]? := hf 1 _ rfl
  have h2 : DataW.trod enc Tryd.prog w base (fun _ => true) true m 45 (([a0, a1, a2, a3, a4, a5].drop 2).take (Tryd.prog.cellsOf 45)) = xs[2]? := hf 2 _ rfl
  have h3 : DataW.trod enc Tryd.prog w base (fun _ => true) true m 43 (([a0, a1, a2, a3, a4, a5].drop 5).take (Tryd.prog.cellsOf 43)) = xs[3]? := hf 3 _ rfl
  have hx4 : xs.length = 4 := hxs
  rw [cK, List.getElem?_eq_getElem (by omega)] at h0
  rw [cI, List.getElem?_eq_getElem (by omega)] at h1
  rw [cM, List.getElem?_eq_getElem (by omega)] at h2
  rw [cBS, List.getElem?_eq_getElem (by omega)] at h3
  obtain ⟨u0, e0, _, w0⟩ := DataW.trod_int Tryd.underlying41 h0
  obtain ⟨u1, e1, _, w1⟩ := DataW.trod_int Tryd.underlying3 h1
  obtain ⟨A2, c2, u2, A3, c3, u3, A4, c4, u4, e2, C2, l2, C3, l3, C4, l4, s2, s4, n2, n3, n4, o3⟩ := open_message h2 (fun z hz => hw z (wt_struct (i := 2) Tryd.underlying47 rfl (by rw [List.getElem?_map, List.getElem?_eq_getElem (by omega)]; rfl) hz))
  obtain ⟨A5, c5, u5, rfl, C5, l5, n5, o5⟩ := open_bytes h3 (fun z hz => hw z (wt_struct (i := 3) Tryd.underlying47 rfl (by rw [List.getElem?_map, List.getElem?_eq_getElem (by omega)]; rfl) hz))
  simp at e0 e1 e2
  obtain ⟨rfl, rfl, rfl⟩ := e2
  subst e0 e1
  simp [Lit.wf, IntKind.min, IntKind.max, IntKind.signed, IntKind.bits] at w1
  exact ⟨⟨u0, u1, ⟨u2, u3, u4⟩, u5⟩, A2, c2, A3, c3, A4, c4, A5, c5, rfl, l2, C2, l3, C3, l4, C4, l5, C5, ⟨s2, by show u2.length ≤ _; omega, by show u3.length ≤ _; omega, s4, by show u4.length ≤ _; omega, by show u5.length ≤ _; omega⟩, ⟨o3, o5, ⟨by show _ ≤ u1; omega, by show u1 ≤ _; omega⟩⟩⟩
theorem open_events {fuel : Nat} {v : Value} {x : DataW H × List MemPlace} (h : DataW.trod enc Tryd.prog w base (fun _ => true) true fuel 22 [v] = some x) (hw : Wt x.1 22) : ∃ (A : Option Addr) (cap : Nat) (l : List S47), v = .slice A l.length cap ∧ k47.C w A l.length l ∧ l.length ≤ cap ∧ (∀ y ∈ l, strE y ∧ sc_okE y) ∧ l.length ≤ 140737488355327 := by
  rcases DataW.trod_slice Tryd.underlying22 h with ⟨h0, _⟩ | ⟨a, len, cap, elems, rest, n, _, e, rfl, _, hl, hm, hlen, hel, _, _⟩
  · simp at h0
    exact ⟨none, 0, [], h0, ⟨rfl, by simp, fun h => by simp at h⟩, by simp, (fun y hy => by cases hy), by simp⟩
  · simp at e
    have hsz := hw _ (wt_len Tryd.underlying22)
    rw [show Tryd.prog.bytesOf 47 = 112 by kernel_rfl, List.length_map, List.length_map, hlen] at hsz
    have hr := reach
    have each : ∀ i : Nat, ∃ y : S47, i < len → (∃ (A2 : Option Addr) (c2 : Nat) (A3 : Option Addr) (c3 : Nat) (A4 : Option Addr) (c4 : Nat) (A5 : Option Addr) (c5 : Nat), w.cells? base (a.add (i * 6)) 6 = some [.int .u8 y.f0, .int .i64 y.f1, .slice A2 y.f2.f0.length c2, .slice A3 y.f2.f1.length c3, .slice A4 y.f2.f2.length c4, .slice A5 y.f3.length c5] ∧ y.f2.f0.length ≤ c2 ∧ k49.C w A2 y.f2.f0.length y.f2.f0 ∧ y.f2.f1.length ≤ c3 ∧ (Kd.int .u8).C w A3 y.f2.f1.length y.f2.f1 ∧ y.f2.f2.length ≤ c4 ∧ k49.C w A4 y.f2.f2.length y.f2.f2 ∧ y.f3.length ≤ c5 ∧ (Kd.int .u8).C w A5 y.f3.length y.f3 ∧ strE y ∧ sc_okE y) := by
      intro i
      by_cases hi : i < len
      · have := hel i hi
        rw [cE, List.getElem?_eq_getElem (by omega), Option.bind_eq_some_iff] at this
        obtain ⟨cs, h1, h2⟩ := this
        obtain ⟨y, A2, c2, A3, c3, A4, c4, A5, c5, rfl, p⟩ := open_event h2 (fun z hz => hw z (wt_slice (i := i) Tryd.underlying22 (by rw [List.getElem?_map, List.getElem?_eq_getElem (by omega)]; rfl) hz))
        exact ⟨y, fun _ => ⟨A2, c2, A3, c3, A4, c4, A5, c5, h1, p⟩⟩
      · exact ⟨z47, fun h => absurd h hi⟩
    obtain ⟨f, hf⟩ := Classical.axiomOfChoice each
    have hlen2 : ((List.range len).map f).length = len := by simp
    refine ⟨some a, cap, (List.range len).map f, by rw [hlen2]; exact e, ⟨rfl, by rw [hlen2]; omega, fun _ => ⟨a, rfl, fun j p hj => ?_⟩⟩, by rw [hlen2]; exact hl, ?_, by rw [hlen2]; omega⟩
    · have hjl : j < len := by
        have := (List.getElem?_eq_some_iff.1 hj).1
        rwa [hlen2] at this
      rw [List.getElem?_map, List.getElem?_range hjl] at hj
      obtain rfl := Option.some.inj hj
      obtain ⟨A2, c2, A3, c3, A4, c4, A5, c5, hc0, l2, g2, l3, g3, l4, g4, l5, g5, _⟩ := hf j hjl
      refine ⟨_, rfl, k47_mk w (f j) l2 g2 l3 g3 l4 g4 l5 g5, fun i u hu => ?_⟩
      obtain ⟨_, _, hc⟩ := World.cells?_some hc0
      have hi6 : i < 6 := by
        have := (List.getElem?_eq_some_iff.1 hu).1
        simpa using this
      have := hc i hi6
      rw [hu] at this
      have hadd : (a.add (j * 6)).add i = a.add (j * 6 + i) := Addr.add_add _ _ _
      rw [hadd] at this
      exact this
    · intro y hy
      obtain ⟨j, hj, rfl⟩ := List.mem_map.1 hy
      obtain ⟨A2, c2, A3, c3, A4, c4, A5, c5, hc0, l2, g2, l3, g3, l4, g4, l5, g5, q⟩ := hf j (List.mem_range.1 hj)
      exact q
end
theorem door_met (os : Os) : laidMetH Tryd.prog Rows.scriptRulesBackRow.laid ((World.laidAll Tryd.prog os Rows.scriptRulesBackRow.laid).forCall (fun _ _ => 0) ⟨#[], #[.slice none 0 0, .string ⟨#[]⟩], []⟩).memory :=
  by rw [MakeChecks.laidMetH_plain _ _ _ (by kernel_rfl)]; exact laidMet_laidAll _ (by kernel_rfl) (by kernel_rfl)
theorem reads (os : Os) {H : Type} (enc : TypeId × Value → H) : ∃ places, DataW.whole enc Tryd.prog ((World.laidAll Tryd.prog os Rows.scriptRulesBackRow.laid).forCall (fun _ _ => 0) ⟨#[], #[.slice none 0 0, .string ⟨#[]⟩], []⟩).memory Tryd.f5.params.toList Rows.scriptRulesBackSpec.vars false (#[.slice none 0 0, .string ⟨#[]⟩] : Array Value).toList 8 = some ([.nil, .lit (.string [])], [], places) :=
  ⟨[], by kernel_rfl⟩
set_option maxRecDepth 100000 in
theorem lifted (os : Os) (started : os.Started) (H : Type) (enc : TypeId × Value → H) (F : Stop.Interp) :
    ReturnsInHanded {} Tryd.checked os 5 .any ((OpenSpec.ofChange Rows.scriptRulesBackSpec).preRow enc Tryd.prog Tryd.f5 Rows.scriptRulesBackRow.domain false Rows.scriptRulesBackRow.laid) (((OpenSpec.ofChange Rows.scriptRulesBackSpec).at F).post enc Tryd.prog Tryd.f5 false true false false) := by
  obtain ⟨places, hx⟩ := reads os enc
  have hAss : ∀ c, ({} : Assume).holds Tryd.checked.prog c := fun c => by simp [Assume.holds]
  have okB : Input.okWideB Tryd.prog ((World.laidAll Tryd.prog os Rows.scriptRulesBackRow.laid).forCall (fun _ _ => 0) ⟨#[], #[.slice none 0 0, .string ⟨#[]⟩], []⟩) 5 ⟨#[], #[.slice none 0 0, .string ⟨#[]⟩], []⟩ = true := by kernel_rfl
  refine returnsInHanded_of_row (C := Tryd.checked) (s := OpenSpec.ofChange Rows.scriptRulesBackSpec) own started (by kernel_rfl) Tryd.func5
    ⟨World.laidAll Tryd.prog os Rows.scriptRulesBackRow.laid, fun _ _ => 0, ⟨#[], #[.slice none 0 0, .string ⟨#[]⟩], []⟩, World.laidAll_os _ _ _, World.shaped_of_ZipB (by kernel_rfl) (by kernel_rfl),
      (Input.okWide_of_okWideB (base := 0) okB).1, (Input.okWide_of_okWideB okB).2,
      OpenSpec.preRow_of_cond 8 hx (by kernel_rfl) (fun k hk => by cases hk) (by kernel_rfl) (door_met os), hAss _⟩ ?_
  intro W base args ds gs before hval0 hW _ _ hsz0 hL hSh _
  have hsz : (DataW.weightsEach Tryd.prog (Tryd.f5.params.toList ++ Rows.scriptRulesBackSpec.plain.varTypes Tryd.prog) (ds ++ gs)).all (· ≤ reachBytes) = true := hsz0
  have hval : ∀ (j : Nat) t v, Tryd.f5.params[j]? = some t → args[j]? = some v → Value.okWide Tryd.prog W .any base t v := hval0
  have hW' := hW
  obtain ⟨p, q, hA0, hV, rfl, hfz, hnd⟩ := hW
  have hA : DataW.TrodAll enc Tryd.prog W 0 (fun _ => true) true Tryd.f5.params.toList args.toList ds p := hA0
  rw [Tryd.params5] at hA hval hsz
  obtain ⟨v0, vs0, d0, ds0, p0, q0, hargs, rfl, rfl, h0, r0⟩ := trodAll_cons hA
  obtain ⟨v1, vs1, d1, ds1, p1, q1, rfl, rfl, rfl, h1, r1⟩ := trodAll_cons r0
  obtain ⟨rfl, rfl, rfl⟩ := trodAll_nil r1
  obtain rfl : args = #[v0, v1] := by cases args; simp_all
  obtain ⟨rfl, rfl⟩ := trodVars_none hV
  have hwt0 : Wt d0 33 := fun z hz => by
    have := List.all_eq_true.1 hsz z (DataW.weights_mem_each (j := 0) rfl rfl z hz)
    simpa using this
  obtain ⟨a0, len0, cap0, rfl⟩ := okWide_slice Tryd.underlying33 (hval 0 33 v0 rfl rfl)
  have k0 := h0
  have lt0 : ∀ x ∈ p0, x.block < W.heap.size := by obtain ⟨m, hm⟩ := k0; exact DataW.trod_lt m _ _ _ hm
  obtain ⟨A, c, l, hv, hC, hcap, hR, hn⟩ : ∃ (A : Option Addr) (cap : Nat) (l : List S51), Value.slice a0 len0 cap0 = .slice A l.length cap ∧ k51.C W A l.length l ∧ l.length ≤ cap ∧ (∀ y ∈ l, strR y ∧ sc_okR y) ∧ l.length ≤ 140737488355327 := by
    obtain ⟨fuel, hf⟩ := h0
    exact open_rules hf hwt0
  obtain ⟨s, rfl⟩ := okWide_string Tryd.underlying9 (hval 1 9 v1 rfl rfl)
  have k1 := h1
  have lt1 : ∀ x ∈ p1, x.block < W.heap.size := by obtain ⟨m, hm⟩ := k1; exact DataW.trod_lt m _ _ _ hm
  rw [hv] at hW' k0 ⊢
  clear hA0 hval0 hsz0 hsz h0 h1
  refine (mailcoachlaw26_ScriptRulesBack.calls A c l s W hC hcap ⟨by omega, hR⟩ (tab hL hSh)).mono fun e W' ⟨he, bel⟩ => ?_
  subst he
  exact ⟨_, rfl, _, _, _, [], _, [], hW', trodAll_mk1 (shut_bool Tryd.underlying4 _), (trodAll_cons_mk (Below.trod laidOut (by kernel_rfl) (of_decide_eq_true (by kernel_rfl)) k0 bel lt0) (trodAll_cons_mk (Below.trod laidOut (by kernel_rfl) (of_decide_eq_true (by kernel_rfl)) k1 bel lt1) trodAll_mk0)), rfl, bel.frame _, fun h => by cases h⟩
theorem said : Rows.ScriptRulesBackSaid :=
  OpenClaim.holds_of_cond 5 Tryd.f5 rfl rfl rfl rfl rfl rfl rfl ⟨rfl, rfl, rfl, rfl, rfl⟩ rfl rfl rfl rfl rfl (by kernel_rfl) Tryd.func5 (by kernel_rfl)
    (of_decide_eq_true (by kernel_rfl)) (by unfold Func.isWrapper; first | (rw [if_pos (by decide +kernel)]; kernel_rfl) | (rw [if_neg (by decide +kernel)]; exact ⟨rfl, rfl⟩))
    (fun os started H enc _ F => by rw [OpenClaim.pre_eq_preRow]; exact lifted os started H enc F)
theorem plain (f : FuncId) (fn : Func) (hf : Tryd.pinned.checked.prog.funcNamed Rows.scriptRulesBackRow.func = some f) (hfn : Tryd.pinned.checked.prog.funcs[f]? = some fn) :
    true = Tryd.pinned.checked.prog.looks [] ∧ ∀ (j : Nat) t, fn.params[j]? = some t → Tryd.pinned.checked.prog.wantsStandIn t = false := by
  obtain rfl : f = 5 := Option.some.inj ((show Tryd.prog.funcNamed Rows.scriptRulesBackRow.func = some 5 by kernel_rfl).symm.trans hf) |>.symm
  obtain rfl : fn = Tryd.f5 := (Option.some.inj (Tryd.func5.symm.trans hfn)).symm
  refine ⟨by kernel_rfl, fun j t ht => ?_⟩
  rw [Tryd.params5] at ht
  have hm : t ∈ [33, 9] := by simpa using Array.mem_of_getElem? ht
  have hall : ([33, 9].all fun u => !Tryd.prog.wantsStandIn u) = true := by kernel_rfl
  exact (show Tryd.prog.wantsStandIn t = false by simpa using List.all_eq_true.1 hall t hm)
theorem card : Rows.ScriptRulesBackCardSaid :=
  Claim7.holds_tied_plain_at .later [] _ _ _ _ said (fun _ h => by cases h) (by kernel_rfl) (fun _ h => by cases h) scriptRulesBack_row_tie rfl ⟨rfl, rfl⟩ (by kernel_rfl) rfl plain (by kernel_rfl)
#print axioms card
end Go.Proofs.YtegmbihjjhhpmaaDoor.scriptRulesBack
namespace Go.Proofs.YtegmbihjjhhpmaaDoor
/-- The card, under a short name, for the claim. -/
theorem scriptRulesBack_holds : Rows.ScriptRulesBackCardSaid := scriptRulesBack.card
end Go.Proofs.YtegmbihjjhhpmaaDoor
