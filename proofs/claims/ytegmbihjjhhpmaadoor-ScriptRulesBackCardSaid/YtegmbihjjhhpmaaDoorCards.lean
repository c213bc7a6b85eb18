/-
  DERIVED. GIVEN WITH THE SEED: THE CARDS: each row of YtegmbihjjhhpmaaDoorRows.lean that lists a variable, with what it lists TIED to the program's text (the seventh form; the later family's looks); each row that meets fmt, with fmt's text TOLD by the authors' own Lean function (tested against real Go, not proved from fmt's source: count such statements apart). THE CARD IS WHAT COUNTS. Prove the row's statement (the work); the ties are given (YtegmbihjjhhpmaaDoorTie.lean); close each card by the builder's one call (the guide's Derived/Test/ToyasCard.lean, 'card_holds'). Laid BY PROGRAM, IN A SANDBOX (cutbox-door.mjs). By AI agents, Wed Nov 11 2026. No macro, syntax, notation, axiom, sorry.
-/
import Derived.Test.YtegmbihjjhhpmaaDoorRows
import GoSem.ClaimSeven
namespace Go.Proofs.YtegmbihjjhhpmaaDoor
namespace Rows

/-- THE TIED CARD OF 'mailcoachlaw26.ScriptBack'. -/
def scriptBackCard : Claim7 := { stood := { row := scriptBackRow, standIns := [], harness := (true, "9be3339746562ae03e0ce562c88df3c3f41bc240af45e70ab91626a8f1ab1e22"), looks := true }, kinds := [], alts := [], laidByText := true, laidKinds := [.data, .data, .data, .data, .sentinel, .sentinel, .pinned], laidTests := true, laidLooks := .later }
def ScriptBackCardSaid : Prop := Claim7.holds Tryd.pinned (.plain (OpenSpec.ofChange scriptBackSpec)) scriptBackCard

/-- THE TIED CARD OF 'mailcoachlaw26.ScriptAgain'. -/
def scriptAgainCard : Claim7 := { stood := { row := scriptAgainRow, standIns := [], harness := (true, "9be3339746562ae03e0ce562c88df3c3f41bc240af45e70ab91626a8f1ab1e22"), looks := true }, kinds := [], alts := [], laidByText := true, laidKinds := [.data, .data, .data, .data, .sentinel, .sentinel, .pinned], laidTests := true, laidLooks := .later }
def ScriptAgainCardSaid : Prop := Claim7.holds Tryd.pinned (.plain (OpenSpec.ofChange scriptAgainSpec)) scriptAgainCard

/-- THE TIED CARD OF 'mailcoachlaw26.ScriptRulesBack'. -/
def scriptRulesBackCard : Claim7 := { stood := { row := scriptRulesBackRow, standIns := [], harness := (true, "9be3339746562ae03e0ce562c88df3c3f41bc240af45e70ab91626a8f1ab1e22"), looks := true }, kinds := [], alts := [], laidByText := true, laidKinds := [.data, .data, .data, .data, .sentinel, .sentinel, .pinned], laidTests := true, laidLooks := .later }
def ScriptRulesBackCardSaid : Prop := Claim7.holds Tryd.pinned (.plain (OpenSpec.ofChange scriptRulesBackSpec)) scriptRulesBackCard

/-- THE SECOND FORM's CARD OF 'mailcoachlaw26.ScriptBack'. -/
def scriptBackUptoCard : Claim7 := { stood := { row := scriptBackUptoRow, standIns := [], harness := (true, "9be3339746562ae03e0ce562c88df3c3f41bc240af45e70ab91626a8f1ab1e22"), looks := true }, kinds := [], alts := [], laidByText := true, laidKinds := [.data, .data, .data, .data, .sentinel, .sentinel, .pinned], laidTests := true, laidLooks := .later }
def ScriptBackUptoCardSaid : Prop := Claim7.holds Tryd.pinned (.plain (OpenSpec.upto scriptBackSpec)) scriptBackUptoCard

/-- THE SECOND FORM's CARD OF 'mailcoachlaw26.ScriptAgain'. -/
def scriptAgainUptoCard : Claim7 := { stood := { row := scriptAgainUptoRow, standIns := [], harness := (true, "9be3339746562ae03e0ce562c88df3c3f41bc240af45e70ab91626a8f1ab1e22"), looks := true }, kinds := [], alts := [], laidByText := true, laidKinds := [.data, .data, .data, .data, .sentinel, .sentinel, .pinned], laidTests := true, laidLooks := .later }
def ScriptAgainUptoCardSaid : Prop := Claim7.holds Tryd.pinned (.plain (OpenSpec.upto scriptAgainSpec)) scriptAgainUptoCard

/-- THE SECOND FORM's CARD OF 'mailcoachlaw26.ScriptRulesBack'. -/
def scriptRulesBackUptoCard : Claim7 := { stood := { row := scriptRulesBackUptoRow, standIns := [], harness := (true, "9be3339746562ae03e0ce562c88df3c3f41bc240af45e70ab91626a8f1ab1e22"), looks := true }, kinds := [], alts := [], laidByText := true, laidKinds := [.data, .data, .data, .data, .sentinel, .sentinel, .pinned], laidTests := true, laidLooks := .later }
def ScriptRulesBackUptoCardSaid : Prop := Claim7.holds Tryd.pinned (.plain (OpenSpec.upto scriptRulesBackSpec)) scriptRulesBackUptoCard
end Rows
end Go.Proofs.YtegmbihjjhhpmaaDoor
