/-
  DERIVED. GIVEN WITH THE SEED: THE CARDS: each row of YtjjignoocaejiaaDoorRows.lean that lists a variable, with what it lists TIED to the program's text (the seventh form; the later family's looks); each row that meets fmt, with fmt's text TOLD by the authors' own Lean function (tested against real Go, not proved from fmt's source: count such statements apart). THE CARD IS WHAT COUNTS. Prove the row's statement (the work); the ties are given (YtjjignoocaejiaaDoorTie.lean); close each card by the builder's one call (the guide's Derived/Test/ToyasCard.lean, 'card_holds'). Laid BY PROGRAM, IN A SANDBOX (cutbox-door.mjs). By AI agents, Wed Nov 11 2026. No macro, syntax, notation, axiom, sorry.
-/
import Derived.Test.YtjjignoocaejiaaDoorRows
import GoSem.ClaimSeven
namespace Go.Proofs.YtjjignoocaejiaaDoor
namespace Rows

/-- THE TIED CARD OF 'mailcoachlaw23.PrioTexts'. -/
def prioTextsCard : Claim7 := { stood := { row := prioTextsRow, standIns := [], harness := (true, "49956a44ee16163a2fe0a85fd3cf211200c110f9f4da6913be28acba7b2927c3"), looks := false }, kinds := [], alts := [], laidByText := true, laidKinds := [.data, .data, .data, .data, .pinned], laidTests := true, laidLooks := .later }
def PrioTextsCardSaid : Prop := Claim7.holds Tryd.pinned (.plain (OpenSpec.ofChange prioTextsSpec)) prioTextsCard

/-- THE TIED CARD OF 'mailcoachlaw23.PrioPicks'. -/
def prioPicksCard : Claim7 := { stood := { row := prioPicksRow, standIns := [], harness := (true, "49956a44ee16163a2fe0a85fd3cf211200c110f9f4da6913be28acba7b2927c3"), looks := false }, kinds := [], alts := [], laidByText := true, laidKinds := [.data, .data, .data, .data, .pinned], laidTests := true, laidLooks := .later }
def PrioPicksCardSaid : Prop := Claim7.holds Tryd.pinned (.plain (OpenSpec.ofChange prioPicksSpec)) prioPicksCard

/-- THE TIED CARD OF 'mailcoachlaw23.PrioBack'. -/
def prioBackCard : Claim7 := { stood := { row := prioBackRow, standIns := [], harness := (true, "49956a44ee16163a2fe0a85fd3cf211200c110f9f4da6913be28acba7b2927c3"), looks := false }, kinds := [], alts := [], laidByText := true, laidKinds := [.data, .data, .data, .data, .pinned], laidTests := true, laidLooks := .later }
def PrioBackCardSaid : Prop := Claim7.holds Tryd.pinned (.plain (OpenSpec.ofChange prioBackSpec)) prioBackCard

/-- THE TIED CARD OF 'mailcoachlaw23.PrioTurns'. -/
def prioTurnsCard : Claim7 := { stood := { row := prioTurnsRow, standIns := [], harness := (true, "49956a44ee16163a2fe0a85fd3cf211200c110f9f4da6913be28acba7b2927c3"), looks := false }, kinds := [], alts := [], laidByText := true, laidKinds := [.data, .data, .data, .data, .pinned], laidTests := true, laidLooks := .later }
def PrioTurnsCardSaid : Prop := Claim7.holds Tryd.pinned (.plain (OpenSpec.ofChange prioTurnsSpec)) prioTurnsCard

/-- THE TIED CARD OF 'mailcoachlaw23.PrioFirst'. -/
def prioFirstCard : Claim7 := { stood := { row := prioFirstRow, standIns := [], harness := (true, "49956a44ee16163a2fe0a85fd3cf211200c110f9f4da6913be28acba7b2927c3"), looks := false }, kinds := [], alts := [], laidByText := true, laidKinds := [.data, .data, .data, .data, .pinned], laidTests := true, laidLooks := .later }
def PrioFirstCardSaid : Prop := Claim7.holds Tryd.pinned (.plain (OpenSpec.ofChange prioFirstSpec)) prioFirstCard

/-- THE SECOND FORM's CARD OF 'mailcoachlaw23.PrioTexts'. -/
def prioTextsUptoCard : Claim7 := { stood := { row := prioTextsUptoRow, standIns := [], harness := (true, "49956a44ee16163a2fe0a85fd3cf211200c110f9f4da6913be28acba7b2927c3"), looks := false }, kinds := [], alts := [], laidByText := true, laidKinds := [.data, .data, .data, .data, .pinned], laidTests := true, laidLooks := .later }
def PrioTextsUptoCardSaid : Prop := Claim7.holds Tryd.pinned (.plain (OpenSpec.upto prioTextsSpec)) prioTextsUptoCard

/-- THE SECOND FORM's CARD OF 'mailcoachlaw23.PrioPicks'. -/
def prioPicksUptoCard : Claim7 := { stood := { row := prioPicksUptoRow, standIns := [], harness := (true, "49956a44ee16163a2fe0a85fd3cf211200c110f9f4da6913be28acba7b2927c3"), looks := false }, kinds := [], alts := [], laidByText := true, laidKinds := [.data, .data, .data, .data, .pinned], laidTests := true, laidLooks := .later }
def PrioPicksUptoCardSaid : Prop := Claim7.holds Tryd.pinned (.plain (OpenSpec.upto prioPicksSpec)) prioPicksUptoCard

/-- THE SECOND FORM's CARD OF 'mailcoachlaw23.PrioBack'. -/
def prioBackUptoCard : Claim7 := { stood := { row := prioBackUptoRow, standIns := [], harness := (true, "49956a44ee16163a2fe0a85fd3cf211200c110f9f4da6913be28acba7b2927c3"), looks := false }, kinds := [], alts := [], laidByText := true, laidKinds := [.data, .data, .data, .data, .pinned], laidTests := true, laidLooks := .later }
def PrioBackUptoCardSaid : Prop := Claim7.holds Tryd.pinned (.plain (OpenSpec.upto prioBackSpec)) prioBackUptoCard

/-- THE SECOND FORM's CARD OF 'mailcoachlaw23.PrioTurns'. -/
def prioTurnsUptoCard : Claim7 := { stood := { row := prioTurnsUptoRow, standIns := [], harness := (true, "49956a44ee16163a2fe0a85fd3cf211200c110f9f4da6913be28acba7b2927c3"), looks := false }, kinds := [], alts := [], laidByText := true, laidKinds := [.data, .data, .data, .data, .pinned], laidTests := true, laidLooks := .later }
def PrioTurnsUptoCardSaid : Prop := Claim7.holds Tryd.pinned (.plain (OpenSpec.upto prioTurnsSpec)) prioTurnsUptoCard

/-- THE SECOND FORM's CARD OF 'mailcoachlaw23.PrioFirst'. -/
def prioFirstUptoCard : Claim7 := { stood := { row := prioFirstUptoRow, standIns := [], harness := (true, "49956a44ee16163a2fe0a85fd3cf211200c110f9f4da6913be28acba7b2927c3"), looks := false }, kinds := [], alts := [], laidByText := true, laidKinds := [.data, .data, .data, .data, .pinned], laidTests := true, laidLooks := .later }
def PrioFirstUptoCardSaid : Prop := Claim7.holds Tryd.pinned (.plain (OpenSpec.upto prioFirstSpec)) prioFirstUptoCard
end Rows
end Go.Proofs.YtjjignoocaejiaaDoor
