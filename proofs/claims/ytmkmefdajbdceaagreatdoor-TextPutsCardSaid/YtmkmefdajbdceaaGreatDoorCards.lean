/-
  DERIVED. GIVEN WITH THE SEED: THE CARDS: each row of YtmkmefdajbdceaaGreatDoorRows.lean that lists a variable, with what it lists TIED to the program's text (the seventh form; the later family's looks); each row that meets fmt, with fmt's text TOLD by the authors' own Lean function (tested against real Go, not proved from fmt's source: count such statements apart). THE CARD IS WHAT COUNTS. Prove the row's statement (the work); the ties are given (YtmkmefdajbdceaaGreatDoorTie.lean); close each card by the builder's one call (the guide's Derived/Test/ToyasCard.lean, 'card_holds'). Laid BY PROGRAM, IN A SANDBOX (cutbox-door.mjs). By AI agents, Wed Nov 11 2026. No macro, syntax, notation, axiom, sorry.
-/
import Derived.Test.YtmkmefdajbdceaaGreatDoorRows
import GoSem.ClaimSeven
namespace Go.Proofs.YtmkmefdajbdceaaGreatDoor
namespace Rows

/-- THE TIED CARD OF 'mailcoachlaw11.TextPuts'. -/
def textPutsCard : Claim7 := { stood := { row := textPutsRow, standIns := [], harness := (true, "98eb3ca3fa4118708a650e0682754f49153cb23a528de8d09c7a58ddce71a203"), looks := false }, kinds := [], alts := [], laidByText := true, laidKinds := [.data, .data, .data], laidTests := true, laidLooks := .later }
def TextPutsCardSaid : Prop := Claim7.holds Tryz.pinned (.plain (OpenSpec.ofChange textPutsSpec)) textPutsCard

/-- THE SECOND FORM's CARD OF 'mailcoachlaw11.TextPuts'. -/
def textPutsUptoCard : Claim7 := { stood := { row := textPutsUptoRow, standIns := [], harness := (true, "98eb3ca3fa4118708a650e0682754f49153cb23a528de8d09c7a58ddce71a203"), looks := false }, kinds := [], alts := [], laidByText := true, laidKinds := [.data, .data, .data], laidTests := true, laidLooks := .later }
def TextPutsUptoCardSaid : Prop := Claim7.holds Tryz.pinned (.plain (OpenSpec.upto textPutsSpec)) textPutsUptoCard
end Rows
end Go.Proofs.YtmkmefdajbdceaaGreatDoor
