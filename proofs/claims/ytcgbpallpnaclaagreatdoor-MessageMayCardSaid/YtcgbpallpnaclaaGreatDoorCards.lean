/-
  DERIVED. GIVEN WITH THE SEED: THE CARDS: each row of YtcgbpallpnaclaaGreatDoorRows.lean that lists a variable, with what it lists TIED to the program's text (the seventh form; the later family's looks); each row that meets fmt, with fmt's text TOLD by the authors' own Lean function (tested against real Go, not proved from fmt's source: count such statements apart). THE CARD IS WHAT COUNTS. Prove the row's statement (the work); the ties are given (YtcgbpallpnaclaaGreatDoorTie.lean); close each card by the builder's one call (the guide's Derived/Test/ToyasCard.lean, 'card_holds'). Laid BY PROGRAM, IN A SANDBOX (cutbox-door.mjs). By AI agents, Wed Nov 11 2026. No macro, syntax, notation, axiom, sorry.
-/
import Derived.Test.YtcgbpallpnaclaaGreatDoorRows
import GoSem.ClaimSeven
namespace Go.Proofs.YtcgbpallpnaclaaGreatDoor
namespace Rows

/-- THE TIED CARD OF 'mailcoachlaw22.MessageMay'. -/
def messageMayCard : Claim7 := { stood := { row := messageMayRow, standIns := [], harness := (true, "6b811aacd788b0ba63e345392cd3bb605bbc3d0dba3123c1922b86d4a8e17e58"), looks := true }, kinds := [], alts := [], laidByText := true, laidKinds := [.data, .data, .data, .data, .sentinel, .sentinel, .pinned], laidTests := true, laidLooks := .later }
def MessageMayCardSaid : Prop := Claim7.holds Tryz.pinned (.plain (OpenSpec.ofChange messageMaySpec)) messageMayCard

/-- THE TIED CARD OF 'mailcoachlaw22.MessageAnswers'. -/
def messageAnswersCard : Claim7 := { stood := { row := messageAnswersRow, standIns := [], harness := (true, "6b811aacd788b0ba63e345392cd3bb605bbc3d0dba3123c1922b86d4a8e17e58"), looks := true }, kinds := [], alts := [], laidByText := true, laidKinds := [.data, .data, .data, .data, .sentinel, .sentinel, .pinned], laidTests := true, laidLooks := .later }
def MessageAnswersCardSaid : Prop := Claim7.holds Tryz.pinned (.plain (OpenSpec.ofChange messageAnswersSpec)) messageAnswersCard

/-- THE SECOND FORM's CARD OF 'mailcoachlaw22.MessageMay'. -/
def messageMayUptoCard : Claim7 := { stood := { row := messageMayUptoRow, standIns := [], harness := (true, "6b811aacd788b0ba63e345392cd3bb605bbc3d0dba3123c1922b86d4a8e17e58"), looks := true }, kinds := [], alts := [], laidByText := true, laidKinds := [.data, .data, .data, .data, .sentinel, .sentinel, .pinned], laidTests := true, laidLooks := .later }
def MessageMayUptoCardSaid : Prop := Claim7.holds Tryz.pinned (.plain (OpenSpec.upto messageMaySpec)) messageMayUptoCard

/-- THE SECOND FORM's CARD OF 'mailcoachlaw22.MessageAnswers'. -/
def messageAnswersUptoCard : Claim7 := { stood := { row := messageAnswersUptoRow, standIns := [], harness := (true, "6b811aacd788b0ba63e345392cd3bb605bbc3d0dba3123c1922b86d4a8e17e58"), looks := true }, kinds := [], alts := [], laidByText := true, laidKinds := [.data, .data, .data, .data, .sentinel, .sentinel, .pinned], laidTests := true, laidLooks := .later }
def MessageAnswersUptoCardSaid : Prop := Claim7.holds Tryz.pinned (.plain (OpenSpec.upto messageAnswersSpec)) messageAnswersUptoCard
end Rows
end Go.Proofs.YtcgbpallpnaclaaGreatDoor
