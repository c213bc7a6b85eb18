/-
  DERIVED. GIVEN WITH THE SEED: THE CARDS: each row of YtcgbpallpnaclaaDoorRows.lean that lists a variable, with what it lists TIED to the program's text (the seventh form; the later family's looks); each row that meets fmt, with fmt's text TOLD by the authors' own Lean function (tested against real Go, not proved from fmt's source: count such statements apart). THE CARD IS WHAT COUNTS. Prove the row's statement (the work); the ties are given (YtcgbpallpnaclaaDoorTie.lean); close each card by the builder's one call (the guide's Derived/Test/ToyasCard.lean, 'card_holds'). Laid BY PROGRAM, IN A SANDBOX (cutbox-door.mjs). By AI agents, Wed Nov 11 2026. No macro, syntax, notation, axiom, sorry.
-/
import Derived.Test.YtcgbpallpnaclaaDoorRows
import GoSem.ClaimSeven
namespace Go.Proofs.YtcgbpallpnaclaaDoor
namespace Rows

/-- THE TIED CARD OF 'mailcoachlaw22.MessageGets'. -/
def messageGetsCard : Claim7 := { stood := { row := messageGetsRow, standIns := [], harness := (true, "48318fe21edae8f8613aa1a786a2dca69715cacfbff44ec6da72f4ebf70dc66d"), looks := true }, kinds := [], alts := [], laidByText := true, laidKinds := [.data, .data, .data, .data, .sentinel, .sentinel, .pinned], laidTests := true, laidLooks := .later }
def MessageGetsCardSaid : Prop := Claim7.holds Tryd.pinned (.plain (OpenSpec.ofChange messageGetsSpec)) messageGetsCard

/-- THE TIED CARD OF 'mailcoachlaw22.MessageFirst'. -/
def messageFirstCard : Claim7 := { stood := { row := messageFirstRow, standIns := [], harness := (true, "48318fe21edae8f8613aa1a786a2dca69715cacfbff44ec6da72f4ebf70dc66d"), looks := true }, kinds := [], alts := [], laidByText := true, laidKinds := [.data, .data, .data, .data, .sentinel, .sentinel, .pinned], laidTests := true, laidLooks := .later }
def MessageFirstCardSaid : Prop := Claim7.holds Tryd.pinned (.plain (OpenSpec.ofChange messageFirstSpec)) messageFirstCard

/-- THE TIED CARD OF 'mailcoachlaw22.MessageLength'. -/
def messageLengthCard : Claim7 := { stood := { row := messageLengthRow, standIns := [], harness := (true, "48318fe21edae8f8613aa1a786a2dca69715cacfbff44ec6da72f4ebf70dc66d"), looks := true }, kinds := [], alts := [], laidByText := true, laidKinds := [.data, .data, .data, .data, .sentinel, .sentinel, .pinned], laidTests := true, laidLooks := .later }
def MessageLengthCardSaid : Prop := Claim7.holds Tryd.pinned (.plain (OpenSpec.ofChange messageLengthSpec)) messageLengthCard

/-- THE TIED CARD OF 'mailcoachlaw22.MessageOrder'. -/
def messageOrderCard : Claim7 := { stood := { row := messageOrderRow, standIns := [], harness := (true, "48318fe21edae8f8613aa1a786a2dca69715cacfbff44ec6da72f4ebf70dc66d"), looks := true }, kinds := [], alts := [], laidByText := true, laidKinds := [.data, .data, .data, .data, .sentinel, .sentinel, .pinned], laidTests := true, laidLooks := .later }
def MessageOrderCardSaid : Prop := Claim7.holds Tryd.pinned (.plain (OpenSpec.ofChange messageOrderSpec)) messageOrderCard

/-- THE SECOND FORM's CARD OF 'mailcoachlaw22.MessageGets'. -/
def messageGetsUptoCard : Claim7 := { stood := { row := messageGetsUptoRow, standIns := [], harness := (true, "48318fe21edae8f8613aa1a786a2dca69715cacfbff44ec6da72f4ebf70dc66d"), looks := true }, kinds := [], alts := [], laidByText := true, laidKinds := [.data, .data, .data, .data, .sentinel, .sentinel, .pinned], laidTests := true, laidLooks := .later }
def MessageGetsUptoCardSaid : Prop := Claim7.holds Tryd.pinned (.plain (OpenSpec.upto messageGetsSpec)) messageGetsUptoCard

/-- THE SECOND FORM's CARD OF 'mailcoachlaw22.MessageFirst'. -/
def messageFirstUptoCard : Claim7 := { stood := { row := messageFirstUptoRow, standIns := [], harness := (true, "48318fe21edae8f8613aa1a786a2dca69715cacfbff44ec6da72f4ebf70dc66d"), looks := true }, kinds := [], alts := [], laidByText := true, laidKinds := [.data, .data, .data, .data, .sentinel, .sentinel, .pinned], laidTests := true, laidLooks := .later }
def MessageFirstUptoCardSaid : Prop := Claim7.holds Tryd.pinned (.plain (OpenSpec.upto messageFirstSpec)) messageFirstUptoCard

/-- THE SECOND FORM's CARD OF 'mailcoachlaw22.MessageLength'. -/
def messageLengthUptoCard : Claim7 := { stood := { row := messageLengthUptoRow, standIns := [], harness := (true, "48318fe21edae8f8613aa1a786a2dca69715cacfbff44ec6da72f4ebf70dc66d"), looks := true }, kinds := [], alts := [], laidByText := true, laidKinds := [.data, .data, .data, .data, .sentinel, .sentinel, .pinned], laidTests := true, laidLooks := .later }
def MessageLengthUptoCardSaid : Prop := Claim7.holds Tryd.pinned (.plain (OpenSpec.upto messageLengthSpec)) messageLengthUptoCard

/-- THE SECOND FORM's CARD OF 'mailcoachlaw22.MessageOrder'. -/
def messageOrderUptoCard : Claim7 := { stood := { row := messageOrderUptoRow, standIns := [], harness := (true, "48318fe21edae8f8613aa1a786a2dca69715cacfbff44ec6da72f4ebf70dc66d"), looks := true }, kinds := [], alts := [], laidByText := true, laidKinds := [.data, .data, .data, .data, .sentinel, .sentinel, .pinned], laidTests := true, laidLooks := .later }
def MessageOrderUptoCardSaid : Prop := Claim7.holds Tryd.pinned (.plain (OpenSpec.upto messageOrderSpec)) messageOrderUptoCard
end Rows
end Go.Proofs.YtcgbpallpnaclaaDoor
