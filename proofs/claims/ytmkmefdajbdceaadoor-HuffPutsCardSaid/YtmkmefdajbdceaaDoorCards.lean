/-
  DERIVED. GIVEN WITH THE SEED: THE CARDS: each row of YtmkmefdajbdceaaDoorRows.lean that lists a variable, with what it lists TIED to the program's text (the seventh form; the later family's looks); each row that meets fmt, with fmt's text TOLD by the authors' own Lean function (tested against real Go, not proved from fmt's source: count such statements apart). THE CARD IS WHAT COUNTS. Prove the row's statement (the work); the ties are given (YtmkmefdajbdceaaDoorTie.lean); close each card by the builder's one call (the guide's Derived/Test/ToyasCard.lean, 'card_holds'). Laid BY PROGRAM, IN A SANDBOX (cutbox-door.mjs). By AI agents, Wed Nov 11 2026. No macro, syntax, notation, axiom, sorry.
-/
import Derived.Test.YtmkmefdajbdceaaDoorRows
import GoSem.ClaimSeven
namespace Go.Proofs.YtmkmefdajbdceaaDoor
namespace Rows

/-- THE TIED CARD OF 'mailcoachlaw01.VarintPuts'. -/
def varintPutsCard : Claim7 := { stood := { row := varintPutsRow, standIns := [], harness := (true, "2c642f15f3eba072b3f3d99676c3448b06aeaf33252a5e7afa8509851a6a7fd2"), looks := false }, kinds := [], alts := [], laidByText := true, laidKinds := [.data, .data, .data], laidTests := true, laidLooks := .later }
def VarintPutsCardSaid : Prop := Claim7.holds Tryd.pinned (.plain (OpenSpec.ofChange varintPutsSpec)) varintPutsCard

/-- THE TIED CARD OF 'mailcoachlaw01.VarintPrefixes'. -/
def varintPrefixesCard : Claim7 := { stood := { row := varintPrefixesRow, standIns := [], harness := (true, "2c642f15f3eba072b3f3d99676c3448b06aeaf33252a5e7afa8509851a6a7fd2"), looks := false }, kinds := [], alts := [], laidByText := true, laidKinds := [.data, .data, .data], laidTests := true, laidLooks := .later }
def VarintPrefixesCardSaid : Prop := Claim7.holds Tryd.pinned (.plain (OpenSpec.ofChange varintPrefixesSpec)) varintPrefixesCard

/-- THE TIED CARD OF 'mailcoachlaw10.HuffPuts'. -/
def huffPutsCard : Claim7 := { stood := { row := huffPutsRow, standIns := [], harness := (true, "2c642f15f3eba072b3f3d99676c3448b06aeaf33252a5e7afa8509851a6a7fd2"), looks := false }, kinds := [], alts := [], laidByText := true, laidKinds := [.data, .data, .data], laidTests := true, laidLooks := .later }
def HuffPutsCardSaid : Prop := Claim7.holds Tryd.pinned (.plain (OpenSpec.ofChange huffPutsSpec)) huffPutsCard

/-- THE SECOND FORM's CARD OF 'mailcoachlaw01.VarintPuts'. -/
def varintPutsUptoCard : Claim7 := { stood := { row := varintPutsUptoRow, standIns := [], harness := (true, "2c642f15f3eba072b3f3d99676c3448b06aeaf33252a5e7afa8509851a6a7fd2"), looks := false }, kinds := [], alts := [], laidByText := true, laidKinds := [.data, .data, .data], laidTests := true, laidLooks := .later }
def VarintPutsUptoCardSaid : Prop := Claim7.holds Tryd.pinned (.plain (OpenSpec.upto varintPutsSpec)) varintPutsUptoCard

/-- THE SECOND FORM's CARD OF 'mailcoachlaw01.VarintPrefixes'. -/
def varintPrefixesUptoCard : Claim7 := { stood := { row := varintPrefixesUptoRow, standIns := [], harness := (true, "2c642f15f3eba072b3f3d99676c3448b06aeaf33252a5e7afa8509851a6a7fd2"), looks := false }, kinds := [], alts := [], laidByText := true, laidKinds := [.data, .data, .data], laidTests := true, laidLooks := .later }
def VarintPrefixesUptoCardSaid : Prop := Claim7.holds Tryd.pinned (.plain (OpenSpec.upto varintPrefixesSpec)) varintPrefixesUptoCard

/-- THE SECOND FORM's CARD OF 'mailcoachlaw10.HuffPuts'. -/
def huffPutsUptoCard : Claim7 := { stood := { row := huffPutsUptoRow, standIns := [], harness := (true, "2c642f15f3eba072b3f3d99676c3448b06aeaf33252a5e7afa8509851a6a7fd2"), looks := false }, kinds := [], alts := [], laidByText := true, laidKinds := [.data, .data, .data], laidTests := true, laidLooks := .later }
def HuffPutsUptoCardSaid : Prop := Claim7.holds Tryd.pinned (.plain (OpenSpec.upto huffPutsSpec)) huffPutsUptoCard
end Rows
end Go.Proofs.YtmkmefdajbdceaaDoor
