/-
  No cell of these rows narrows 'for every input' (looked for: loops, veiled, ifaces, maps, wideKeys, modest, calm, conditions, laid).
  DERIVED. THE GIVEN ROWS OF THIS SEAT. 17 by the template 'for every input the law returns true; each argument reads behind the call as it read before'; 0 by the template 'total and deterministic' (their statements: YtmkmefdajbdceaaTotals.lean).
  GIVEN WITH THE SEED: the statements are not yours to turn. If you find one false, say at which input.
  Laid BY PROGRAM, IN A SANDBOX (cutbox-rows.mjs): the forced cells as the released guide's own fill.sh prints them over the translation 86a630eb79586cce… (all of the seat's roots in one cut). By AI agents, Wed Nov 11 2026. No macro, syntax, notation, axiom, sorry.
-/
import Derived.Test.YtmkmefdajbdceaaChecked
import GoSem.Claim
import GoSem.ClaimJoined
import GoSem.ClaimMapViews
import Derived.JoinedTies
import Derived.KernelRfl
namespace Go.Proofs.Ytmkmefdajbdceaa
/- THE CELL 'sum', in the pinned program and in every row, IS THE sha256 OF THE DUMP (.gsa) THAT YtmkmefdajbdceaaProg.lean LOADS. Nothing in Lean hashes anything: it is a label: what it is worth is what the hold of that sum in a sandbox is worth. -/
noncomputable def Try.pinned : Pinned := { name := "ytmkmefdajbdceaa", sum := "86a630eb79586cce9874a8d933ad7a193c75ff4d504f8b075920b3f8ec445206", checked := Try.checked }
namespace Rows
def none {H : Type} : Left H := { results := [], args := [] }

/-- 'mailcoachlaw01.VarintGets': WHATEVER THE INPUT: true; the input reads as it did. -/
def varintGetsSpec : ChangeSpec := { name := "varintGets", fn := fun _ => fun
  | [d] => { results := [.lit (.bool true)], args := [d] }
  | _ => none }
def varintGetsRow : OpenClaim := { program := "ytmkmefdajbdceaa", sum := "86a630eb79586cce9874a8d933ad7a193c75ff4d504f8b075920b3f8ec445206", func := "mailcoach/mailcoachlaw01.VarintGets", spec := "varintGets", plainKeys := false, apart := false }
def VarintGetsSaid : Prop := varintGetsRow.holds Try.pinned (OpenSpec.ofChange varintGetsSpec)

/-- ITS FALSE NEIGHBOUR: 'it returns false'. Refute it at one input. -/
def varintGetsWrong : ChangeSpec := { name := "varintGets", fn := fun _ => fun
  | [d] => { results := [.lit (.bool false)], args := [d] }
  | _ => none }
def VarintGetsWrongFalsely : Prop := varintGetsRow.holds Try.pinned (OpenSpec.ofChange varintGetsWrong)

/-- 'mailcoachlaw01.VarintReads': WHATEVER THE INPUT: true; the input reads as it did. -/
def varintReadsSpec : ChangeSpec := { name := "varintReads", fn := fun _ => fun
  | [d1, d2] => { results := [.lit (.bool true)], args := [d1, d2] }
  | _ => none }
def varintReadsRow : OpenClaim := { program := "ytmkmefdajbdceaa", sum := "86a630eb79586cce9874a8d933ad7a193c75ff4d504f8b075920b3f8ec445206", func := "mailcoach/mailcoachlaw01.VarintReads", spec := "varintReads", plainKeys := false, apart := false }
def VarintReadsSaid : Prop := varintReadsRow.holds Try.pinned (OpenSpec.ofChange varintReadsSpec)

/-- ITS FALSE NEIGHBOUR: 'it returns false'. Refute it at one input. -/
def varintReadsWrong : ChangeSpec := { name := "varintReads", fn := fun _ => fun
  | [d1, d2] => { results := [.lit (.bool false)], args := [d1, d2] }
  | _ => none }
def VarintReadsWrongFalsely : Prop := varintReadsRow.holds Try.pinned (OpenSpec.ofChange varintReadsWrong)

/-- 'mailcoachlaw10.HuffGets': WHATEVER THE INPUT: true; the input reads as it did. -/
def huffGetsSpec : ChangeSpec := { name := "huffGets", fn := fun _ => fun
  | [d] => { results := [.lit (.bool true)], args := [d] }
  | _ => none }
def huffGetsRow : OpenClaim := { program := "ytmkmefdajbdceaa", sum := "86a630eb79586cce9874a8d933ad7a193c75ff4d504f8b075920b3f8ec445206", func := "mailcoach/mailcoachlaw10.HuffGets", spec := "huffGets", plainKeys := false, apart := false }
def HuffGetsSaid : Prop := huffGetsRow.holds Try.pinned (OpenSpec.ofChange huffGetsSpec)

/-- ITS FALSE NEIGHBOUR: 'it returns false'. Refute it at one input. -/
def huffGetsWrong : ChangeSpec := { name := "huffGets", fn := fun _ => fun
  | [d] => { results := [.lit (.bool false)], args := [d] }
  | _ => none }
def HuffGetsWrongFalsely : Prop := huffGetsRow.holds Try.pinned (OpenSpec.ofChange huffGetsWrong)

/-- 'mailcoachlaw01.VarintBack': WHATEVER THE INPUT: true; the input reads as it did. -/
def varintBackSpec : ChangeSpec := { name := "varintBack", fn := fun _ => fun
  | [d1, d2] => { results := [.lit (.bool true)], args := [d1, d2] }
  | _ => none }
def varintBackRow : OpenClaim := { program := "ytmkmefdajbdceaa", sum := "86a630eb79586cce9874a8d933ad7a193c75ff4d504f8b075920b3f8ec445206", func := "mailcoach/mailcoachlaw01.VarintBack", spec := "varintBack", unfollowed := true, recurses := true, plainKeys := false, apart := false }
def VarintBackSaid : Prop := varintBackRow.holds Try.pinned (OpenSpec.ofChange varintBackSpec)

/-- ITS FALSE NEIGHBOUR: 'it returns false'. Refute it at one input. -/
def varintBackWrong : ChangeSpec := { name := "varintBack", fn := fun _ => fun
  | [d1, d2] => { results := [.lit (.bool false)], args := [d1, d2] }
  | _ => none }
def VarintBackWrongFalsely : Prop := varintBackRow.holds Try.pinned (OpenSpec.ofChange varintBackWrong)

/-- 'mailcoachlaw01.VarintOrder': WHATEVER THE INPUT: true; the input reads as it did. -/
def varintOrderSpec : ChangeSpec := { name := "varintOrder", fn := fun _ => fun
  | [d1, d2] => { results := [.lit (.bool true)], args := [d1, d2] }
  | _ => none }
def varintOrderRow : OpenClaim := { program := "ytmkmefdajbdceaa", sum := "86a630eb79586cce9874a8d933ad7a193c75ff4d504f8b075920b3f8ec445206", func := "mailcoach/mailcoachlaw01.VarintOrder", spec := "varintOrder", unfollowed := true, recurses := true, plainKeys := false, apart := false }
def VarintOrderSaid : Prop := varintOrderRow.holds Try.pinned (OpenSpec.ofChange varintOrderSpec)

/-- ITS FALSE NEIGHBOUR: 'it returns false'. Refute it at one input. -/
def varintOrderWrong : ChangeSpec := { name := "varintOrder", fn := fun _ => fun
  | [d1, d2] => { results := [.lit (.bool false)], args := [d1, d2] }
  | _ => none }
def VarintOrderWrongFalsely : Prop := varintOrderRow.holds Try.pinned (OpenSpec.ofChange varintOrderWrong)

/-- 'mailcoachlaw01.VarintPrefixBack': WHATEVER THE INPUT: true; the input reads as it did. -/
def varintPrefixBackSpec : ChangeSpec := { name := "varintPrefixBack", fn := fun _ => fun
  | [d1, d2, d3] => { results := [.lit (.bool true)], args := [d1, d2, d3] }
  | _ => none }
def varintPrefixBackRow : OpenClaim := { program := "ytmkmefdajbdceaa", sum := "86a630eb79586cce9874a8d933ad7a193c75ff4d504f8b075920b3f8ec445206", func := "mailcoach/mailcoachlaw01.VarintPrefixBack", spec := "varintPrefixBack", unfollowed := true, recurses := true, plainKeys := false, apart := false }
def VarintPrefixBackSaid : Prop := varintPrefixBackRow.holds Try.pinned (OpenSpec.ofChange varintPrefixBackSpec)

/-- ITS FALSE NEIGHBOUR: 'it returns false'. Refute it at one input. -/
def varintPrefixBackWrong : ChangeSpec := { name := "varintPrefixBack", fn := fun _ => fun
  | [d1, d2, d3] => { results := [.lit (.bool false)], args := [d1, d2, d3] }
  | _ => none }
def VarintPrefixBackWrongFalsely : Prop := varintPrefixBackRow.holds Try.pinned (OpenSpec.ofChange varintPrefixBackWrong)

/-- 'mailcoachlaw01.VarintAgain': WHATEVER THE INPUT: true; the input reads as it did. -/
def varintAgainSpec : ChangeSpec := { name := "varintAgain", fn := fun _ => fun
  | [d1, d2] => { results := [.lit (.bool true)], args := [d1, d2] }
  | _ => none }
def varintAgainRow : OpenClaim := { program := "ytmkmefdajbdceaa", sum := "86a630eb79586cce9874a8d933ad7a193c75ff4d504f8b075920b3f8ec445206", func := "mailcoach/mailcoachlaw01.VarintAgain", spec := "varintAgain", unfollowed := true, recurses := true, plainKeys := false, apart := false }
def VarintAgainSaid : Prop := varintAgainRow.holds Try.pinned (OpenSpec.ofChange varintAgainSpec)

/-- ITS FALSE NEIGHBOUR: 'it returns false'. Refute it at one input. -/
def varintAgainWrong : ChangeSpec := { name := "varintAgain", fn := fun _ => fun
  | [d1, d2] => { results := [.lit (.bool false)], args := [d1, d2] }
  | _ => none }
def VarintAgainWrongFalsely : Prop := varintAgainRow.holds Try.pinned (OpenSpec.ofChange varintAgainWrong)

/-- 'mailcoachlaw01.VarintApart': WHATEVER THE INPUT: true; the input reads as it did. -/
def varintApartSpec : ChangeSpec := { name := "varintApart", fn := fun _ => fun
  | [d1, d2, d3] => { results := [.lit (.bool true)], args := [d1, d2, d3] }
  | _ => none }
def varintApartRow : OpenClaim := { program := "ytmkmefdajbdceaa", sum := "86a630eb79586cce9874a8d933ad7a193c75ff4d504f8b075920b3f8ec445206", func := "mailcoach/mailcoachlaw01.VarintApart", spec := "varintApart", unfollowed := true, recurses := true, plainKeys := false, apart := false }
def VarintApartSaid : Prop := varintApartRow.holds Try.pinned (OpenSpec.ofChange varintApartSpec)

/-- ITS FALSE NEIGHBOUR: 'it returns false'. Refute it at one input. -/
def varintApartWrong : ChangeSpec := { name := "varintApart", fn := fun _ => fun
  | [d1, d2, d3] => { results := [.lit (.bool false)], args := [d1, d2, d3] }
  | _ => none }
def VarintApartWrongFalsely : Prop := varintApartRow.holds Try.pinned (OpenSpec.ofChange varintApartWrong)

/-- 'mailcoachlaw10.HuffOne': WHATEVER THE INPUT: true; the input reads as it did. -/
def huffOneSpec : ChangeSpec := { name := "huffOne", fn := fun _ => fun
  | [d] => { results := [.lit (.bool true)], args := [d] }
  | _ => none }
def huffOneRow : OpenClaim := { program := "ytmkmefdajbdceaa", sum := "86a630eb79586cce9874a8d933ad7a193c75ff4d504f8b075920b3f8ec445206", func := "mailcoach/mailcoachlaw10.HuffOne", spec := "huffOne", unfollowed := true, recurses := true, plainKeys := false, apart := false }
def HuffOneSaid : Prop := huffOneRow.holds Try.pinned (OpenSpec.ofChange huffOneSpec)

/-- ITS FALSE NEIGHBOUR: 'it returns false'. Refute it at one input. -/
def huffOneWrong : ChangeSpec := { name := "huffOne", fn := fun _ => fun
  | [d] => { results := [.lit (.bool false)], args := [d] }
  | _ => none }
def HuffOneWrongFalsely : Prop := huffOneRow.holds Try.pinned (OpenSpec.ofChange huffOneWrong)

/-- 'mailcoachlaw10.HuffBack': WHATEVER THE INPUT: true; the input reads as it did. -/
def huffBackSpec : ChangeSpec := { name := "huffBack", fn := fun _ => fun
  | [d] => { results := [.lit (.bool true)], args := [d] }
  | _ => none }
def huffBackRow : OpenClaim := { program := "ytmkmefdajbdceaa", sum := "86a630eb79586cce9874a8d933ad7a193c75ff4d504f8b075920b3f8ec445206", func := "mailcoach/mailcoachlaw10.HuffBack", spec := "huffBack", unfollowed := true, recurses := true, plainKeys := false, apart := false }
def HuffBackSaid : Prop := huffBackRow.holds Try.pinned (OpenSpec.ofChange huffBackSpec)

/-- ITS FALSE NEIGHBOUR: 'it returns false'. Refute it at one input. -/
def huffBackWrong : ChangeSpec := { name := "huffBack", fn := fun _ => fun
  | [d] => { results := [.lit (.bool false)], args := [d] }
  | _ => none }
def HuffBackWrongFalsely : Prop := huffBackRow.holds Try.pinned (OpenSpec.ofChange huffBackWrong)

/-- 'mailcoachlaw10.HuffJoins': WHATEVER THE INPUT: true; the input reads as it did. -/
def huffJoinsSpec : ChangeSpec := { name := "huffJoins", fn := fun _ => fun
  | [d1, d2] => { results := [.lit (.bool true)], args := [d1, d2] }
  | _ => none }
def huffJoinsRow : OpenClaim := { program := "ytmkmefdajbdceaa", sum := "86a630eb79586cce9874a8d933ad7a193c75ff4d504f8b075920b3f8ec445206", func := "mailcoach/mailcoachlaw10.HuffJoins", spec := "huffJoins", unfollowed := true, recurses := true, plainKeys := false, apart := false }
def HuffJoinsSaid : Prop := huffJoinsRow.holds Try.pinned (OpenSpec.ofChange huffJoinsSpec)

/-- ITS FALSE NEIGHBOUR: 'it returns false'. Refute it at one input. -/
def huffJoinsWrong : ChangeSpec := { name := "huffJoins", fn := fun _ => fun
  | [d1, d2] => { results := [.lit (.bool false)], args := [d1, d2] }
  | _ => none }
def HuffJoinsWrongFalsely : Prop := huffJoinsRow.holds Try.pinned (OpenSpec.ofChange huffJoinsWrong)

/-- 'mailcoachlaw10.HuffWords': WHATEVER THE INPUT: true; the input reads as it did. -/
def huffWordsSpec : ChangeSpec := { name := "huffWords", fn := fun _ => fun
  | [d1, d2] => { results := [.lit (.bool true)], args := [d1, d2] }
  | _ => none }
def huffWordsRow : OpenClaim := { program := "ytmkmefdajbdceaa", sum := "86a630eb79586cce9874a8d933ad7a193c75ff4d504f8b075920b3f8ec445206", func := "mailcoach/mailcoachlaw10.HuffWords", spec := "huffWords", unfollowed := true, recurses := true, plainKeys := false, apart := false }
def HuffWordsSaid : Prop := huffWordsRow.holds Try.pinned (OpenSpec.ofChange huffWordsSpec)

/-- ITS FALSE NEIGHBOUR: 'it returns false'. Refute it at one input. -/
def huffWordsWrong : ChangeSpec := { name := "huffWords", fn := fun _ => fun
  | [d1, d2] => { results := [.lit (.bool false)], args := [d1, d2] }
  | _ => none }
def HuffWordsWrongFalsely : Prop := huffWordsRow.holds Try.pinned (OpenSpec.ofChange huffWordsWrong)

/-- 'mailcoachlaw11.TextGets': WHATEVER THE INPUT: true; the input reads as it did. -/
def textGetsSpec : ChangeSpec := { name := "textGets", fn := fun _ => fun
  | [d1, d2] => { results := [.lit (.bool true)], args := [d1, d2] }
  | _ => none }
def textGetsRow : OpenClaim := { program := "ytmkmefdajbdceaa", sum := "86a630eb79586cce9874a8d933ad7a193c75ff4d504f8b075920b3f8ec445206", func := "mailcoach/mailcoachlaw11.TextGets", spec := "textGets", plainKeys := false, apart := false }
def TextGetsSaid : Prop := textGetsRow.holds Try.pinned (OpenSpec.ofChange textGetsSpec)

/-- ITS FALSE NEIGHBOUR: 'it returns false'. Refute it at one input. -/
def textGetsWrong : ChangeSpec := { name := "textGets", fn := fun _ => fun
  | [d1, d2] => { results := [.lit (.bool false)], args := [d1, d2] }
  | _ => none }
def TextGetsWrongFalsely : Prop := textGetsRow.holds Try.pinned (OpenSpec.ofChange textGetsWrong)

/-- 'mailcoachlaw11.TextBack': WHATEVER THE INPUT: true; the input reads as it did. -/
def textBackSpec : ChangeSpec := { name := "textBack", fn := fun _ => fun
  | [d1, d2, d3] => { results := [.lit (.bool true)], args := [d1, d2, d3] }
  | _ => none }
def textBackRow : OpenClaim := { program := "ytmkmefdajbdceaa", sum := "86a630eb79586cce9874a8d933ad7a193c75ff4d504f8b075920b3f8ec445206", func := "mailcoach/mailcoachlaw11.TextBack", spec := "textBack", unfollowed := true, recurses := true, plainKeys := false, apart := false }
def TextBackSaid : Prop := textBackRow.holds Try.pinned (OpenSpec.ofChange textBackSpec)

/-- ITS FALSE NEIGHBOUR: 'it returns false'. Refute it at one input. -/
def textBackWrong : ChangeSpec := { name := "textBack", fn := fun _ => fun
  | [d1, d2, d3] => { results := [.lit (.bool false)], args := [d1, d2, d3] }
  | _ => none }
def TextBackWrongFalsely : Prop := textBackRow.holds Try.pinned (OpenSpec.ofChange textBackWrong)

/-- 'mailcoachlaw11.TextShort': WHATEVER THE INPUT: true; the input reads as it did. -/
def textShortSpec : ChangeSpec := { name := "textShort", fn := fun _ => fun
  | [d1, d2, d3] => { results := [.lit (.bool true)], args := [d1, d2, d3] }
  | _ => none }
def textShortRow : OpenClaim := { program := "ytmkmefdajbdceaa", sum := "86a630eb79586cce9874a8d933ad7a193c75ff4d504f8b075920b3f8ec445206", func := "mailcoach/mailcoachlaw11.TextShort", spec := "textShort", unfollowed := true, recurses := true, plainKeys := false, apart := false }
def TextShortSaid : Prop := textShortRow.holds Try.pinned (OpenSpec.ofChange textShortSpec)

/-- ITS FALSE NEIGHBOUR: 'it returns false'. Refute it at one input. -/
def textShortWrong : ChangeSpec := { name := "textShort", fn := fun _ => fun
  | [d1, d2, d3] => { results := [.lit (.bool false)], args := [d1, d2, d3] }
  | _ => none }
def TextShortWrongFalsely : Prop := textShortRow.holds Try.pinned (OpenSpec.ofChange textShortWrong)

/-- 'mailcoachlaw11.TextBoth': WHATEVER THE INPUT: true; the input reads as it did. -/
def textBothSpec : ChangeSpec := { name := "textBoth", fn := fun _ => fun
  | [d1, d2] => { results := [.lit (.bool true)], args := [d1, d2] }
  | _ => none }
def textBothRow : OpenClaim := { program := "ytmkmefdajbdceaa", sum := "86a630eb79586cce9874a8d933ad7a193c75ff4d504f8b075920b3f8ec445206", func := "mailcoach/mailcoachlaw11.TextBoth", spec := "textBoth", unfollowed := true, recurses := true, plainKeys := false, apart := false }
def TextBothSaid : Prop := textBothRow.holds Try.pinned (OpenSpec.ofChange textBothSpec)

/-- ITS FALSE NEIGHBOUR: 'it returns false'. Refute it at one input. -/
def textBothWrong : ChangeSpec := { name := "textBoth", fn := fun _ => fun
  | [d1, d2] => { results := [.lit (.bool false)], args := [d1, d2] }
  | _ => none }
def TextBothWrongFalsely : Prop := textBothRow.holds Try.pinned (OpenSpec.ofChange textBothWrong)

/-- 'mailcoachlaw11.TextAgain': WHATEVER THE INPUT: true; the input reads as it did. -/
def textAgainSpec : ChangeSpec := { name := "textAgain", fn := fun _ => fun
  | [d1, d2] => { results := [.lit (.bool true)], args := [d1, d2] }
  | _ => none }
def textAgainRow : OpenClaim := { program := "ytmkmefdajbdceaa", sum := "86a630eb79586cce9874a8d933ad7a193c75ff4d504f8b075920b3f8ec445206", func := "mailcoach/mailcoachlaw11.TextAgain", spec := "textAgain", unfollowed := true, recurses := true, plainKeys := false, apart := false }
def TextAgainSaid : Prop := textAgainRow.holds Try.pinned (OpenSpec.ofChange textAgainSpec)

/-- ITS FALSE NEIGHBOUR: 'it returns false'. Refute it at one input. -/
def textAgainWrong : ChangeSpec := { name := "textAgain", fn := fun _ => fun
  | [d1, d2] => { results := [.lit (.bool false)], args := [d1, d2] }
  | _ => none }
def TextAgainWrongFalsely : Prop := textAgainRow.holds Try.pinned (OpenSpec.ofChange textAgainWrong)

/- THE SECOND FORM. 'bulk': how many values and letters a reading holds, each counted each time it is reached (what is shared counts as often as it is met; a slice's spare places count too). A statement '..UptoSaid' is the law's where the arguments, and the package variables that the reading takes, are together of bulk at most 1048576: NARROWER than '..Said'. Prove '..Said' where nothing that the law and all that it calls make is longer than what came in: it says more and counts as full. Else prove '..UptoSaid'. A law counts once. -/
mutual
def uptoBulk {H : Type} : DataW H → Nat
  | .lit (.string bytes) => bytes.length + 1
  | .lit _ => 1
  | .nil => 1
  | .ptr d => uptoBulk d + 1
  | .slice elems spare => uptoBulkAll elems + uptoBulkAll spare + 1
  | .agg parts => uptoBulkAll parts + 1
  | .iface _ d => uptoBulk d + 1
  | .map entries => uptoBulkEntries entries + 1
  | .held _ => 1
def uptoBulkAll {H : Type} : List (DataW H) → Nat
  | [] => 0
  | d :: r => uptoBulk d + uptoBulkAll r
def uptoBulkEntries {H : Type} : List (Lit × DataW H) → Nat
  | [] => 0
  | x :: r => uptoBulkEntry x + uptoBulkEntries r
def uptoBulkEntry {H : Type} : Lit × DataW H → Nat
  | (.string bytes, d) => bytes.length + uptoBulk d + 1
  | (_, d) => uptoBulk d + 1
 end
def uptoSmall : (H : Type) → List (DataW H) → Bool := fun _ ds => decide (uptoBulkAll ds ≤ 1048576)
def OpenSpec.upto (s : _root_.Go.ChangeSpec) : _root_.Go.OpenSpec := { _root_.Go.OpenSpec.ofChange s with cond := some uptoSmall }

/-- 'mailcoachlaw01.VarintGets', WHERE WHAT IT READS IS OF BULK AT MOST 1048576: true; the input reads as it did. -/
def varintGetsUptoRow : OpenClaim := { program := "ytmkmefdajbdceaa", sum := "86a630eb79586cce9874a8d933ad7a193c75ff4d504f8b075920b3f8ec445206", func := "mailcoach/mailcoachlaw01.VarintGets", spec := "varintGets", plainKeys := false, apart := false, narrowed := true }
def VarintGetsUptoSaid : Prop := varintGetsUptoRow.holds Try.pinned (OpenSpec.upto varintGetsSpec)

/-- 'mailcoachlaw01.VarintReads', WHERE WHAT IT READS IS OF BULK AT MOST 1048576: true; the input reads as it did. -/
def varintReadsUptoRow : OpenClaim := { program := "ytmkmefdajbdceaa", sum := "86a630eb79586cce9874a8d933ad7a193c75ff4d504f8b075920b3f8ec445206", func := "mailcoach/mailcoachlaw01.VarintReads", spec := "varintReads", plainKeys := false, apart := false, narrowed := true }
def VarintReadsUptoSaid : Prop := varintReadsUptoRow.holds Try.pinned (OpenSpec.upto varintReadsSpec)

/-- 'mailcoachlaw10.HuffGets', WHERE WHAT IT READS IS OF BULK AT MOST 1048576: true; the input reads as it did. -/
def huffGetsUptoRow : OpenClaim := { program := "ytmkmefdajbdceaa", sum := "86a630eb79586cce9874a8d933ad7a193c75ff4d504f8b075920b3f8ec445206", func := "mailcoach/mailcoachlaw10.HuffGets", spec := "huffGets", plainKeys := false, apart := false, narrowed := true }
def HuffGetsUptoSaid : Prop := huffGetsUptoRow.holds Try.pinned (OpenSpec.upto huffGetsSpec)

/-- 'mailcoachlaw01.VarintBack', WHERE WHAT IT READS IS OF BULK AT MOST 1048576: true; the input reads as it did. -/
def varintBackUptoRow : OpenClaim := { program := "ytmkmefdajbdceaa", sum := "86a630eb79586cce9874a8d933ad7a193c75ff4d504f8b075920b3f8ec445206", func := "mailcoach/mailcoachlaw01.VarintBack", spec := "varintBack", unfollowed := true, recurses := true, plainKeys := false, apart := false, narrowed := true }
def VarintBackUptoSaid : Prop := varintBackUptoRow.holds Try.pinned (OpenSpec.upto varintBackSpec)

/-- 'mailcoachlaw01.VarintOrder', WHERE WHAT IT READS IS OF BULK AT MOST 1048576: true; the input reads as it did. -/
def varintOrderUptoRow : OpenClaim := { program := "ytmkmefdajbdceaa", sum := "86a630eb79586cce9874a8d933ad7a193c75ff4d504f8b075920b3f8ec445206", func := "mailcoach/mailcoachlaw01.VarintOrder", spec := "varintOrder", unfollowed := true, recurses := true, plainKeys := false, apart := false, narrowed := true }
def VarintOrderUptoSaid : Prop := varintOrderUptoRow.holds Try.pinned (OpenSpec.upto varintOrderSpec)

/-- 'mailcoachlaw01.VarintPrefixBack', WHERE WHAT IT READS IS OF BULK AT MOST 1048576: true; the input reads as it did. -/
def varintPrefixBackUptoRow : OpenClaim := { program := "ytmkmefdajbdceaa", sum := "86a630eb79586cce9874a8d933ad7a193c75ff4d504f8b075920b3f8ec445206", func := "mailcoach/mailcoachlaw01.VarintPrefixBack", spec := "varintPrefixBack", unfollowed := true, recurses := true, plainKeys := false, apart := false, narrowed := true }
def VarintPrefixBackUptoSaid : Prop := varintPrefixBackUptoRow.holds Try.pinned (OpenSpec.upto varintPrefixBackSpec)

/-- 'mailcoachlaw01.VarintAgain', WHERE WHAT IT READS IS OF BULK AT MOST 1048576: true; the input reads as it did. -/
def varintAgainUptoRow : OpenClaim := { program := "ytmkmefdajbdceaa", sum := "86a630eb79586cce9874a8d933ad7a193c75ff4d504f8b075920b3f8ec445206", func := "mailcoach/mailcoachlaw01.VarintAgain", spec := "varintAgain", unfollowed := true, recurses := true, plainKeys := false, apart := false, narrowed := true }
def VarintAgainUptoSaid : Prop := varintAgainUptoRow.holds Try.pinned (OpenSpec.upto varintAgainSpec)

/-- 'mailcoachlaw01.VarintApart', WHERE WHAT IT READS IS OF BULK AT MOST 1048576: true; the input reads as it did. -/
def varintApartUptoRow : OpenClaim := { program := "ytmkmefdajbdceaa", sum := "86a630eb79586cce9874a8d933ad7a193c75ff4d504f8b075920b3f8ec445206", func := "mailcoach/mailcoachlaw01.VarintApart", spec := "varintApart", unfollowed := true, recurses := true, plainKeys := false, apart := false, narrowed := true }
def VarintApartUptoSaid : Prop := varintApartUptoRow.holds Try.pinned (OpenSpec.upto varintApartSpec)

/-- 'mailcoachlaw10.HuffOne', WHERE WHAT IT READS IS OF BULK AT MOST 1048576: true; the input reads as it did. -/
def huffOneUptoRow : OpenClaim := { program := "ytmkmefdajbdceaa", sum := "86a630eb79586cce9874a8d933ad7a193c75ff4d504f8b075920b3f8ec445206", func := "mailcoach/mailcoachlaw10.HuffOne", spec := "huffOne", unfollowed := true, recurses := true, plainKeys := false, apart := false, narrowed := true }
def HuffOneUptoSaid : Prop := huffOneUptoRow.holds Try.pinned (OpenSpec.upto huffOneSpec)

/-- 'mailcoachlaw10.HuffBack', WHERE WHAT IT READS IS OF BULK AT MOST 1048576: true; the input reads as it did. -/
def huffBackUptoRow : OpenClaim := { program := "ytmkmefdajbdceaa", sum := "86a630eb79586cce9874a8d933ad7a193c75ff4d504f8b075920b3f8ec445206", func := "mailcoach/mailcoachlaw10.HuffBack", spec := "huffBack", unfollowed := true, recurses := true, plainKeys := false, apart := false, narrowed := true }
def HuffBackUptoSaid : Prop := huffBackUptoRow.holds Try.pinned (OpenSpec.upto huffBackSpec)

/-- 'mailcoachlaw10.HuffJoins', WHERE WHAT IT READS IS OF BULK AT MOST 1048576: true; the input reads as it did. -/
def huffJoinsUptoRow : OpenClaim := { program := "ytmkmefdajbdceaa", sum := "86a630eb79586cce9874a8d933ad7a193c75ff4d504f8b075920b3f8ec445206", func := "mailcoach/mailcoachlaw10.HuffJoins", spec := "huffJoins", unfollowed := true, recurses := true, plainKeys := false, apart := false, narrowed := true }
def HuffJoinsUptoSaid : Prop := huffJoinsUptoRow.holds Try.pinned (OpenSpec.upto huffJoinsSpec)

/-- 'mailcoachlaw10.HuffWords', WHERE WHAT IT READS IS OF BULK AT MOST 1048576: true; the input reads as it did. -/
def huffWordsUptoRow : OpenClaim := { program := "ytmkmefdajbdceaa", sum := "86a630eb79586cce9874a8d933ad7a193c75ff4d504f8b075920b3f8ec445206", func := "mailcoach/mailcoachlaw10.HuffWords", spec := "huffWords", unfollowed := true, recurses := true, plainKeys := false, apart := false, narrowed := true }
def HuffWordsUptoSaid : Prop := huffWordsUptoRow.holds Try.pinned (OpenSpec.upto huffWordsSpec)

/-- 'mailcoachlaw11.TextGets', WHERE WHAT IT READS IS OF BULK AT MOST 1048576: true; the input reads as it did. -/
def textGetsUptoRow : OpenClaim := { program := "ytmkmefdajbdceaa", sum := "86a630eb79586cce9874a8d933ad7a193c75ff4d504f8b075920b3f8ec445206", func := "mailcoach/mailcoachlaw11.TextGets", spec := "textGets", plainKeys := false, apart := false, narrowed := true }
def TextGetsUptoSaid : Prop := textGetsUptoRow.holds Try.pinned (OpenSpec.upto textGetsSpec)

/-- 'mailcoachlaw11.TextBack', WHERE WHAT IT READS IS OF BULK AT MOST 1048576: true; the input reads as it did. -/
def textBackUptoRow : OpenClaim := { program := "ytmkmefdajbdceaa", sum := "86a630eb79586cce9874a8d933ad7a193c75ff4d504f8b075920b3f8ec445206", func := "mailcoach/mailcoachlaw11.TextBack", spec := "textBack", unfollowed := true, recurses := true, plainKeys := false, apart := false, narrowed := true }
def TextBackUptoSaid : Prop := textBackUptoRow.holds Try.pinned (OpenSpec.upto textBackSpec)

/-- 'mailcoachlaw11.TextShort', WHERE WHAT IT READS IS OF BULK AT MOST 1048576: true; the input reads as it did. -/
def textShortUptoRow : OpenClaim := { program := "ytmkmefdajbdceaa", sum := "86a630eb79586cce9874a8d933ad7a193c75ff4d504f8b075920b3f8ec445206", func := "mailcoach/mailcoachlaw11.TextShort", spec := "textShort", unfollowed := true, recurses := true, plainKeys := false, apart := false, narrowed := true }
def TextShortUptoSaid : Prop := textShortUptoRow.holds Try.pinned (OpenSpec.upto textShortSpec)

/-- 'mailcoachlaw11.TextBoth', WHERE WHAT IT READS IS OF BULK AT MOST 1048576: true; the input reads as it did. -/
def textBothUptoRow : OpenClaim := { program := "ytmkmefdajbdceaa", sum := "86a630eb79586cce9874a8d933ad7a193c75ff4d504f8b075920b3f8ec445206", func := "mailcoach/mailcoachlaw11.TextBoth", spec := "textBoth", unfollowed := true, recurses := true, plainKeys := false, apart := false, narrowed := true }
def TextBothUptoSaid : Prop := textBothUptoRow.holds Try.pinned (OpenSpec.upto textBothSpec)

/-- 'mailcoachlaw11.TextAgain', WHERE WHAT IT READS IS OF BULK AT MOST 1048576: true; the input reads as it did. -/
def textAgainUptoRow : OpenClaim := { program := "ytmkmefdajbdceaa", sum := "86a630eb79586cce9874a8d933ad7a193c75ff4d504f8b075920b3f8ec445206", func := "mailcoach/mailcoachlaw11.TextAgain", spec := "textAgain", unfollowed := true, recurses := true, plainKeys := false, apart := false, narrowed := true }
def TextAgainUptoSaid : Prop := textAgainUptoRow.holds Try.pinned (OpenSpec.upto textAgainSpec)

end Rows
end Go.Proofs.Ytmkmefdajbdceaa
