/-
  DERIVED. GIVEN WITH THE SEED: THE CARDS: each row of YtjhclopdcbnmkaaGreatDoorRows.lean that lists a variable, with what it lists TIED to the program's text (the seventh form; the later family's looks); each row that meets fmt, with fmt's text TOLD by the authors' own Lean function (tested against real Go, not proved from fmt's source: count such statements apart). THE CARD IS WHAT COUNTS. Prove the row's statement (the work); the ties are given (YtjhclopdcbnmkaaGreatDoorTie.lean); close each card by the builder's one call (the guide's Derived/Test/ToyasCard.lean, 'card_holds'). Laid BY PROGRAM, IN A SANDBOX (cutbox-door.mjs). By AI agents, Wed Nov 11 2026. No macro, syntax, notation, axiom, sorry.
-/
import Derived.Test.YtjhclopdcbnmkaaGreatDoorRows
import GoSem.ClaimSeven
namespace Go.Proofs.YtjhclopdcbnmkaaGreatDoor
namespace Rows

/-- THE TIED CARD OF 'castellanlaw05.RegexChecks'. -/
def regexChecksCard : Claim7 := { stood := { row := regexChecksRow, standIns := [], harness := (true, "8cc0913b4629a94648079d13cd4f790b83a6ba41acfcf19d54c040a93994f1c9"), looks := true }, kinds := [], alts := [], laidByText := true, laidKinds := [.data, .data, .data, .data, .sentinel, .sentinel, .pinned], laidTests := true, laidLooks := .later }
def RegexChecksCardSaid : Prop := Claim7.holds Tryz.pinned (.plain (OpenSpec.ofChange regexChecksSpec)) regexChecksCard

/-- THE TIED CARD OF 'castellanlaw05.RegexReads'. -/
def regexReadsCard : Claim7 := { stood := { row := regexReadsRow, standIns := [], harness := (true, "8cc0913b4629a94648079d13cd4f790b83a6ba41acfcf19d54c040a93994f1c9"), looks := true }, kinds := [], alts := [], laidByText := true, laidKinds := [.data, .data, .data, .data, .sentinel, .sentinel, .pinned], laidTests := true, laidLooks := .later }
def RegexReadsCardSaid : Prop := Claim7.holds Tryz.pinned (.plain (OpenSpec.ofChange regexReadsSpec)) regexReadsCard

/-- THE TIED CARD OF 'castellanlaw20.GuardDecides'. -/
def guardDecidesCard : Claim7 := { stood := { row := guardDecidesRow, standIns := [], harness := (true, "8cc0913b4629a94648079d13cd4f790b83a6ba41acfcf19d54c040a93994f1c9"), looks := true }, kinds := [], alts := [], laidByText := true, laidKinds := [.data, .data, .data, .data, .sentinel, .sentinel, .pinned], laidTests := true, laidLooks := .later }
def GuardDecidesCardSaid : Prop := Claim7.holds Tryz.pinned (.plain (OpenSpec.ofChange guardDecidesSpec)) guardDecidesCard

/-- THE TIED CARD OF 'castellantop.TopPatterns'. -/
def topPatternsCard : Claim7 := { stood := { row := topPatternsRow, standIns := [], harness := (true, "8cc0913b4629a94648079d13cd4f790b83a6ba41acfcf19d54c040a93994f1c9"), looks := true }, kinds := [], alts := [], laidByText := true, laidKinds := [.data, .data, .data, .data, .sentinel, .sentinel, .pinned], laidTests := true, laidLooks := .later }
def TopPatternsCardSaid : Prop := Claim7.holds Tryz.pinned (.plain (OpenSpec.ofChange topPatternsSpec)) topPatternsCard

/-- THE SECOND FORM's CARD OF 'castellanlaw05.RegexChecks'. -/
def regexChecksUptoCard : Claim7 := { stood := { row := regexChecksUptoRow, standIns := [], harness := (true, "8cc0913b4629a94648079d13cd4f790b83a6ba41acfcf19d54c040a93994f1c9"), looks := true }, kinds := [], alts := [], laidByText := true, laidKinds := [.data, .data, .data, .data, .sentinel, .sentinel, .pinned], laidTests := true, laidLooks := .later }
def RegexChecksUptoCardSaid : Prop := Claim7.holds Tryz.pinned (.plain (OpenSpec.upto regexChecksSpec)) regexChecksUptoCard

/-- THE SECOND FORM's CARD OF 'castellanlaw05.RegexReads'. -/
def regexReadsUptoCard : Claim7 := { stood := { row := regexReadsUptoRow, standIns := [], harness := (true, "8cc0913b4629a94648079d13cd4f790b83a6ba41acfcf19d54c040a93994f1c9"), looks := true }, kinds := [], alts := [], laidByText := true, laidKinds := [.data, .data, .data, .data, .sentinel, .sentinel, .pinned], laidTests := true, laidLooks := .later }
def RegexReadsUptoCardSaid : Prop := Claim7.holds Tryz.pinned (.plain (OpenSpec.upto regexReadsSpec)) regexReadsUptoCard

/-- THE SECOND FORM's CARD OF 'castellanlaw20.GuardDecides'. -/
def guardDecidesUptoCard : Claim7 := { stood := { row := guardDecidesUptoRow, standIns := [], harness := (true, "8cc0913b4629a94648079d13cd4f790b83a6ba41acfcf19d54c040a93994f1c9"), looks := true }, kinds := [], alts := [], laidByText := true, laidKinds := [.data, .data, .data, .data, .sentinel, .sentinel, .pinned], laidTests := true, laidLooks := .later }
def GuardDecidesUptoCardSaid : Prop := Claim7.holds Tryz.pinned (.plain (OpenSpec.upto guardDecidesSpec)) guardDecidesUptoCard

/-- THE SECOND FORM's CARD OF 'castellantop.TopPatterns'. -/
def topPatternsUptoCard : Claim7 := { stood := { row := topPatternsUptoRow, standIns := [], harness := (true, "8cc0913b4629a94648079d13cd4f790b83a6ba41acfcf19d54c040a93994f1c9"), looks := true }, kinds := [], alts := [], laidByText := true, laidKinds := [.data, .data, .data, .data, .sentinel, .sentinel, .pinned], laidTests := true, laidLooks := .later }
def TopPatternsUptoCardSaid : Prop := Claim7.holds Tryz.pinned (.plain (OpenSpec.upto topPatternsSpec)) topPatternsUptoCard
end Rows
end Go.Proofs.YtjhclopdcbnmkaaGreatDoor
