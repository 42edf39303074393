/-
  DERIVED. GIVEN WITH THE SEED: THE CARDS: each row of YtaelkjffidjcjaaGreatDoorRows.lean that lists a variable, with what it lists TIED to the program's text (the seventh form; the later family's looks); each row that meets fmt, with fmt's text TOLD by the authors' own Lean function (tested against real Go, not proved from fmt's source: count such statements apart). THE CARD IS WHAT COUNTS. Prove the row's statement (the work); the ties are given (YtaelkjffidjcjaaGreatDoorTie.lean); close each card by the builder's one call (the guide's Derived/Test/ToyasCard.lean, 'card_holds'). Laid BY PROGRAM, IN A SANDBOX (cutbox-door.mjs). By AI agents, Wed Nov 11 2026. No macro, syntax, notation, axiom, sorry.
-/
import Derived.Test.YtaelkjffidjcjaaGreatDoorRows
import GoSem.ClaimSeven
namespace Go.Proofs.YtaelkjffidjcjaaGreatDoor
namespace Rows

/-- THE TIED CARD OF 'castellanlaw06.MatchPatterns'. -/
def matchPatternsCard : Claim7 := { stood := { row := matchPatternsRow, standIns := [], harness := (true, "5a327301eb1bec7a7fbd51ec9bc11c52fbf0c8a8580c495ff0526a59fb0fc163"), looks := true }, kinds := [], alts := [], laidByText := true, laidKinds := [.data, .data, .data, .data, .sentinel, .sentinel, .pinned], laidTests := true, laidLooks := .later }
def MatchPatternsCardSaid : Prop := Claim7.holds Tryz.pinned (.plain (OpenSpec.ofChange matchPatternsSpec)) matchPatternsCard

/-- THE TIED CARD OF 'castellanlaw05.RegexChecks'. -/
def regexChecksCard : Claim7 := { stood := { row := regexChecksRow, standIns := [], harness := (true, "5a327301eb1bec7a7fbd51ec9bc11c52fbf0c8a8580c495ff0526a59fb0fc163"), looks := true }, kinds := [], alts := [], laidByText := true, laidKinds := [.data, .data, .data, .data, .sentinel, .sentinel, .pinned], laidTests := true, laidLooks := .later }
def RegexChecksCardSaid : Prop := Claim7.holds Tryz.pinned (.plain (OpenSpec.ofChange regexChecksSpec)) regexChecksCard

/-- THE TIED CARD OF 'castellanlaw05.RegexReads'. -/
def regexReadsCard : Claim7 := { stood := { row := regexReadsRow, standIns := [], harness := (true, "5a327301eb1bec7a7fbd51ec9bc11c52fbf0c8a8580c495ff0526a59fb0fc163"), looks := true }, kinds := [], alts := [], laidByText := true, laidKinds := [.data, .data, .data, .data, .sentinel, .sentinel, .pinned], laidTests := true, laidLooks := .later }
def RegexReadsCardSaid : Prop := Claim7.holds Tryz.pinned (.plain (OpenSpec.ofChange regexReadsSpec)) regexReadsCard

/-- THE SECOND FORM's CARD OF 'castellanlaw06.MatchPatterns'. -/
def matchPatternsUptoCard : Claim7 := { stood := { row := matchPatternsUptoRow, standIns := [], harness := (true, "5a327301eb1bec7a7fbd51ec9bc11c52fbf0c8a8580c495ff0526a59fb0fc163"), looks := true }, kinds := [], alts := [], laidByText := true, laidKinds := [.data, .data, .data, .data, .sentinel, .sentinel, .pinned], laidTests := true, laidLooks := .later }
def MatchPatternsUptoCardSaid : Prop := Claim7.holds Tryz.pinned (.plain (OpenSpec.upto matchPatternsSpec)) matchPatternsUptoCard

/-- THE SECOND FORM's CARD OF 'castellanlaw05.RegexChecks'. -/
def regexChecksUptoCard : Claim7 := { stood := { row := regexChecksUptoRow, standIns := [], harness := (true, "5a327301eb1bec7a7fbd51ec9bc11c52fbf0c8a8580c495ff0526a59fb0fc163"), looks := true }, kinds := [], alts := [], laidByText := true, laidKinds := [.data, .data, .data, .data, .sentinel, .sentinel, .pinned], laidTests := true, laidLooks := .later }
def RegexChecksUptoCardSaid : Prop := Claim7.holds Tryz.pinned (.plain (OpenSpec.upto regexChecksSpec)) regexChecksUptoCard

/-- THE SECOND FORM's CARD OF 'castellanlaw05.RegexReads'. -/
def regexReadsUptoCard : Claim7 := { stood := { row := regexReadsUptoRow, standIns := [], harness := (true, "5a327301eb1bec7a7fbd51ec9bc11c52fbf0c8a8580c495ff0526a59fb0fc163"), looks := true }, kinds := [], alts := [], laidByText := true, laidKinds := [.data, .data, .data, .data, .sentinel, .sentinel, .pinned], laidTests := true, laidLooks := .later }
def RegexReadsUptoCardSaid : Prop := Claim7.holds Tryz.pinned (.plain (OpenSpec.upto regexReadsSpec)) regexReadsUptoCard
end Rows
end Go.Proofs.YtaelkjffidjcjaaGreatDoor
