/-
  DERIVED. GIVEN WITH THE SEED: THE CARDS: each row of YtaelkjffidjcjaaDoorRows.lean that lists a variable, with what it lists TIED to the program's text (the seventh form; the later family's looks); each row that meets fmt, with fmt's text TOLD by the authors' own Lean function (tested against real Go, not proved from fmt's source: count such statements apart). THE CARD IS WHAT COUNTS. Prove the row's statement (the work); the ties are given (YtaelkjffidjcjaaDoorTie.lean); close each card by the builder's one call (the guide's Derived/Test/ToyasCard.lean, 'card_holds'). Laid BY PROGRAM, IN A SANDBOX (cutbox-door.mjs). By AI agents, Wed Nov 11 2026. No macro, syntax, notation, axiom, sorry.
-/
import Derived.Test.YtaelkjffidjcjaaDoorRows
import GoSem.ClaimSeven
namespace Go.Proofs.YtaelkjffidjcjaaDoor
namespace Rows

/-- THE TIED CARD OF 'castellanlaw06.MatchTells'. -/
def matchTellsCard : Claim7 := { stood := { row := matchTellsRow, standIns := [], harness := (true, "db94933d533d1826c7dfe0a1c17e85f2db6f3ab97f45c0647593f6d314e6f303"), looks := true }, kinds := [], alts := [], laidByText := true, laidKinds := [.data, .data, .data, .data, .sentinel, .sentinel, .pinned], laidTests := true, laidLooks := .later }
def MatchTellsCardSaid : Prop := Claim7.holds Tryd.pinned (.plain (OpenSpec.ofChange matchTellsSpec)) matchTellsCard

/-- THE TIED CARD OF 'castellanlaw06.MatchJoins'. -/
def matchJoinsCard : Claim7 := { stood := { row := matchJoinsRow, standIns := [], harness := (true, "db94933d533d1826c7dfe0a1c17e85f2db6f3ab97f45c0647593f6d314e6f303"), looks := true }, kinds := [], alts := [], laidByText := true, laidKinds := [.data, .data, .data, .data, .sentinel, .sentinel, .pinned], laidTests := true, laidLooks := .later }
def MatchJoinsCardSaid : Prop := Claim7.holds Tryd.pinned (.plain (OpenSpec.ofChange matchJoinsSpec)) matchJoinsCard

/-- THE TIED CARD OF 'castellanlaw06.MatchLongest'. -/
def matchLongestCard : Claim7 := { stood := { row := matchLongestRow, standIns := [], harness := (true, "db94933d533d1826c7dfe0a1c17e85f2db6f3ab97f45c0647593f6d314e6f303"), looks := true }, kinds := [], alts := [], laidByText := true, laidKinds := [.data, .data, .data, .data, .sentinel, .sentinel, .pinned], laidTests := true, laidLooks := .later }
def MatchLongestCardSaid : Prop := Claim7.holds Tryd.pinned (.plain (OpenSpec.ofChange matchLongestSpec)) matchLongestCard

/-- THE TIED CARD OF 'castellanlaw06.MatchTurns'. -/
def matchTurnsCard : Claim7 := { stood := { row := matchTurnsRow, standIns := [], harness := (true, "db94933d533d1826c7dfe0a1c17e85f2db6f3ab97f45c0647593f6d314e6f303"), looks := true }, kinds := [], alts := [], laidByText := true, laidKinds := [.data, .data, .data, .data, .sentinel, .sentinel, .pinned], laidTests := true, laidLooks := .later }
def MatchTurnsCardSaid : Prop := Claim7.holds Tryd.pinned (.plain (OpenSpec.ofChange matchTurnsSpec)) matchTurnsCard

/-- THE TIED CARD OF 'castellanlaw06.MatchCounts'. -/
def matchCountsCard : Claim7 := { stood := { row := matchCountsRow, standIns := [], harness := (true, "db94933d533d1826c7dfe0a1c17e85f2db6f3ab97f45c0647593f6d314e6f303"), looks := true }, kinds := [], alts := [], laidByText := true, laidKinds := [.data, .data, .data, .data, .sentinel, .sentinel, .pinned], laidTests := true, laidLooks := .later }
def MatchCountsCardSaid : Prop := Claim7.holds Tryd.pinned (.plain (OpenSpec.ofChange matchCountsSpec)) matchCountsCard

/-- THE TIED CARD OF 'castellanlaw06.MatchSteps'. -/
def matchStepsCard : Claim7 := { stood := { row := matchStepsRow, standIns := [], harness := (true, "db94933d533d1826c7dfe0a1c17e85f2db6f3ab97f45c0647593f6d314e6f303"), looks := true }, kinds := [], alts := [], laidByText := true, laidKinds := [.data, .data, .data, .data, .sentinel, .sentinel, .pinned], laidTests := true, laidLooks := .later }
def MatchStepsCardSaid : Prop := Claim7.holds Tryd.pinned (.plain (OpenSpec.ofChange matchStepsSpec)) matchStepsCard

/-- THE TIED CARD OF 'castellanlaw06.MatchHits'. -/
def matchHitsCard : Claim7 := { stood := { row := matchHitsRow, standIns := [], harness := (true, "db94933d533d1826c7dfe0a1c17e85f2db6f3ab97f45c0647593f6d314e6f303"), looks := true }, kinds := [], alts := [], laidByText := true, laidKinds := [.data, .data, .data, .data, .sentinel, .sentinel, .pinned], laidTests := true, laidLooks := .later }
def MatchHitsCardSaid : Prop := Claim7.holds Tryd.pinned (.plain (OpenSpec.ofChange matchHitsSpec)) matchHitsCard

/-- THE TIED CARD OF 'castellanlaw05.RegexBack'. -/
def regexBackCard : Claim7 := { stood := { row := regexBackRow, standIns := [], harness := (true, "db94933d533d1826c7dfe0a1c17e85f2db6f3ab97f45c0647593f6d314e6f303"), looks := true }, kinds := [], alts := [], laidByText := true, laidKinds := [.data, .data, .data, .data, .sentinel, .sentinel, .pinned], laidTests := true, laidLooks := .later }
def RegexBackCardSaid : Prop := Claim7.holds Tryd.pinned (.plain (OpenSpec.ofChange regexBackSpec)) regexBackCard

/-- THE TIED CARD OF 'castellanlaw05.RegexSizes'. -/
def regexSizesCard : Claim7 := { stood := { row := regexSizesRow, standIns := [], harness := (true, "db94933d533d1826c7dfe0a1c17e85f2db6f3ab97f45c0647593f6d314e6f303"), looks := true }, kinds := [], alts := [], laidByText := true, laidKinds := [.data, .data, .data, .data, .sentinel, .sentinel, .pinned], laidTests := true, laidLooks := .later }
def RegexSizesCardSaid : Prop := Claim7.holds Tryd.pinned (.plain (OpenSpec.ofChange regexSizesSpec)) regexSizesCard

/-- THE TIED CARD OF 'castellanlaw05.RegexBuilds'. -/
def regexBuildsCard : Claim7 := { stood := { row := regexBuildsRow, standIns := [], harness := (true, "db94933d533d1826c7dfe0a1c17e85f2db6f3ab97f45c0647593f6d314e6f303"), looks := true }, kinds := [], alts := [], laidByText := true, laidKinds := [.data, .data, .data, .data, .sentinel, .sentinel, .pinned], laidTests := true, laidLooks := .later }
def RegexBuildsCardSaid : Prop := Claim7.holds Tryd.pinned (.plain (OpenSpec.ofChange regexBuildsSpec)) regexBuildsCard

/-- THE TIED CARD OF 'castellanlaw05.RegexLists'. -/
def regexListsCard : Claim7 := { stood := { row := regexListsRow, standIns := [], harness := (true, "db94933d533d1826c7dfe0a1c17e85f2db6f3ab97f45c0647593f6d314e6f303"), looks := true }, kinds := [], alts := [], laidByText := true, laidKinds := [.data, .data, .data, .data, .sentinel, .sentinel, .pinned], laidTests := true, laidLooks := .later }
def RegexListsCardSaid : Prop := Claim7.holds Tryd.pinned (.plain (OpenSpec.ofChange regexListsSpec)) regexListsCard

/-- THE SECOND FORM's CARD OF 'castellanlaw06.MatchTells'. -/
def matchTellsUptoCard : Claim7 := { stood := { row := matchTellsUptoRow, standIns := [], harness := (true, "db94933d533d1826c7dfe0a1c17e85f2db6f3ab97f45c0647593f6d314e6f303"), looks := true }, kinds := [], alts := [], laidByText := true, laidKinds := [.data, .data, .data, .data, .sentinel, .sentinel, .pinned], laidTests := true, laidLooks := .later }
def MatchTellsUptoCardSaid : Prop := Claim7.holds Tryd.pinned (.plain (OpenSpec.upto matchTellsSpec)) matchTellsUptoCard

/-- THE SECOND FORM's CARD OF 'castellanlaw06.MatchJoins'. -/
def matchJoinsUptoCard : Claim7 := { stood := { row := matchJoinsUptoRow, standIns := [], harness := (true, "db94933d533d1826c7dfe0a1c17e85f2db6f3ab97f45c0647593f6d314e6f303"), looks := true }, kinds := [], alts := [], laidByText := true, laidKinds := [.data, .data, .data, .data, .sentinel, .sentinel, .pinned], laidTests := true, laidLooks := .later }
def MatchJoinsUptoCardSaid : Prop := Claim7.holds Tryd.pinned (.plain (OpenSpec.upto matchJoinsSpec)) matchJoinsUptoCard

/-- THE SECOND FORM's CARD OF 'castellanlaw06.MatchLongest'. -/
def matchLongestUptoCard : Claim7 := { stood := { row := matchLongestUptoRow, standIns := [], harness := (true, "db94933d533d1826c7dfe0a1c17e85f2db6f3ab97f45c0647593f6d314e6f303"), looks := true }, kinds := [], alts := [], laidByText := true, laidKinds := [.data, .data, .data, .data, .sentinel, .sentinel, .pinned], laidTests := true, laidLooks := .later }
def MatchLongestUptoCardSaid : Prop := Claim7.holds Tryd.pinned (.plain (OpenSpec.upto matchLongestSpec)) matchLongestUptoCard

/-- THE SECOND FORM's CARD OF 'castellanlaw06.MatchTurns'. -/
def matchTurnsUptoCard : Claim7 := { stood := { row := matchTurnsUptoRow, standIns := [], harness := (true, "db94933d533d1826c7dfe0a1c17e85f2db6f3ab97f45c0647593f6d314e6f303"), looks := true }, kinds := [], alts := [], laidByText := true, laidKinds := [.data, .data, .data, .data, .sentinel, .sentinel, .pinned], laidTests := true, laidLooks := .later }
def MatchTurnsUptoCardSaid : Prop := Claim7.holds Tryd.pinned (.plain (OpenSpec.upto matchTurnsSpec)) matchTurnsUptoCard

/-- THE SECOND FORM's CARD OF 'castellanlaw06.MatchCounts'. -/
def matchCountsUptoCard : Claim7 := { stood := { row := matchCountsUptoRow, standIns := [], harness := (true, "db94933d533d1826c7dfe0a1c17e85f2db6f3ab97f45c0647593f6d314e6f303"), looks := true }, kinds := [], alts := [], laidByText := true, laidKinds := [.data, .data, .data, .data, .sentinel, .sentinel, .pinned], laidTests := true, laidLooks := .later }
def MatchCountsUptoCardSaid : Prop := Claim7.holds Tryd.pinned (.plain (OpenSpec.upto matchCountsSpec)) matchCountsUptoCard

/-- THE SECOND FORM's CARD OF 'castellanlaw06.MatchSteps'. -/
def matchStepsUptoCard : Claim7 := { stood := { row := matchStepsUptoRow, standIns := [], harness := (true, "db94933d533d1826c7dfe0a1c17e85f2db6f3ab97f45c0647593f6d314e6f303"), looks := true }, kinds := [], alts := [], laidByText := true, laidKinds := [.data, .data, .data, .data, .sentinel, .sentinel, .pinned], laidTests := true, laidLooks := .later }
def MatchStepsUptoCardSaid : Prop := Claim7.holds Tryd.pinned (.plain (OpenSpec.upto matchStepsSpec)) matchStepsUptoCard

/-- THE SECOND FORM's CARD OF 'castellanlaw06.MatchHits'. -/
def matchHitsUptoCard : Claim7 := { stood := { row := matchHitsUptoRow, standIns := [], harness := (true, "db94933d533d1826c7dfe0a1c17e85f2db6f3ab97f45c0647593f6d314e6f303"), looks := true }, kinds := [], alts := [], laidByText := true, laidKinds := [.data, .data, .data, .data, .sentinel, .sentinel, .pinned], laidTests := true, laidLooks := .later }
def MatchHitsUptoCardSaid : Prop := Claim7.holds Tryd.pinned (.plain (OpenSpec.upto matchHitsSpec)) matchHitsUptoCard

/-- THE SECOND FORM's CARD OF 'castellanlaw05.RegexBack'. -/
def regexBackUptoCard : Claim7 := { stood := { row := regexBackUptoRow, standIns := [], harness := (true, "db94933d533d1826c7dfe0a1c17e85f2db6f3ab97f45c0647593f6d314e6f303"), looks := true }, kinds := [], alts := [], laidByText := true, laidKinds := [.data, .data, .data, .data, .sentinel, .sentinel, .pinned], laidTests := true, laidLooks := .later }
def RegexBackUptoCardSaid : Prop := Claim7.holds Tryd.pinned (.plain (OpenSpec.upto regexBackSpec)) regexBackUptoCard

/-- THE SECOND FORM's CARD OF 'castellanlaw05.RegexSizes'. -/
def regexSizesUptoCard : Claim7 := { stood := { row := regexSizesUptoRow, standIns := [], harness := (true, "db94933d533d1826c7dfe0a1c17e85f2db6f3ab97f45c0647593f6d314e6f303"), looks := true }, kinds := [], alts := [], laidByText := true, laidKinds := [.data, .data, .data, .data, .sentinel, .sentinel, .pinned], laidTests := true, laidLooks := .later }
def RegexSizesUptoCardSaid : Prop := Claim7.holds Tryd.pinned (.plain (OpenSpec.upto regexSizesSpec)) regexSizesUptoCard

/-- THE SECOND FORM's CARD OF 'castellanlaw05.RegexBuilds'. -/
def regexBuildsUptoCard : Claim7 := { stood := { row := regexBuildsUptoRow, standIns := [], harness := (true, "db94933d533d1826c7dfe0a1c17e85f2db6f3ab97f45c0647593f6d314e6f303"), looks := true }, kinds := [], alts := [], laidByText := true, laidKinds := [.data, .data, .data, .data, .sentinel, .sentinel, .pinned], laidTests := true, laidLooks := .later }
def RegexBuildsUptoCardSaid : Prop := Claim7.holds Tryd.pinned (.plain (OpenSpec.upto regexBuildsSpec)) regexBuildsUptoCard

/-- THE SECOND FORM's CARD OF 'castellanlaw05.RegexLists'. -/
def regexListsUptoCard : Claim7 := { stood := { row := regexListsUptoRow, standIns := [], harness := (true, "db94933d533d1826c7dfe0a1c17e85f2db6f3ab97f45c0647593f6d314e6f303"), looks := true }, kinds := [], alts := [], laidByText := true, laidKinds := [.data, .data, .data, .data, .sentinel, .sentinel, .pinned], laidTests := true, laidLooks := .later }
def RegexListsUptoCardSaid : Prop := Claim7.holds Tryd.pinned (.plain (OpenSpec.upto regexListsSpec)) regexListsUptoCard
end Rows
end Go.Proofs.YtaelkjffidjcjaaDoor
