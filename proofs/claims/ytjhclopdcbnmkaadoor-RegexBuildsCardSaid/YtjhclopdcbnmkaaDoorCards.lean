/-
  DERIVED. GIVEN WITH THE SEED: THE CARDS: each row of YtjhclopdcbnmkaaDoorRows.lean that lists a variable, with what it lists TIED to the program's text (the seventh form; the later family's looks); each row that meets fmt, with fmt's text TOLD by the authors' own Lean function (tested against real Go, not proved from fmt's source: count such statements apart). THE CARD IS WHAT COUNTS. Prove the row's statement (the work); the ties are given (YtjhclopdcbnmkaaDoorTie.lean); close each card by the builder's one call (the guide's Derived/Test/ToyasCard.lean, 'card_holds'). Laid BY PROGRAM, IN A SANDBOX (cutbox-door.mjs). By AI agents, Wed Nov 11 2026. No macro, syntax, notation, axiom, sorry.
-/
import Derived.Test.YtjhclopdcbnmkaaDoorRows
import GoSem.ClaimSeven
namespace Go.Proofs.YtjhclopdcbnmkaaDoor
namespace Rows

/-- THE TIED CARD OF 'castellanlaw05.RegexBack'. -/
def regexBackCard : Claim7 := { stood := { row := regexBackRow, standIns := [], harness := (true, "06108383df86839563b9ea522d3418773e7f84e33e54d2ae612f1c1e38a3a5ef"), looks := true }, kinds := [], alts := [], laidByText := true, laidKinds := [.data, .data, .data, .data, .sentinel, .sentinel, .pinned], laidTests := true, laidLooks := .later }
def RegexBackCardSaid : Prop := Claim7.holds Tryd.pinned (.plain (OpenSpec.ofChange regexBackSpec)) regexBackCard

/-- THE TIED CARD OF 'castellanlaw05.RegexSizes'. -/
def regexSizesCard : Claim7 := { stood := { row := regexSizesRow, standIns := [], harness := (true, "06108383df86839563b9ea522d3418773e7f84e33e54d2ae612f1c1e38a3a5ef"), looks := true }, kinds := [], alts := [], laidByText := true, laidKinds := [.data, .data, .data, .data, .sentinel, .sentinel, .pinned], laidTests := true, laidLooks := .later }
def RegexSizesCardSaid : Prop := Claim7.holds Tryd.pinned (.plain (OpenSpec.ofChange regexSizesSpec)) regexSizesCard

/-- THE TIED CARD OF 'castellanlaw05.RegexBuilds'. -/
def regexBuildsCard : Claim7 := { stood := { row := regexBuildsRow, standIns := [], harness := (true, "06108383df86839563b9ea522d3418773e7f84e33e54d2ae612f1c1e38a3a5ef"), looks := true }, kinds := [], alts := [], laidByText := true, laidKinds := [.data, .data, .data, .data, .sentinel, .sentinel, .pinned], laidTests := true, laidLooks := .later }
def RegexBuildsCardSaid : Prop := Claim7.holds Tryd.pinned (.plain (OpenSpec.ofChange regexBuildsSpec)) regexBuildsCard

/-- THE TIED CARD OF 'castellanlaw05.RegexLists'. -/
def regexListsCard : Claim7 := { stood := { row := regexListsRow, standIns := [], harness := (true, "06108383df86839563b9ea522d3418773e7f84e33e54d2ae612f1c1e38a3a5ef"), looks := true }, kinds := [], alts := [], laidByText := true, laidKinds := [.data, .data, .data, .data, .sentinel, .sentinel, .pinned], laidTests := true, laidLooks := .later }
def RegexListsCardSaid : Prop := Claim7.holds Tryd.pinned (.plain (OpenSpec.ofChange regexListsSpec)) regexListsCard

/-- THE TIED CARD OF 'castellanlaw20.GuardFirst'. -/
def guardFirstCard : Claim7 := { stood := { row := guardFirstRow, standIns := [], harness := (true, "06108383df86839563b9ea522d3418773e7f84e33e54d2ae612f1c1e38a3a5ef"), looks := true }, kinds := [], alts := [], laidByText := true, laidKinds := [.data, .data, .data, .data, .sentinel, .sentinel, .pinned], laidTests := true, laidLooks := .later }
def GuardFirstCardSaid : Prop := Claim7.holds Tryd.pinned (.plain (OpenSpec.ofChange guardFirstSpec)) guardFirstCard

/-- THE TIED CARD OF 'castellanlaw20.GuardMore'. -/
def guardMoreCard : Claim7 := { stood := { row := guardMoreRow, standIns := [], harness := (true, "06108383df86839563b9ea522d3418773e7f84e33e54d2ae612f1c1e38a3a5ef"), looks := true }, kinds := [], alts := [], laidByText := true, laidKinds := [.data, .data, .data, .data, .sentinel, .sentinel, .pinned], laidTests := true, laidLooks := .later }
def GuardMoreCardSaid : Prop := Claim7.holds Tryd.pinned (.plain (OpenSpec.ofChange guardMoreSpec)) guardMoreCard

/-- THE SECOND FORM's CARD OF 'castellanlaw05.RegexBack'. -/
def regexBackUptoCard : Claim7 := { stood := { row := regexBackUptoRow, standIns := [], harness := (true, "06108383df86839563b9ea522d3418773e7f84e33e54d2ae612f1c1e38a3a5ef"), looks := true }, kinds := [], alts := [], laidByText := true, laidKinds := [.data, .data, .data, .data, .sentinel, .sentinel, .pinned], laidTests := true, laidLooks := .later }
def RegexBackUptoCardSaid : Prop := Claim7.holds Tryd.pinned (.plain (OpenSpec.upto regexBackSpec)) regexBackUptoCard

/-- THE SECOND FORM's CARD OF 'castellanlaw05.RegexSizes'. -/
def regexSizesUptoCard : Claim7 := { stood := { row := regexSizesUptoRow, standIns := [], harness := (true, "06108383df86839563b9ea522d3418773e7f84e33e54d2ae612f1c1e38a3a5ef"), looks := true }, kinds := [], alts := [], laidByText := true, laidKinds := [.data, .data, .data, .data, .sentinel, .sentinel, .pinned], laidTests := true, laidLooks := .later }
def RegexSizesUptoCardSaid : Prop := Claim7.holds Tryd.pinned (.plain (OpenSpec.upto regexSizesSpec)) regexSizesUptoCard

/-- THE SECOND FORM's CARD OF 'castellanlaw05.RegexBuilds'. -/
def regexBuildsUptoCard : Claim7 := { stood := { row := regexBuildsUptoRow, standIns := [], harness := (true, "06108383df86839563b9ea522d3418773e7f84e33e54d2ae612f1c1e38a3a5ef"), looks := true }, kinds := [], alts := [], laidByText := true, laidKinds := [.data, .data, .data, .data, .sentinel, .sentinel, .pinned], laidTests := true, laidLooks := .later }
def RegexBuildsUptoCardSaid : Prop := Claim7.holds Tryd.pinned (.plain (OpenSpec.upto regexBuildsSpec)) regexBuildsUptoCard

/-- THE SECOND FORM's CARD OF 'castellanlaw05.RegexLists'. -/
def regexListsUptoCard : Claim7 := { stood := { row := regexListsUptoRow, standIns := [], harness := (true, "06108383df86839563b9ea522d3418773e7f84e33e54d2ae612f1c1e38a3a5ef"), looks := true }, kinds := [], alts := [], laidByText := true, laidKinds := [.data, .data, .data, .data, .sentinel, .sentinel, .pinned], laidTests := true, laidLooks := .later }
def RegexListsUptoCardSaid : Prop := Claim7.holds Tryd.pinned (.plain (OpenSpec.upto regexListsSpec)) regexListsUptoCard

/-- THE SECOND FORM's CARD OF 'castellanlaw20.GuardFirst'. -/
def guardFirstUptoCard : Claim7 := { stood := { row := guardFirstUptoRow, standIns := [], harness := (true, "06108383df86839563b9ea522d3418773e7f84e33e54d2ae612f1c1e38a3a5ef"), looks := true }, kinds := [], alts := [], laidByText := true, laidKinds := [.data, .data, .data, .data, .sentinel, .sentinel, .pinned], laidTests := true, laidLooks := .later }
def GuardFirstUptoCardSaid : Prop := Claim7.holds Tryd.pinned (.plain (OpenSpec.upto guardFirstSpec)) guardFirstUptoCard

/-- THE SECOND FORM's CARD OF 'castellanlaw20.GuardMore'. -/
def guardMoreUptoCard : Claim7 := { stood := { row := guardMoreUptoRow, standIns := [], harness := (true, "06108383df86839563b9ea522d3418773e7f84e33e54d2ae612f1c1e38a3a5ef"), looks := true }, kinds := [], alts := [], laidByText := true, laidKinds := [.data, .data, .data, .data, .sentinel, .sentinel, .pinned], laidTests := true, laidLooks := .later }
def GuardMoreUptoCardSaid : Prop := Claim7.holds Tryd.pinned (.plain (OpenSpec.upto guardMoreSpec)) guardMoreUptoCard
end Rows
end Go.Proofs.YtjhclopdcbnmkaaDoor
