/-
  DERIVED. GIVEN WITH THE SEED: THE CARDS: each row of YtjgkhdanhglgeaaGreatDoorRows.lean that lists a variable, with what it lists TIED to the program's text (the seventh form; the later family's looks); each row that meets fmt, with fmt's text TOLD by the authors' own Lean function (tested against real Go, not proved from fmt's source: count such statements apart). THE CARD IS WHAT COUNTS. Prove the row's statement (the work); the ties are given (YtjgkhdanhglgeaaGreatDoorTie.lean); close each card by the builder's one call (the guide's Derived/Test/ToyasCard.lean, 'card_holds'). Laid BY PROGRAM, IN A SANDBOX (cutbox-door.mjs). By AI agents, Wed Nov 11 2026. No macro, syntax, notation, axiom, sorry.
-/
import Derived.Test.YtjgkhdanhglgeaaGreatDoorRows
import GoSem.ClaimSeven
namespace Go.Proofs.YtjgkhdanhglgeaaGreatDoor
namespace Rows

/-- THE TIED CARD OF 'castellanlaw16.JournalReads'. -/
def journalReadsCard : Claim7 := { stood := { row := journalReadsRow, standIns := [], harness := (true, "28b667fcbff0ec0f0216a5724d48a9c43607270f818d0ea42f691dd188d7891c"), looks := true }, kinds := [], alts := [], laidByText := true, laidKinds := [.data, .pinned], laidTests := true, laidLooks := .later }
def JournalReadsCardSaid : Prop := Claim7.holds Tryz.pinned (.plain (OpenSpec.ofChange journalReadsSpec)) journalReadsCard

/-- THE TIED CARD OF 'castellanlaw16.JournalStays'. -/
def journalStaysCard : Claim7 := { stood := { row := journalStaysRow, standIns := [], harness := (true, "28b667fcbff0ec0f0216a5724d48a9c43607270f818d0ea42f691dd188d7891c"), looks := true }, kinds := [], alts := [], laidByText := true, laidKinds := [.data, .pinned], laidTests := true, laidLooks := .later }
def JournalStaysCardSaid : Prop := Claim7.holds Tryz.pinned (.plain (OpenSpec.ofChange journalStaysSpec)) journalStaysCard

/-- THE TIED CARD OF 'castellanlaw16.JournalOpens'. -/
def journalOpensCard : Claim7 := { stood := { row := journalOpensRow, standIns := [], harness := (true, "28b667fcbff0ec0f0216a5724d48a9c43607270f818d0ea42f691dd188d7891c"), looks := true }, kinds := [], alts := [], laidByText := true, laidKinds := [.data, .pinned], laidTests := true, laidLooks := .later }
def JournalOpensCardSaid : Prop := Claim7.holds Tryz.pinned (.plain (OpenSpec.ofChange journalOpensSpec)) journalOpensCard

/-- THE TIED CARD OF 'castellanlaw16.JournalLives'. -/
def journalLivesCard : Claim7 := { stood := { row := journalLivesRow, standIns := [], harness := (true, "28b667fcbff0ec0f0216a5724d48a9c43607270f818d0ea42f691dd188d7891c"), looks := true }, kinds := [], alts := [], laidByText := true, laidKinds := [.data, .pinned], laidTests := true, laidLooks := .later }
def JournalLivesCardSaid : Prop := Claim7.holds Tryz.pinned (.plain (OpenSpec.ofChange journalLivesSpec)) journalLivesCard

/-- THE SECOND FORM's CARD OF 'castellanlaw16.JournalReads'. -/
def journalReadsUptoCard : Claim7 := { stood := { row := journalReadsUptoRow, standIns := [], harness := (true, "28b667fcbff0ec0f0216a5724d48a9c43607270f818d0ea42f691dd188d7891c"), looks := true }, kinds := [], alts := [], laidByText := true, laidKinds := [.data, .pinned], laidTests := true, laidLooks := .later }
def JournalReadsUptoCardSaid : Prop := Claim7.holds Tryz.pinned (.plain (OpenSpec.upto journalReadsSpec)) journalReadsUptoCard

/-- THE SECOND FORM's CARD OF 'castellanlaw16.JournalStays'. -/
def journalStaysUptoCard : Claim7 := { stood := { row := journalStaysUptoRow, standIns := [], harness := (true, "28b667fcbff0ec0f0216a5724d48a9c43607270f818d0ea42f691dd188d7891c"), looks := true }, kinds := [], alts := [], laidByText := true, laidKinds := [.data, .pinned], laidTests := true, laidLooks := .later }
def JournalStaysUptoCardSaid : Prop := Claim7.holds Tryz.pinned (.plain (OpenSpec.upto journalStaysSpec)) journalStaysUptoCard

/-- THE SECOND FORM's CARD OF 'castellanlaw16.JournalOpens'. -/
def journalOpensUptoCard : Claim7 := { stood := { row := journalOpensUptoRow, standIns := [], harness := (true, "28b667fcbff0ec0f0216a5724d48a9c43607270f818d0ea42f691dd188d7891c"), looks := true }, kinds := [], alts := [], laidByText := true, laidKinds := [.data, .pinned], laidTests := true, laidLooks := .later }
def JournalOpensUptoCardSaid : Prop := Claim7.holds Tryz.pinned (.plain (OpenSpec.upto journalOpensSpec)) journalOpensUptoCard

/-- THE SECOND FORM's CARD OF 'castellanlaw16.JournalLives'. -/
def journalLivesUptoCard : Claim7 := { stood := { row := journalLivesUptoRow, standIns := [], harness := (true, "28b667fcbff0ec0f0216a5724d48a9c43607270f818d0ea42f691dd188d7891c"), looks := true }, kinds := [], alts := [], laidByText := true, laidKinds := [.data, .pinned], laidTests := true, laidLooks := .later }
def JournalLivesUptoCardSaid : Prop := Claim7.holds Tryz.pinned (.plain (OpenSpec.upto journalLivesSpec)) journalLivesUptoCard
end Rows
end Go.Proofs.YtjgkhdanhglgeaaGreatDoor
