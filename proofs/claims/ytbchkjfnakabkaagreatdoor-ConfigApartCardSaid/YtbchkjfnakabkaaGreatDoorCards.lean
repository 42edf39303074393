/-
  DERIVED. GIVEN WITH THE SEED: THE CARDS: each row of YtbchkjfnakabkaaGreatDoorRows.lean that lists a variable, with what it lists TIED to the program's text (the seventh form; the later family's looks); each row that meets fmt, with fmt's text TOLD by the authors' own Lean function (tested against real Go, not proved from fmt's source: count such statements apart). THE CARD IS WHAT COUNTS. Prove the row's statement (the work); the ties are given (YtbchkjfnakabkaaGreatDoorTie.lean); close each card by the builder's one call (the guide's Derived/Test/ToyasCard.lean, 'card_holds'). Laid BY PROGRAM, IN A SANDBOX (cutbox-door.mjs). By AI agents, Wed Nov 11 2026. No macro, syntax, notation, axiom, sorry.
-/
import Derived.Test.YtbchkjfnakabkaaGreatDoorRows
import GoSem.ClaimSeven
namespace Go.Proofs.YtbchkjfnakabkaaGreatDoor
namespace Rows

/-- THE TIED CARD OF 'castellanlaw11.ConfigForms'. -/
def configFormsCard : Claim7 := { stood := { row := configFormsRow, standIns := [], harness := (true, "fa9a070b7e83b7ff0750e71b2272ef4cb507ccc084a78da87bf612518a74de07"), looks := true }, kinds := [], alts := [], laidByText := true, laidKinds := [.data, .data, .data, .data, .sentinel, .sentinel, .pinned], laidTests := true, laidLooks := .later }
def ConfigFormsCardSaid : Prop := Claim7.holds Tryz.pinned (.plain (OpenSpec.ofChange configFormsSpec)) configFormsCard

/-- THE TIED CARD OF 'castellanlaw11.ConfigBytes'. -/
def configBytesCard : Claim7 := { stood := { row := configBytesRow, standIns := [], harness := (true, "fa9a070b7e83b7ff0750e71b2272ef4cb507ccc084a78da87bf612518a74de07"), looks := true }, kinds := [], alts := [], laidByText := true, laidKinds := [.data, .data, .data, .data, .sentinel, .sentinel, .pinned], laidTests := true, laidLooks := .later }
def ConfigBytesCardSaid : Prop := Claim7.holds Tryz.pinned (.plain (OpenSpec.ofChange configBytesSpec)) configBytesCard

/-- THE TIED CARD OF 'castellanlaw11.ConfigBack'. -/
def configBackCard : Claim7 := { stood := { row := configBackRow, standIns := [], harness := (true, "fa9a070b7e83b7ff0750e71b2272ef4cb507ccc084a78da87bf612518a74de07"), looks := true }, kinds := [], alts := [], laidByText := true, laidKinds := [.data, .data, .data, .data, .sentinel, .sentinel, .pinned], laidTests := true, laidLooks := .later }
def ConfigBackCardSaid : Prop := Claim7.holds Tryz.pinned (.plain (OpenSpec.ofChange configBackSpec)) configBackCard

/-- THE TIED CARD OF 'castellanlaw11.ConfigApart'. -/
def configApartCard : Claim7 := { stood := { row := configApartRow, standIns := [], harness := (true, "fa9a070b7e83b7ff0750e71b2272ef4cb507ccc084a78da87bf612518a74de07"), looks := true }, kinds := [], alts := [], laidByText := true, laidKinds := [.data, .data, .data, .data, .sentinel, .sentinel, .pinned], laidTests := true, laidLooks := .later }
def ConfigApartCardSaid : Prop := Claim7.holds Tryz.pinned (.plain (OpenSpec.ofChange configApartSpec)) configApartCard

/-- THE TIED CARD OF 'castellanlaw11.ConfigTurns'. -/
def configTurnsCard : Claim7 := { stood := { row := configTurnsRow, standIns := [], harness := (true, "fa9a070b7e83b7ff0750e71b2272ef4cb507ccc084a78da87bf612518a74de07"), looks := true }, kinds := [], alts := [], laidByText := true, laidKinds := [.data, .data, .data, .data, .sentinel, .sentinel, .pinned], laidTests := true, laidLooks := .later }
def ConfigTurnsCardSaid : Prop := Claim7.holds Tryz.pinned (.plain (OpenSpec.ofChange configTurnsSpec)) configTurnsCard

/-- THE TIED CARD OF 'castellanlaw11.ConfigLess'. -/
def configLessCard : Claim7 := { stood := { row := configLessRow, standIns := [], harness := (true, "fa9a070b7e83b7ff0750e71b2272ef4cb507ccc084a78da87bf612518a74de07"), looks := true }, kinds := [], alts := [], laidByText := true, laidKinds := [.data, .data, .data, .data, .sentinel, .sentinel, .pinned], laidTests := true, laidLooks := .later }
def ConfigLessCardSaid : Prop := Claim7.holds Tryz.pinned (.plain (OpenSpec.ofChange configLessSpec)) configLessCard

/-- THE TIED CARD OF 'castellanlaw11.ConfigNeeds'. -/
def configNeedsCard : Claim7 := { stood := { row := configNeedsRow, standIns := [], harness := (true, "fa9a070b7e83b7ff0750e71b2272ef4cb507ccc084a78da87bf612518a74de07"), looks := true }, kinds := [], alts := [], laidByText := true, laidKinds := [.data, .data, .data, .data, .sentinel, .sentinel, .pinned], laidTests := true, laidLooks := .later }
def ConfigNeedsCardSaid : Prop := Claim7.holds Tryz.pinned (.plain (OpenSpec.ofChange configNeedsSpec)) configNeedsCard

/-- THE SECOND FORM's CARD OF 'castellanlaw11.ConfigForms'. -/
def configFormsUptoCard : Claim7 := { stood := { row := configFormsUptoRow, standIns := [], harness := (true, "fa9a070b7e83b7ff0750e71b2272ef4cb507ccc084a78da87bf612518a74de07"), looks := true }, kinds := [], alts := [], laidByText := true, laidKinds := [.data, .data, .data, .data, .sentinel, .sentinel, .pinned], laidTests := true, laidLooks := .later }
def ConfigFormsUptoCardSaid : Prop := Claim7.holds Tryz.pinned (.plain (OpenSpec.upto configFormsSpec)) configFormsUptoCard

/-- THE SECOND FORM's CARD OF 'castellanlaw11.ConfigBytes'. -/
def configBytesUptoCard : Claim7 := { stood := { row := configBytesUptoRow, standIns := [], harness := (true, "fa9a070b7e83b7ff0750e71b2272ef4cb507ccc084a78da87bf612518a74de07"), looks := true }, kinds := [], alts := [], laidByText := true, laidKinds := [.data, .data, .data, .data, .sentinel, .sentinel, .pinned], laidTests := true, laidLooks := .later }
def ConfigBytesUptoCardSaid : Prop := Claim7.holds Tryz.pinned (.plain (OpenSpec.upto configBytesSpec)) configBytesUptoCard

/-- THE SECOND FORM's CARD OF 'castellanlaw11.ConfigBack'. -/
def configBackUptoCard : Claim7 := { stood := { row := configBackUptoRow, standIns := [], harness := (true, "fa9a070b7e83b7ff0750e71b2272ef4cb507ccc084a78da87bf612518a74de07"), looks := true }, kinds := [], alts := [], laidByText := true, laidKinds := [.data, .data, .data, .data, .sentinel, .sentinel, .pinned], laidTests := true, laidLooks := .later }
def ConfigBackUptoCardSaid : Prop := Claim7.holds Tryz.pinned (.plain (OpenSpec.upto configBackSpec)) configBackUptoCard

/-- THE SECOND FORM's CARD OF 'castellanlaw11.ConfigApart'. -/
def configApartUptoCard : Claim7 := { stood := { row := configApartUptoRow, standIns := [], harness := (true, "fa9a070b7e83b7ff0750e71b2272ef4cb507ccc084a78da87bf612518a74de07"), looks := true }, kinds := [], alts := [], laidByText := true, laidKinds := [.data, .data, .data, .data, .sentinel, .sentinel, .pinned], laidTests := true, laidLooks := .later }
def ConfigApartUptoCardSaid : Prop := Claim7.holds Tryz.pinned (.plain (OpenSpec.upto configApartSpec)) configApartUptoCard

/-- THE SECOND FORM's CARD OF 'castellanlaw11.ConfigTurns'. -/
def configTurnsUptoCard : Claim7 := { stood := { row := configTurnsUptoRow, standIns := [], harness := (true, "fa9a070b7e83b7ff0750e71b2272ef4cb507ccc084a78da87bf612518a74de07"), looks := true }, kinds := [], alts := [], laidByText := true, laidKinds := [.data, .data, .data, .data, .sentinel, .sentinel, .pinned], laidTests := true, laidLooks := .later }
def ConfigTurnsUptoCardSaid : Prop := Claim7.holds Tryz.pinned (.plain (OpenSpec.upto configTurnsSpec)) configTurnsUptoCard

/-- THE SECOND FORM's CARD OF 'castellanlaw11.ConfigLess'. -/
def configLessUptoCard : Claim7 := { stood := { row := configLessUptoRow, standIns := [], harness := (true, "fa9a070b7e83b7ff0750e71b2272ef4cb507ccc084a78da87bf612518a74de07"), looks := true }, kinds := [], alts := [], laidByText := true, laidKinds := [.data, .data, .data, .data, .sentinel, .sentinel, .pinned], laidTests := true, laidLooks := .later }
def ConfigLessUptoCardSaid : Prop := Claim7.holds Tryz.pinned (.plain (OpenSpec.upto configLessSpec)) configLessUptoCard

/-- THE SECOND FORM's CARD OF 'castellanlaw11.ConfigNeeds'. -/
def configNeedsUptoCard : Claim7 := { stood := { row := configNeedsUptoRow, standIns := [], harness := (true, "fa9a070b7e83b7ff0750e71b2272ef4cb507ccc084a78da87bf612518a74de07"), looks := true }, kinds := [], alts := [], laidByText := true, laidKinds := [.data, .data, .data, .data, .sentinel, .sentinel, .pinned], laidTests := true, laidLooks := .later }
def ConfigNeedsUptoCardSaid : Prop := Claim7.holds Tryz.pinned (.plain (OpenSpec.upto configNeedsSpec)) configNeedsUptoCard
end Rows
end Go.Proofs.YtbchkjfnakabkaaGreatDoor
