/-
  DERIVED. GIVEN WITH THE SEED: THE CARDS: each row of YtnlningkcllpdaaDoorRows.lean that lists a variable, with what it lists TIED to the program's text (the seventh form; the later family's looks); each row that meets fmt, with fmt's text TOLD by the authors' own Lean function (tested against real Go, not proved from fmt's source: count such statements apart). THE CARD IS WHAT COUNTS. Prove the row's statement (the work); the ties are given (YtnlningkcllpdaaDoorTie.lean); close each card by the builder's one call (the guide's Derived/Test/ToyasCard.lean, 'card_holds'). Laid BY PROGRAM, IN A SANDBOX (cutbox-door.mjs). By AI agents, Wed Nov 11 2026. No macro, syntax, notation, axiom, sorry.
-/
import Derived.Test.YtnlningkcllpdaaDoorRows
import GoSem.ClaimSeven
namespace Go.Proofs.YtnlningkcllpdaaDoor
namespace Rows

/-- THE TIED CARD OF 'castellanlaw20.GuardFirst'. -/
def guardFirstCard : Claim7 := { stood := { row := guardFirstRow, standIns := [], harness := (true, "902522e494ed133c98d307db5ecb3080af52a275bbfe8244d56c3f87e0f4c4a0"), looks := true }, kinds := [], alts := [], laidByText := true, laidKinds := [.data, .data, .data, .data, .sentinel, .sentinel, .pinned], laidTests := true, laidLooks := .later }
def GuardFirstCardSaid : Prop := Claim7.holds Tryd.pinned (.plain (OpenSpec.ofChange guardFirstSpec)) guardFirstCard

/-- THE TIED CARD OF 'castellanlaw20.GuardMore'. -/
def guardMoreCard : Claim7 := { stood := { row := guardMoreRow, standIns := [], harness := (true, "902522e494ed133c98d307db5ecb3080af52a275bbfe8244d56c3f87e0f4c4a0"), looks := true }, kinds := [], alts := [], laidByText := true, laidKinds := [.data, .data, .data, .data, .sentinel, .sentinel, .pinned], laidTests := true, laidLooks := .later }
def GuardMoreCardSaid : Prop := Claim7.holds Tryd.pinned (.plain (OpenSpec.ofChange guardMoreSpec)) guardMoreCard

/-- THE TIED CARD OF 'castellanlaw20.GuardHides'. -/
def guardHidesCard : Claim7 := { stood := { row := guardHidesRow, standIns := [], harness := (true, "902522e494ed133c98d307db5ecb3080af52a275bbfe8244d56c3f87e0f4c4a0"), looks := true }, kinds := [], alts := [], laidByText := true, laidKinds := [.data, .data, .data, .data, .sentinel, .sentinel, .pinned], laidTests := true, laidLooks := .later }
def GuardHidesCardSaid : Prop := Claim7.holds Tryd.pinned (.plain (OpenSpec.ofChange guardHidesSpec)) guardHidesCard

/-- THE SECOND FORM's CARD OF 'castellanlaw20.GuardFirst'. -/
def guardFirstUptoCard : Claim7 := { stood := { row := guardFirstUptoRow, standIns := [], harness := (true, "902522e494ed133c98d307db5ecb3080af52a275bbfe8244d56c3f87e0f4c4a0"), looks := true }, kinds := [], alts := [], laidByText := true, laidKinds := [.data, .data, .data, .data, .sentinel, .sentinel, .pinned], laidTests := true, laidLooks := .later }
def GuardFirstUptoCardSaid : Prop := Claim7.holds Tryd.pinned (.plain (OpenSpec.upto guardFirstSpec)) guardFirstUptoCard

/-- THE SECOND FORM's CARD OF 'castellanlaw20.GuardMore'. -/
def guardMoreUptoCard : Claim7 := { stood := { row := guardMoreUptoRow, standIns := [], harness := (true, "902522e494ed133c98d307db5ecb3080af52a275bbfe8244d56c3f87e0f4c4a0"), looks := true }, kinds := [], alts := [], laidByText := true, laidKinds := [.data, .data, .data, .data, .sentinel, .sentinel, .pinned], laidTests := true, laidLooks := .later }
def GuardMoreUptoCardSaid : Prop := Claim7.holds Tryd.pinned (.plain (OpenSpec.upto guardMoreSpec)) guardMoreUptoCard

/-- THE SECOND FORM's CARD OF 'castellanlaw20.GuardHides'. -/
def guardHidesUptoCard : Claim7 := { stood := { row := guardHidesUptoRow, standIns := [], harness := (true, "902522e494ed133c98d307db5ecb3080af52a275bbfe8244d56c3f87e0f4c4a0"), looks := true }, kinds := [], alts := [], laidByText := true, laidKinds := [.data, .data, .data, .data, .sentinel, .sentinel, .pinned], laidTests := true, laidLooks := .later }
def GuardHidesUptoCardSaid : Prop := Claim7.holds Tryd.pinned (.plain (OpenSpec.upto guardHidesSpec)) guardHidesUptoCard
end Rows
end Go.Proofs.YtnlningkcllpdaaDoor
