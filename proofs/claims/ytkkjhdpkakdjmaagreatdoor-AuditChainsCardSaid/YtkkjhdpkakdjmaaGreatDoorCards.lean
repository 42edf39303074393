/-
  DERIVED. GIVEN WITH THE SEED: THE CARDS: each row of YtkkjhdpkakdjmaaGreatDoorRows.lean that lists a variable, with what it lists TIED to the program's text (the seventh form; the later family's looks); each row that meets fmt, with fmt's text TOLD by the authors' own Lean function (tested against real Go, not proved from fmt's source: count such statements apart). THE CARD IS WHAT COUNTS. Prove the row's statement (the work); the ties are given (YtkkjhdpkakdjmaaGreatDoorTie.lean); close each card by the builder's one call (the guide's Derived/Test/ToyasCard.lean, 'card_holds'). Laid BY PROGRAM, IN A SANDBOX (cutbox-door.mjs). By AI agents, Wed Nov 11 2026. No macro, syntax, notation, axiom, sorry.
-/
import Derived.Test.YtkkjhdpkakdjmaaGreatDoorRows
import GoSem.ClaimSeven
namespace Go.Proofs.YtkkjhdpkakdjmaaGreatDoor
namespace Rows

/-- THE TIED CARD OF 'castellanlaw21.AuditBytes'. -/
def auditBytesCard : Claim7 := { stood := { row := auditBytesRow, standIns := [], harness := (true, "30ffd66c329692381af572b18d700148f18684a232ae06aa9a867acf9422e682"), looks := true }, kinds := [], alts := [], laidByText := true, laidKinds := [.data, .pinned], laidTests := true, laidLooks := .later }
def AuditBytesCardSaid : Prop := Claim7.holds Tryz.pinned (.plain (OpenSpec.ofChange auditBytesSpec)) auditBytesCard

/-- THE TIED CARD OF 'castellanlaw21.AuditOpens'. -/
def auditOpensCard : Claim7 := { stood := { row := auditOpensRow, standIns := [], harness := (true, "30ffd66c329692381af572b18d700148f18684a232ae06aa9a867acf9422e682"), looks := true }, kinds := [], alts := [], laidByText := true, laidKinds := [.data, .pinned], laidTests := true, laidLooks := .later }
def AuditOpensCardSaid : Prop := Claim7.holds Tryz.pinned (.plain (OpenSpec.ofChange auditOpensSpec)) auditOpensCard

/-- THE TIED CARD OF 'castellanlaw21.AuditChains'. -/
def auditChainsCard : Claim7 := { stood := { row := auditChainsRow, standIns := [], harness := (true, "30ffd66c329692381af572b18d700148f18684a232ae06aa9a867acf9422e682"), looks := true }, kinds := [], alts := [], laidByText := true, laidKinds := [.data, .pinned], laidTests := true, laidLooks := .later }
def AuditChainsCardSaid : Prop := Claim7.holds Tryz.pinned (.plain (OpenSpec.ofChange auditChainsSpec)) auditChainsCard

/-- THE TIED CARD OF 'castellanlaw21.AuditClones'. -/
def auditClonesCard : Claim7 := { stood := { row := auditClonesRow, standIns := [], harness := (true, "30ffd66c329692381af572b18d700148f18684a232ae06aa9a867acf9422e682"), looks := true }, kinds := [], alts := [], laidByText := true, laidKinds := [.data, .pinned], laidTests := true, laidLooks := .later }
def AuditClonesCardSaid : Prop := Claim7.holds Tryz.pinned (.plain (OpenSpec.ofChange auditClonesSpec)) auditClonesCard

/-- THE SECOND FORM's CARD OF 'castellanlaw21.AuditBytes'. -/
def auditBytesUptoCard : Claim7 := { stood := { row := auditBytesUptoRow, standIns := [], harness := (true, "30ffd66c329692381af572b18d700148f18684a232ae06aa9a867acf9422e682"), looks := true }, kinds := [], alts := [], laidByText := true, laidKinds := [.data, .pinned], laidTests := true, laidLooks := .later }
def AuditBytesUptoCardSaid : Prop := Claim7.holds Tryz.pinned (.plain (OpenSpec.upto auditBytesSpec)) auditBytesUptoCard

/-- THE SECOND FORM's CARD OF 'castellanlaw21.AuditOpens'. -/
def auditOpensUptoCard : Claim7 := { stood := { row := auditOpensUptoRow, standIns := [], harness := (true, "30ffd66c329692381af572b18d700148f18684a232ae06aa9a867acf9422e682"), looks := true }, kinds := [], alts := [], laidByText := true, laidKinds := [.data, .pinned], laidTests := true, laidLooks := .later }
def AuditOpensUptoCardSaid : Prop := Claim7.holds Tryz.pinned (.plain (OpenSpec.upto auditOpensSpec)) auditOpensUptoCard

/-- THE SECOND FORM's CARD OF 'castellanlaw21.AuditChains'. -/
def auditChainsUptoCard : Claim7 := { stood := { row := auditChainsUptoRow, standIns := [], harness := (true, "30ffd66c329692381af572b18d700148f18684a232ae06aa9a867acf9422e682"), looks := true }, kinds := [], alts := [], laidByText := true, laidKinds := [.data, .pinned], laidTests := true, laidLooks := .later }
def AuditChainsUptoCardSaid : Prop := Claim7.holds Tryz.pinned (.plain (OpenSpec.upto auditChainsSpec)) auditChainsUptoCard

/-- THE SECOND FORM's CARD OF 'castellanlaw21.AuditClones'. -/
def auditClonesUptoCard : Claim7 := { stood := { row := auditClonesUptoRow, standIns := [], harness := (true, "30ffd66c329692381af572b18d700148f18684a232ae06aa9a867acf9422e682"), looks := true }, kinds := [], alts := [], laidByText := true, laidKinds := [.data, .pinned], laidTests := true, laidLooks := .later }
def AuditClonesUptoCardSaid : Prop := Claim7.holds Tryz.pinned (.plain (OpenSpec.upto auditClonesSpec)) auditClonesUptoCard
end Rows
end Go.Proofs.YtkkjhdpkakdjmaaGreatDoor
