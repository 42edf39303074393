/-
  DERIVED. GIVEN WITH THE SEED: THE CARDS: each row of YtfpbocjmlhcgiaaGreatDoorRows.lean that lists a variable, with what it lists TIED to the program's text (the seventh form; the later family's looks); each row that meets fmt, with fmt's text TOLD by the authors' own Lean function (tested against real Go, not proved from fmt's source: count such statements apart). THE CARD IS WHAT COUNTS. Prove the row's statement (the work); the ties are given (YtfpbocjmlhcgiaaGreatDoorTie.lean); close each card by the builder's one call (the guide's Derived/Test/ToyasCard.lean, 'card_holds'). Laid BY PROGRAM, IN A SANDBOX (cutbox-door.mjs). By AI agents, Wed Nov 11 2026. No macro, syntax, notation, axiom, sorry.
-/
import Derived.Test.YtfpbocjmlhcgiaaGreatDoorRows
import GoSem.ClaimSeven
namespace Go.Proofs.YtfpbocjmlhcgiaaGreatDoor
namespace Rows

/-- THE TIED CARD OF 'castellanlaw21.AuditClones'. -/
def auditClonesCard : Claim7 := { stood := { row := auditClonesRow, standIns := [], harness := (true, "cbe402cc56ea8315dbd676469524cdc2889b1127eba76af35b6c42689625b9ee"), looks := true }, kinds := [], alts := [], laidByText := true, laidKinds := [.data, .pinned], laidTests := true, laidLooks := .later }
def AuditClonesCardSaid : Prop := Claim7.holds Tryz.pinned (.plain (OpenSpec.ofChange auditClonesSpec)) auditClonesCard

/-- THE TIED CARD OF 'castellanlaw17.VolumePaths'. -/
def volumePathsCard : Claim7 := { stood := { row := volumePathsRow, standIns := [], harness := (true, "cbe402cc56ea8315dbd676469524cdc2889b1127eba76af35b6c42689625b9ee"), looks := true }, kinds := [], alts := [], laidByText := true, laidKinds := [.data, .pinned], laidTests := true, laidLooks := .later }
def VolumePathsCardSaid : Prop := Claim7.holds Tryz.pinned (.plain (OpenSpec.ofChange volumePathsSpec)) volumePathsCard

/-- THE TIED CARD OF 'castellanlaw17.VolumeMoves'. -/
def volumeMovesCard : Claim7 := { stood := { row := volumeMovesRow, standIns := [], harness := (true, "cbe402cc56ea8315dbd676469524cdc2889b1127eba76af35b6c42689625b9ee"), looks := true }, kinds := [], alts := [], laidByText := true, laidKinds := [.data, .pinned], laidTests := true, laidLooks := .later }
def VolumeMovesCardSaid : Prop := Claim7.holds Tryz.pinned (.plain (OpenSpec.ofChange volumeMovesSpec)) volumeMovesCard

/-- THE TIED CARD OF 'castellanlaw17.VolumeAppends'. -/
def volumeAppendsCard : Claim7 := { stood := { row := volumeAppendsRow, standIns := [], harness := (true, "cbe402cc56ea8315dbd676469524cdc2889b1127eba76af35b6c42689625b9ee"), looks := true }, kinds := [], alts := [], laidByText := true, laidKinds := [.data, .pinned], laidTests := true, laidLooks := .later }
def VolumeAppendsCardSaid : Prop := Claim7.holds Tryz.pinned (.plain (OpenSpec.ofChange volumeAppendsSpec)) volumeAppendsCard

/-- THE TIED CARD OF 'castellanlaw17.VolumeLists'. -/
def volumeListsCard : Claim7 := { stood := { row := volumeListsRow, standIns := [], harness := (true, "cbe402cc56ea8315dbd676469524cdc2889b1127eba76af35b6c42689625b9ee"), looks := true }, kinds := [], alts := [], laidByText := true, laidKinds := [.data, .pinned], laidTests := true, laidLooks := .later }
def VolumeListsCardSaid : Prop := Claim7.holds Tryz.pinned (.plain (OpenSpec.ofChange volumeListsSpec)) volumeListsCard

/-- THE TIED CARD OF 'castellanlaw17.VolumeKeeps'. -/
def volumeKeepsCard : Claim7 := { stood := { row := volumeKeepsRow, standIns := [], harness := (true, "cbe402cc56ea8315dbd676469524cdc2889b1127eba76af35b6c42689625b9ee"), looks := true }, kinds := [], alts := [], laidByText := true, laidKinds := [.data, .pinned], laidTests := true, laidLooks := .later }
def VolumeKeepsCardSaid : Prop := Claim7.holds Tryz.pinned (.plain (OpenSpec.ofChange volumeKeepsSpec)) volumeKeepsCard

/-- THE TIED CARD OF 'castellanlaw17.VolumeClones'. -/
def volumeClonesCard : Claim7 := { stood := { row := volumeClonesRow, standIns := [], harness := (true, "cbe402cc56ea8315dbd676469524cdc2889b1127eba76af35b6c42689625b9ee"), looks := true }, kinds := [], alts := [], laidByText := true, laidKinds := [.data, .pinned], laidTests := true, laidLooks := .later }
def VolumeClonesCardSaid : Prop := Claim7.holds Tryz.pinned (.plain (OpenSpec.ofChange volumeClonesSpec)) volumeClonesCard

/-- THE SECOND FORM's CARD OF 'castellanlaw21.AuditClones'. -/
def auditClonesUptoCard : Claim7 := { stood := { row := auditClonesUptoRow, standIns := [], harness := (true, "cbe402cc56ea8315dbd676469524cdc2889b1127eba76af35b6c42689625b9ee"), looks := true }, kinds := [], alts := [], laidByText := true, laidKinds := [.data, .pinned], laidTests := true, laidLooks := .later }
def AuditClonesUptoCardSaid : Prop := Claim7.holds Tryz.pinned (.plain (OpenSpec.upto auditClonesSpec)) auditClonesUptoCard

/-- THE SECOND FORM's CARD OF 'castellanlaw17.VolumePaths'. -/
def volumePathsUptoCard : Claim7 := { stood := { row := volumePathsUptoRow, standIns := [], harness := (true, "cbe402cc56ea8315dbd676469524cdc2889b1127eba76af35b6c42689625b9ee"), looks := true }, kinds := [], alts := [], laidByText := true, laidKinds := [.data, .pinned], laidTests := true, laidLooks := .later }
def VolumePathsUptoCardSaid : Prop := Claim7.holds Tryz.pinned (.plain (OpenSpec.upto volumePathsSpec)) volumePathsUptoCard

/-- THE SECOND FORM's CARD OF 'castellanlaw17.VolumeMoves'. -/
def volumeMovesUptoCard : Claim7 := { stood := { row := volumeMovesUptoRow, standIns := [], harness := (true, "cbe402cc56ea8315dbd676469524cdc2889b1127eba76af35b6c42689625b9ee"), looks := true }, kinds := [], alts := [], laidByText := true, laidKinds := [.data, .pinned], laidTests := true, laidLooks := .later }
def VolumeMovesUptoCardSaid : Prop := Claim7.holds Tryz.pinned (.plain (OpenSpec.upto volumeMovesSpec)) volumeMovesUptoCard

/-- THE SECOND FORM's CARD OF 'castellanlaw17.VolumeAppends'. -/
def volumeAppendsUptoCard : Claim7 := { stood := { row := volumeAppendsUptoRow, standIns := [], harness := (true, "cbe402cc56ea8315dbd676469524cdc2889b1127eba76af35b6c42689625b9ee"), looks := true }, kinds := [], alts := [], laidByText := true, laidKinds := [.data, .pinned], laidTests := true, laidLooks := .later }
def VolumeAppendsUptoCardSaid : Prop := Claim7.holds Tryz.pinned (.plain (OpenSpec.upto volumeAppendsSpec)) volumeAppendsUptoCard

/-- THE SECOND FORM's CARD OF 'castellanlaw17.VolumeLists'. -/
def volumeListsUptoCard : Claim7 := { stood := { row := volumeListsUptoRow, standIns := [], harness := (true, "cbe402cc56ea8315dbd676469524cdc2889b1127eba76af35b6c42689625b9ee"), looks := true }, kinds := [], alts := [], laidByText := true, laidKinds := [.data, .pinned], laidTests := true, laidLooks := .later }
def VolumeListsUptoCardSaid : Prop := Claim7.holds Tryz.pinned (.plain (OpenSpec.upto volumeListsSpec)) volumeListsUptoCard

/-- THE SECOND FORM's CARD OF 'castellanlaw17.VolumeKeeps'. -/
def volumeKeepsUptoCard : Claim7 := { stood := { row := volumeKeepsUptoRow, standIns := [], harness := (true, "cbe402cc56ea8315dbd676469524cdc2889b1127eba76af35b6c42689625b9ee"), looks := true }, kinds := [], alts := [], laidByText := true, laidKinds := [.data, .pinned], laidTests := true, laidLooks := .later }
def VolumeKeepsUptoCardSaid : Prop := Claim7.holds Tryz.pinned (.plain (OpenSpec.upto volumeKeepsSpec)) volumeKeepsUptoCard

/-- THE SECOND FORM's CARD OF 'castellanlaw17.VolumeClones'. -/
def volumeClonesUptoCard : Claim7 := { stood := { row := volumeClonesUptoRow, standIns := [], harness := (true, "cbe402cc56ea8315dbd676469524cdc2889b1127eba76af35b6c42689625b9ee"), looks := true }, kinds := [], alts := [], laidByText := true, laidKinds := [.data, .pinned], laidTests := true, laidLooks := .later }
def VolumeClonesUptoCardSaid : Prop := Claim7.holds Tryz.pinned (.plain (OpenSpec.upto volumeClonesSpec)) volumeClonesUptoCard
end Rows
end Go.Proofs.YtfpbocjmlhcgiaaGreatDoor
