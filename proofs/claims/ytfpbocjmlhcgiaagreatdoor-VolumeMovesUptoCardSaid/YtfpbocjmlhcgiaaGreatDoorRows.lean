/-
  NARROWER THAN 'FOR EVERY INPUT', by the rows' own cells (each row's printed sentence says how): AuditClones: laid · VolumePaths: laid · VolumeMoves: laid · VolumeAppends: laid · VolumeLists: laid · VolumeKeeps: laid · VolumeClones: laid.
  DERIVED. THE GIVEN ROWS OF THIS SEAT. 7 by the template 'for every input the law returns true; each argument reads behind the call as it read before'; 0 by the template 'total and deterministic' (their statements: YtfpbocjmlhcgiaaGreatDoorTotals.lean).
  GIVEN WITH THE SEED: the statements are not yours to turn. If you find one false, say at which input.
  Laid BY PROGRAM, IN A SANDBOX (cutbox-rows.mjs): the forced cells as the released guide's own fill.sh prints them over the translation 481bfb2873498cd5… (all of the seat's roots in one cut). By AI agents, Wed Nov 11 2026. No macro, syntax, notation, axiom, sorry.
-/
import Derived.Test.YtfpbocjmlhcgiaaGreatDoorChecked
import GoSem.PinnedTables
import GoSem.Claim
import GoSem.ClaimJoined
import GoSem.ClaimMapViews
import Derived.JoinedTies
import Derived.KernelRfl
namespace Go.Proofs.YtfpbocjmlhcgiaaGreatDoor
/- THE CELL 'sum', in the pinned program and in every row, IS THE sha256 OF THE DUMP (.gsa) THAT YtfpbocjmlhcgiaaGreatDoorProg.lean LOADS. Nothing in Lean hashes anything: it is a label: what it is worth is what the hold of that sum in a sandbox is worth. -/
noncomputable def Tryz.pinned : Pinned := { name := "ytfpbocjmlhcgiaagreatdoor", sum := "481bfb2873498cd5653147a6897667597f71932d12130cef2fcc1b8d1e5297e0", checked := Tryz.checked }
namespace Rows
def none {H : Type} : Left H := { results := [], args := [] }

/- WHAT THE LISTED PACKAGE-LEVEL VARIABLES READ AS WHEN THE CALL BEGINS. Each datum BY PROGRAM (the guide's laid-datum.mjs) off the statement by which the dump's own 'gosem.cut.vars' lays the variable. In a bare row this is a premise. The card (YtfpbocjmlhcgiaaGreatDoorCards.lean) ties it to the program's text. -/
def laid_unicode_utf8_acceptRanges {H : Type} : DataW H := .agg [.agg [.lit (.int .u8 128), .lit (.int .u8 191)], .agg [.lit (.int .u8 160), .lit (.int .u8 191)], .agg [.lit (.int .u8 128), .lit (.int .u8 159)], .agg [.lit (.int .u8 144), .lit (.int .u8 191)], .agg [.lit (.int .u8 128), .lit (.int .u8 143)], .agg [.lit (.int .u8 0), .lit (.int .u8 0)], .agg [.lit (.int .u8 0), .lit (.int .u8 0)], .agg [.lit (.int .u8 0), .lit (.int .u8 0)], .agg [.lit (.int .u8 0), .lit (.int .u8 0)], .agg [.lit (.int .u8 0), .lit (.int .u8 0)], .agg [.lit (.int .u8 0), .lit (.int .u8 0)], .agg [.lit (.int .u8 0), .lit (.int .u8 0)], .agg [.lit (.int .u8 0), .lit (.int .u8 0)], .agg [.lit (.int .u8 0), .lit (.int .u8 0)], .agg [.lit (.int .u8 0), .lit (.int .u8 0)], .agg [.lit (.int .u8 0), .lit (.int .u8 0)]]
/-- One of Go's own tables, pinned by name: the form's constant. -/
def laid_unicode_utf8_first : DataW Unit := Go.Pinned.utf8First

/-- 'castellanlaw21.AuditClones': WHATEVER THE INPUT: true; the input reads as it did. -/
def auditClonesSpec : ChangeSpec := { name := "auditClones", fn := fun _ => fun
  | [d1, d2] => { results := [.lit (.bool true)], args := [d1, d2] }
  | _ => none }
def auditClonesRow : OpenClaim := { program := "ytfpbocjmlhcgiaagreatdoor", sum := "481bfb2873498cd5653147a6897667597f71932d12130cef2fcc1b8d1e5297e0", func := "castellan/castellanlaw21.AuditClones", spec := "auditClones", inPlace := ["internal/abi.NoEscape", "internal/bytealg.MakeNoZero", "internal/bytealg.IndexByteString", "internal/bytealg.IndexString", "maps.clone"], unfollowed := true, recurses := true, named := ["unicode/utf8.first", "unicode/utf8.acceptRanges", "internal/bytealg.MaxLen"], apart := false, laid := [("unicode/utf8.acceptRanges", laid_unicode_utf8_acceptRanges), ("unicode/utf8.first", laid_unicode_utf8_first)] }
def AuditClonesSaid : Prop := auditClonesRow.holds Tryz.pinned (OpenSpec.ofChange auditClonesSpec)

/-- ITS FALSE NEIGHBOUR: 'it returns false'. Refute it at one input. -/
def auditClonesWrong : ChangeSpec := { name := "auditClones", fn := fun _ => fun
  | [d1, d2] => { results := [.lit (.bool false)], args := [d1, d2] }
  | _ => none }
def AuditClonesWrongFalsely : Prop := auditClonesRow.holds Tryz.pinned (OpenSpec.ofChange auditClonesWrong)

/-- 'castellanlaw17.VolumePaths': WHATEVER THE INPUT: true; the input reads as it did. -/
def volumePathsSpec : ChangeSpec := { name := "volumePaths", fn := fun _ => fun
  | [d] => { results := [.lit (.bool true)], args := [d] }
  | _ => none }
def volumePathsRow : OpenClaim := { program := "ytfpbocjmlhcgiaagreatdoor", sum := "481bfb2873498cd5653147a6897667597f71932d12130cef2fcc1b8d1e5297e0", func := "castellan/castellanlaw17.VolumePaths", spec := "volumePaths", inPlace := ["internal/bytealg.CountString", "internal/bytealg.IndexByteString", "internal/bytealg.IndexString", "internal/abi.NoEscape", "maps.clone", "internal/bytealg.MakeNoZero"], unfollowed := true, recurses := true, named := ["unicode/utf8.first", "unicode/utf8.acceptRanges", "internal/bytealg.MaxLen"], apart := false, laid := [("unicode/utf8.acceptRanges", laid_unicode_utf8_acceptRanges), ("unicode/utf8.first", laid_unicode_utf8_first)] }
def VolumePathsSaid : Prop := volumePathsRow.holds Tryz.pinned (OpenSpec.ofChange volumePathsSpec)

/-- ITS FALSE NEIGHBOUR: 'it returns false'. Refute it at one input. -/
def volumePathsWrong : ChangeSpec := { name := "volumePaths", fn := fun _ => fun
  | [d] => { results := [.lit (.bool false)], args := [d] }
  | _ => none }
def VolumePathsWrongFalsely : Prop := volumePathsRow.holds Tryz.pinned (OpenSpec.ofChange volumePathsWrong)

/-- 'castellanlaw17.VolumeMoves': WHATEVER THE INPUT: true; the input reads as it did. -/
def volumeMovesSpec : ChangeSpec := { name := "volumeMoves", fn := fun _ => fun
  | [d1, d2, d3] => { results := [.lit (.bool true)], args := [d1, d2, d3] }
  | _ => none }
def volumeMovesRow : OpenClaim := { program := "ytfpbocjmlhcgiaagreatdoor", sum := "481bfb2873498cd5653147a6897667597f71932d12130cef2fcc1b8d1e5297e0", func := "castellan/castellanlaw17.VolumeMoves", spec := "volumeMoves", inPlace := ["internal/bytealg.IndexByteString", "internal/bytealg.IndexString", "internal/abi.NoEscape", "internal/bytealg.CountString", "maps.clone", "internal/bytealg.MakeNoZero"], unfollowed := true, recurses := true, named := ["unicode/utf8.first", "unicode/utf8.acceptRanges", "internal/bytealg.MaxLen"], apart := false, laid := [("unicode/utf8.acceptRanges", laid_unicode_utf8_acceptRanges), ("unicode/utf8.first", laid_unicode_utf8_first)] }
def VolumeMovesSaid : Prop := volumeMovesRow.holds Tryz.pinned (OpenSpec.ofChange volumeMovesSpec)

/-- ITS FALSE NEIGHBOUR: 'it returns false'. Refute it at one input. -/
def volumeMovesWrong : ChangeSpec := { name := "volumeMoves", fn := fun _ => fun
  | [d1, d2, d3] => { results := [.lit (.bool false)], args := [d1, d2, d3] }
  | _ => none }
def VolumeMovesWrongFalsely : Prop := volumeMovesRow.holds Tryz.pinned (OpenSpec.ofChange volumeMovesWrong)

/-- 'castellanlaw17.VolumeAppends': WHATEVER THE INPUT: true; the input reads as it did. -/
def volumeAppendsSpec : ChangeSpec := { name := "volumeAppends", fn := fun _ => fun
  | [d1, d2] => { results := [.lit (.bool true)], args := [d1, d2] }
  | _ => none }
def volumeAppendsRow : OpenClaim := { program := "ytfpbocjmlhcgiaagreatdoor", sum := "481bfb2873498cd5653147a6897667597f71932d12130cef2fcc1b8d1e5297e0", func := "castellan/castellanlaw17.VolumeAppends", spec := "volumeAppends", inPlace := ["internal/bytealg.IndexByteString", "internal/bytealg.IndexString", "internal/abi.NoEscape", "internal/bytealg.CountString", "maps.clone", "internal/bytealg.MakeNoZero"], unfollowed := true, recurses := true, named := ["unicode/utf8.first", "unicode/utf8.acceptRanges", "internal/bytealg.MaxLen"], apart := false, laid := [("unicode/utf8.acceptRanges", laid_unicode_utf8_acceptRanges), ("unicode/utf8.first", laid_unicode_utf8_first)] }
def VolumeAppendsSaid : Prop := volumeAppendsRow.holds Tryz.pinned (OpenSpec.ofChange volumeAppendsSpec)

/-- ITS FALSE NEIGHBOUR: 'it returns false'. Refute it at one input. -/
def volumeAppendsWrong : ChangeSpec := { name := "volumeAppends", fn := fun _ => fun
  | [d1, d2] => { results := [.lit (.bool false)], args := [d1, d2] }
  | _ => none }
def VolumeAppendsWrongFalsely : Prop := volumeAppendsRow.holds Tryz.pinned (OpenSpec.ofChange volumeAppendsWrong)

/-- 'castellanlaw17.VolumeLists': WHATEVER THE INPUT: true; the input reads as it did. -/
def volumeListsSpec : ChangeSpec := { name := "volumeLists", fn := fun _ => fun
  | [d1, d2, d3] => { results := [.lit (.bool true)], args := [d1, d2, d3] }
  | _ => none }
def volumeListsRow : OpenClaim := { program := "ytfpbocjmlhcgiaagreatdoor", sum := "481bfb2873498cd5653147a6897667597f71932d12130cef2fcc1b8d1e5297e0", func := "castellan/castellanlaw17.VolumeLists", spec := "volumeLists", inPlace := ["internal/bytealg.IndexByteString", "internal/bytealg.IndexString", "internal/abi.NoEscape", "internal/bytealg.CountString", "maps.clone", "internal/bytealg.MakeNoZero"], unfollowed := true, recurses := true, named := ["unicode/utf8.first", "unicode/utf8.acceptRanges", "internal/bytealg.MaxLen"], apart := false, laid := [("unicode/utf8.acceptRanges", laid_unicode_utf8_acceptRanges), ("unicode/utf8.first", laid_unicode_utf8_first)] }
def VolumeListsSaid : Prop := volumeListsRow.holds Tryz.pinned (OpenSpec.ofChange volumeListsSpec)

/-- ITS FALSE NEIGHBOUR: 'it returns false'. Refute it at one input. -/
def volumeListsWrong : ChangeSpec := { name := "volumeLists", fn := fun _ => fun
  | [d1, d2, d3] => { results := [.lit (.bool false)], args := [d1, d2, d3] }
  | _ => none }
def VolumeListsWrongFalsely : Prop := volumeListsRow.holds Tryz.pinned (OpenSpec.ofChange volumeListsWrong)

/-- 'castellanlaw17.VolumeKeeps': WHATEVER THE INPUT: true; the input reads as it did. -/
def volumeKeepsSpec : ChangeSpec := { name := "volumeKeeps", fn := fun _ => fun
  | [d1, d2] => { results := [.lit (.bool true)], args := [d1, d2] }
  | _ => none }
def volumeKeepsRow : OpenClaim := { program := "ytfpbocjmlhcgiaagreatdoor", sum := "481bfb2873498cd5653147a6897667597f71932d12130cef2fcc1b8d1e5297e0", func := "castellan/castellanlaw17.VolumeKeeps", spec := "volumeKeeps", inPlace := ["internal/bytealg.IndexByteString", "internal/bytealg.IndexString", "internal/abi.NoEscape", "internal/bytealg.CountString", "maps.clone", "internal/bytealg.MakeNoZero"], unfollowed := true, recurses := true, named := ["unicode/utf8.first", "unicode/utf8.acceptRanges", "internal/bytealg.MaxLen"], apart := false, laid := [("unicode/utf8.acceptRanges", laid_unicode_utf8_acceptRanges), ("unicode/utf8.first", laid_unicode_utf8_first)] }
def VolumeKeepsSaid : Prop := volumeKeepsRow.holds Tryz.pinned (OpenSpec.ofChange volumeKeepsSpec)

/-- ITS FALSE NEIGHBOUR: 'it returns false'. Refute it at one input. -/
def volumeKeepsWrong : ChangeSpec := { name := "volumeKeeps", fn := fun _ => fun
  | [d1, d2] => { results := [.lit (.bool false)], args := [d1, d2] }
  | _ => none }
def VolumeKeepsWrongFalsely : Prop := volumeKeepsRow.holds Tryz.pinned (OpenSpec.ofChange volumeKeepsWrong)

/-- 'castellanlaw17.VolumeClones': WHATEVER THE INPUT: true; the input reads as it did. -/
def volumeClonesSpec : ChangeSpec := { name := "volumeClones", fn := fun _ => fun
  | [d1, d2, d3] => { results := [.lit (.bool true)], args := [d1, d2, d3] }
  | _ => none }
def volumeClonesRow : OpenClaim := { program := "ytfpbocjmlhcgiaagreatdoor", sum := "481bfb2873498cd5653147a6897667597f71932d12130cef2fcc1b8d1e5297e0", func := "castellan/castellanlaw17.VolumeClones", spec := "volumeClones", inPlace := ["internal/abi.NoEscape", "internal/bytealg.CountString", "internal/bytealg.IndexByteString", "internal/bytealg.IndexString", "maps.clone", "internal/bytealg.MakeNoZero"], unfollowed := true, recurses := true, named := ["unicode/utf8.first", "unicode/utf8.acceptRanges", "internal/bytealg.MaxLen"], apart := false, laid := [("unicode/utf8.acceptRanges", laid_unicode_utf8_acceptRanges), ("unicode/utf8.first", laid_unicode_utf8_first)] }
def VolumeClonesSaid : Prop := volumeClonesRow.holds Tryz.pinned (OpenSpec.ofChange volumeClonesSpec)

/-- ITS FALSE NEIGHBOUR: 'it returns false'. Refute it at one input. -/
def volumeClonesWrong : ChangeSpec := { name := "volumeClones", fn := fun _ => fun
  | [d1, d2, d3] => { results := [.lit (.bool false)], args := [d1, d2, d3] }
  | _ => none }
def VolumeClonesWrongFalsely : Prop := volumeClonesRow.holds Tryz.pinned (OpenSpec.ofChange volumeClonesWrong)

/- THE SECOND FORM. 'bulk': how many values and letters a reading holds, each counted each time it is reached (what is shared counts as often as it is met; a slice's spare places count too). A statement '..UptoSaid' is the law's where the arguments, and the package variables that the reading takes, are together of bulk at most 1048576: NARROWER than '..Said'. Prove '..Said' where nothing that the law and all that it calls make is longer than what came in: it says more and counts as full. Else prove '..UptoSaid'. A law counts once. -/
mutual
def uptoBulk {H : Type} : DataW H → Nat
  | .lit (.string bytes) => bytes.length + 1
  | .lit _ => 1
  | .nil => 1
  | .ptr d => uptoBulk d + 1
  | .slice elems spare => uptoBulkAll elems + uptoBulkAll spare + 1
  | .agg parts => uptoBulkAll parts + 1
  | .iface _ d => uptoBulk d + 1
  | .map entries => uptoBulkEntries entries + 1
  | .held _ => 1
def uptoBulkAll {H : Type} : List (DataW H) → Nat
  | [] => 0
  | d :: r => uptoBulk d + uptoBulkAll r
def uptoBulkEntries {H : Type} : List (Lit × DataW H) → Nat
  | [] => 0
  | x :: r => uptoBulkEntry x + uptoBulkEntries r
def uptoBulkEntry {H : Type} : Lit × DataW H → Nat
  | (.string bytes, d) => bytes.length + uptoBulk d + 1
  | (_, d) => uptoBulk d + 1
 end
def uptoSmall : (H : Type) → List (DataW H) → Bool := fun _ ds => decide (uptoBulkAll ds ≤ 1048576)
def OpenSpec.upto (s : _root_.Go.ChangeSpec) : _root_.Go.OpenSpec := { _root_.Go.OpenSpec.ofChange s with cond := some uptoSmall }

/-- 'castellanlaw21.AuditClones', WHERE WHAT IT READS IS OF BULK AT MOST 1048576: true; the input reads as it did. -/
def auditClonesUptoRow : OpenClaim := { program := "ytfpbocjmlhcgiaagreatdoor", sum := "481bfb2873498cd5653147a6897667597f71932d12130cef2fcc1b8d1e5297e0", func := "castellan/castellanlaw21.AuditClones", spec := "auditClones", inPlace := ["internal/abi.NoEscape", "internal/bytealg.MakeNoZero", "internal/bytealg.IndexByteString", "internal/bytealg.IndexString", "maps.clone"], unfollowed := true, recurses := true, named := ["unicode/utf8.first", "unicode/utf8.acceptRanges", "internal/bytealg.MaxLen"], apart := false, laid := [("unicode/utf8.acceptRanges", laid_unicode_utf8_acceptRanges), ("unicode/utf8.first", laid_unicode_utf8_first)], narrowed := true }
def AuditClonesUptoSaid : Prop := auditClonesUptoRow.holds Tryz.pinned (OpenSpec.upto auditClonesSpec)

/-- 'castellanlaw17.VolumePaths', WHERE WHAT IT READS IS OF BULK AT MOST 1048576: true; the input reads as it did. -/
def volumePathsUptoRow : OpenClaim := { program := "ytfpbocjmlhcgiaagreatdoor", sum := "481bfb2873498cd5653147a6897667597f71932d12130cef2fcc1b8d1e5297e0", func := "castellan/castellanlaw17.VolumePaths", spec := "volumePaths", inPlace := ["internal/bytealg.CountString", "internal/bytealg.IndexByteString", "internal/bytealg.IndexString", "internal/abi.NoEscape", "maps.clone", "internal/bytealg.MakeNoZero"], unfollowed := true, recurses := true, named := ["unicode/utf8.first", "unicode/utf8.acceptRanges", "internal/bytealg.MaxLen"], apart := false, laid := [("unicode/utf8.acceptRanges", laid_unicode_utf8_acceptRanges), ("unicode/utf8.first", laid_unicode_utf8_first)], narrowed := true }
def VolumePathsUptoSaid : Prop := volumePathsUptoRow.holds Tryz.pinned (OpenSpec.upto volumePathsSpec)

/-- 'castellanlaw17.VolumeMoves', WHERE WHAT IT READS IS OF BULK AT MOST 1048576: true; the input reads as it did. -/
def volumeMovesUptoRow : OpenClaim := { program := "ytfpbocjmlhcgiaagreatdoor", sum := "481bfb2873498cd5653147a6897667597f71932d12130cef2fcc1b8d1e5297e0", func := "castellan/castellanlaw17.VolumeMoves", spec := "volumeMoves", inPlace := ["internal/bytealg.IndexByteString", "internal/bytealg.IndexString", "internal/abi.NoEscape", "internal/bytealg.CountString", "maps.clone", "internal/bytealg.MakeNoZero"], unfollowed := true, recurses := true, named := ["unicode/utf8.first", "unicode/utf8.acceptRanges", "internal/bytealg.MaxLen"], apart := false, laid := [("unicode/utf8.acceptRanges", laid_unicode_utf8_acceptRanges), ("unicode/utf8.first", laid_unicode_utf8_first)], narrowed := true }
def VolumeMovesUptoSaid : Prop := volumeMovesUptoRow.holds Tryz.pinned (OpenSpec.upto volumeMovesSpec)

/-- 'castellanlaw17.VolumeAppends', WHERE WHAT IT READS IS OF BULK AT MOST 1048576: true; the input reads as it did. -/
def volumeAppendsUptoRow : OpenClaim := { program := "ytfpbocjmlhcgiaagreatdoor", sum := "481bfb2873498cd5653147a6897667597f71932d12130cef2fcc1b8d1e5297e0", func := "castellan/castellanlaw17.VolumeAppends", spec := "volumeAppends", inPlace := ["internal/bytealg.IndexByteString", "internal/bytealg.IndexString", "internal/abi.NoEscape", "internal/bytealg.CountString", "maps.clone", "internal/bytealg.MakeNoZero"], unfollowed := true, recurses := true, named := ["unicode/utf8.first", "unicode/utf8.acceptRanges", "internal/bytealg.MaxLen"], apart := false, laid := [("unicode/utf8.acceptRanges", laid_unicode_utf8_acceptRanges), ("unicode/utf8.first", laid_unicode_utf8_first)], narrowed := true }
def VolumeAppendsUptoSaid : Prop := volumeAppendsUptoRow.holds Tryz.pinned (OpenSpec.upto volumeAppendsSpec)

/-- 'castellanlaw17.VolumeLists', WHERE WHAT IT READS IS OF BULK AT MOST 1048576: true; the input reads as it did. -/
def volumeListsUptoRow : OpenClaim := { program := "ytfpbocjmlhcgiaagreatdoor", sum := "481bfb2873498cd5653147a6897667597f71932d12130cef2fcc1b8d1e5297e0", func := "castellan/castellanlaw17.VolumeLists", spec := "volumeLists", inPlace := ["internal/bytealg.IndexByteString", "internal/bytealg.IndexString", "internal/abi.NoEscape", "internal/bytealg.CountString", "maps.clone", "internal/bytealg.MakeNoZero"], unfollowed := true, recurses := true, named := ["unicode/utf8.first", "unicode/utf8.acceptRanges", "internal/bytealg.MaxLen"], apart := false, laid := [("unicode/utf8.acceptRanges", laid_unicode_utf8_acceptRanges), ("unicode/utf8.first", laid_unicode_utf8_first)], narrowed := true }
def VolumeListsUptoSaid : Prop := volumeListsUptoRow.holds Tryz.pinned (OpenSpec.upto volumeListsSpec)

/-- 'castellanlaw17.VolumeKeeps', WHERE WHAT IT READS IS OF BULK AT MOST 1048576: true; the input reads as it did. -/
def volumeKeepsUptoRow : OpenClaim := { program := "ytfpbocjmlhcgiaagreatdoor", sum := "481bfb2873498cd5653147a6897667597f71932d12130cef2fcc1b8d1e5297e0", func := "castellan/castellanlaw17.VolumeKeeps", spec := "volumeKeeps", inPlace := ["internal/bytealg.IndexByteString", "internal/bytealg.IndexString", "internal/abi.NoEscape", "internal/bytealg.CountString", "maps.clone", "internal/bytealg.MakeNoZero"], unfollowed := true, recurses := true, named := ["unicode/utf8.first", "unicode/utf8.acceptRanges", "internal/bytealg.MaxLen"], apart := false, laid := [("unicode/utf8.acceptRanges", laid_unicode_utf8_acceptRanges), ("unicode/utf8.first", laid_unicode_utf8_first)], narrowed := true }
def VolumeKeepsUptoSaid : Prop := volumeKeepsUptoRow.holds Tryz.pinned (OpenSpec.upto volumeKeepsSpec)

/-- 'castellanlaw17.VolumeClones', WHERE WHAT IT READS IS OF BULK AT MOST 1048576: true; the input reads as it did. -/
def volumeClonesUptoRow : OpenClaim := { program := "ytfpbocjmlhcgiaagreatdoor", sum := "481bfb2873498cd5653147a6897667597f71932d12130cef2fcc1b8d1e5297e0", func := "castellan/castellanlaw17.VolumeClones", spec := "volumeClones", inPlace := ["internal/abi.NoEscape", "internal/bytealg.CountString", "internal/bytealg.IndexByteString", "internal/bytealg.IndexString", "maps.clone", "internal/bytealg.MakeNoZero"], unfollowed := true, recurses := true, named := ["unicode/utf8.first", "unicode/utf8.acceptRanges", "internal/bytealg.MaxLen"], apart := false, laid := [("unicode/utf8.acceptRanges", laid_unicode_utf8_acceptRanges), ("unicode/utf8.first", laid_unicode_utf8_first)], narrowed := true }
def VolumeClonesUptoSaid : Prop := volumeClonesUptoRow.holds Tryz.pinned (OpenSpec.upto volumeClonesSpec)

end Rows
end Go.Proofs.YtfpbocjmlhcgiaaGreatDoor
