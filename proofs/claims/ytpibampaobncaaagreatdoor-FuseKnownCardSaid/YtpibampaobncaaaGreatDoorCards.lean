/-
  DERIVED. GIVEN WITH THE SEED: THE CARDS: each row of YtpibampaobncaaaGreatDoorRows.lean that lists a variable, with what it lists TIED to the program's text (the seventh form; the later family's looks); each row that meets fmt, with fmt's text TOLD by the authors' own Lean function (tested against real Go, not proved from fmt's source: count such statements apart). THE CARD IS WHAT COUNTS. Prove the row's statement (the work); the ties are given (YtpibampaobncaaaGreatDoorTie.lean); close each card by the builder's one call (the guide's Derived/Test/ToyasCard.lean, 'card_holds'). Laid BY PROGRAM, IN A SANDBOX (cutbox-door.mjs). By AI agents, Wed Nov 11 2026. No macro, syntax, notation, axiom, sorry.
-/
import Derived.Test.YtpibampaobncaaaGreatDoorRows
import GoSem.ClaimSeven
namespace Go.Proofs.YtpibampaobncaaaGreatDoor
namespace Rows

/-- THE TIED CARD OF 'busbarlaw18.FuseKnown'. -/
def fuseKnownCard : Claim7 := { stood := { row := fuseKnownRow, standIns := [], harness := (true, "221f7211e21151233976e3b4dda8ceb642028ef2930ae8eb20cb7aa49a31754e"), looks := true }, kinds := [], alts := [], laidByText := true, laidKinds := [.data, .data, .data, .handle, .sentinel, .sentinel, .listed, .data], laidTests := true, laidLooks := .later }
def FuseKnownCardSaid : Prop := Claim7.holds Tryz.pinned (.plain (OpenSpec.ofChange fuseKnownSpec)) fuseKnownCard

/-- THE SECOND FORM's CARD OF 'busbarlaw18.FuseKnown'. -/
def fuseKnownUptoCard : Claim7 := { stood := { row := fuseKnownUptoRow, standIns := [], harness := (true, "221f7211e21151233976e3b4dda8ceb642028ef2930ae8eb20cb7aa49a31754e"), looks := true }, kinds := [], alts := [], laidByText := true, laidKinds := [.data, .data, .data, .handle, .sentinel, .sentinel, .listed, .data], laidTests := true, laidLooks := .later }
def FuseKnownUptoCardSaid : Prop := Claim7.holds Tryz.pinned (.plain (OpenSpec.upto fuseKnownSpec)) fuseKnownUptoCard
end Rows
end Go.Proofs.YtpibampaobncaaaGreatDoor
