/-
  DERIVED. GIVEN WITH THE SEED: THE CARDS: each row of YtegjeincncccaaaGreatDoorRows.lean that lists a variable, with what it lists TIED to the program's text (the seventh form; the later family's looks); each row that meets fmt, with fmt's text TOLD by the authors' own Lean function (tested against real Go, not proved from fmt's source: count such statements apart). THE CARD IS WHAT COUNTS. Prove the row's statement (the work); the ties are given (YtegjeincncccaaaGreatDoorTie.lean); close each card by the builder's one call (the guide's Derived/Test/ToyasCard.lean, 'card_holds'). Laid BY PROGRAM, IN A SANDBOX (cutbox-door.mjs). By AI agents, Wed Nov 11 2026. No macro, syntax, notation, axiom, sorry.
-/
import Derived.Test.YtegjeincncccaaaGreatDoorRows
import GoSem.ClaimSeven
namespace Go.Proofs.YtegjeincncccaaaGreatDoor
namespace Rows

/-- THE TIED CARD OF 'busbarlaw17.FoldKnown'. -/
def foldKnownCard : Claim7 := { stood := { row := foldKnownRow, standIns := [], harness := (true, "d3fc366aae3fedd07afbaf80bf7416262bfb9bd3716bf1cdaf0fe94d84dd6c83"), looks := true }, kinds := [], alts := [], laidByText := true, laidKinds := [.data, .data, .data, .sentinel, .sentinel, .listed, .data], laidTests := true, laidLooks := .later }
def FoldKnownCardSaid : Prop := Claim7.holds Tryz.pinned (.plain (OpenSpec.ofChange foldKnownSpec)) foldKnownCard

/-- THE TIED CARD OF 'busbarlaw18.FuseKnown'. -/
def fuseKnownCard : Claim7 := { stood := { row := fuseKnownRow, standIns := [], harness := (true, "d3fc366aae3fedd07afbaf80bf7416262bfb9bd3716bf1cdaf0fe94d84dd6c83"), looks := true }, kinds := [], alts := [], laidByText := true, laidKinds := [.data, .data, .data, .handle, .sentinel, .sentinel, .listed, .data], laidTests := true, laidLooks := .later }
def FuseKnownCardSaid : Prop := Claim7.holds Tryz.pinned (.plain (OpenSpec.ofChange fuseKnownSpec)) fuseKnownCard

/-- THE TIED CARD OF 'busbarlaw15.LowerUnpacks'. -/
def lowerUnpacksCard : Claim7 := { stood := { row := lowerUnpacksRow, standIns := [], harness := (true, "d3fc366aae3fedd07afbaf80bf7416262bfb9bd3716bf1cdaf0fe94d84dd6c83"), looks := true }, kinds := [], alts := [], laidByText := true, laidKinds := [.data, .data, .data, .data, .sentinel, .sentinel, .listed, .data, .pinned], laidTests := true, laidLooks := .later }
def LowerUnpacksCardSaid : Prop := Claim7.holds Tryz.pinned (.plain (OpenSpec.ofChange lowerUnpacksSpec)) lowerUnpacksCard

/-- THE TIED CARD OF 'busbarlaw15.LowerPacks'. -/
def lowerPacksCard : Claim7 := { stood := { row := lowerPacksRow, standIns := [], harness := (true, "d3fc366aae3fedd07afbaf80bf7416262bfb9bd3716bf1cdaf0fe94d84dd6c83"), looks := true }, kinds := [], alts := [], laidByText := true, laidKinds := [.data, .data, .data, .data, .sentinel, .sentinel, .listed, .data, .pinned], laidTests := true, laidLooks := .later }
def LowerPacksCardSaid : Prop := Claim7.holds Tryz.pinned (.plain (OpenSpec.ofChange lowerPacksSpec)) lowerPacksCard

/-- THE TIED CARD OF 'busbarlaw15.LowerTurned'. -/
def lowerTurnedCard : Claim7 := { stood := { row := lowerTurnedRow, standIns := [], harness := (true, "d3fc366aae3fedd07afbaf80bf7416262bfb9bd3716bf1cdaf0fe94d84dd6c83"), looks := true }, kinds := [], alts := [], laidByText := true, laidKinds := [.data, .data, .data, .data, .sentinel, .sentinel, .listed, .data, .pinned], laidTests := true, laidLooks := .later }
def LowerTurnedCardSaid : Prop := Claim7.holds Tryz.pinned (.plain (OpenSpec.ofChange lowerTurnedSpec)) lowerTurnedCard

/-- THE TIED CARD OF 'busbarlaw15.LowerBack'. -/
def lowerBackCard : Claim7 := { stood := { row := lowerBackRow, standIns := [], harness := (true, "d3fc366aae3fedd07afbaf80bf7416262bfb9bd3716bf1cdaf0fe94d84dd6c83"), looks := true }, kinds := [], alts := [], laidByText := true, laidKinds := [.data, .data, .data, .data, .sentinel, .sentinel, .listed, .data, .pinned], laidTests := true, laidLooks := .later }
def LowerBackCardSaid : Prop := Claim7.holds Tryz.pinned (.plain (OpenSpec.ofChange lowerBackSpec)) lowerBackCard

/-- THE TIED CARD OF 'busbarlaw15.LowerKnown'. -/
def lowerKnownCard : Claim7 := { stood := { row := lowerKnownRow, standIns := [], harness := (true, "d3fc366aae3fedd07afbaf80bf7416262bfb9bd3716bf1cdaf0fe94d84dd6c83"), looks := true }, kinds := [], alts := [], laidByText := true, laidKinds := [.data, .data, .data, .data, .sentinel, .sentinel, .listed, .data, .pinned], laidTests := true, laidLooks := .later }
def LowerKnownCardSaid : Prop := Claim7.holds Tryz.pinned (.plain (OpenSpec.ofChange lowerKnownSpec)) lowerKnownCard

/-- THE TIED CARD OF 'busbarlaw15.LowerAgain'. -/
def lowerAgainCard : Claim7 := { stood := { row := lowerAgainRow, standIns := [], harness := (true, "d3fc366aae3fedd07afbaf80bf7416262bfb9bd3716bf1cdaf0fe94d84dd6c83"), looks := true }, kinds := [], alts := [], laidByText := true, laidKinds := [.data, .data, .data, .data, .sentinel, .sentinel, .listed, .data, .pinned], laidTests := true, laidLooks := .later }
def LowerAgainCardSaid : Prop := Claim7.holds Tryz.pinned (.plain (OpenSpec.ofChange lowerAgainSpec)) lowerAgainCard

/-- THE TIED CARD OF 'busbarlaw15.LowerRight'. -/
def lowerRightCard : Claim7 := { stood := { row := lowerRightRow, standIns := [], harness := (true, "d3fc366aae3fedd07afbaf80bf7416262bfb9bd3716bf1cdaf0fe94d84dd6c83"), looks := true }, kinds := [], alts := [], laidByText := true, laidKinds := [.data, .data, .data, .data, .handle, .sentinel, .sentinel, .listed, .data, .pinned], laidTests := true, laidLooks := .later }
def LowerRightCardSaid : Prop := Claim7.holds Tryz.pinned (.plain (OpenSpec.ofChange lowerRightSpec)) lowerRightCard

/-- THE SECOND FORM's CARD OF 'busbarlaw17.FoldKnown'. -/
def foldKnownUptoCard : Claim7 := { stood := { row := foldKnownUptoRow, standIns := [], harness := (true, "d3fc366aae3fedd07afbaf80bf7416262bfb9bd3716bf1cdaf0fe94d84dd6c83"), looks := true }, kinds := [], alts := [], laidByText := true, laidKinds := [.data, .data, .data, .sentinel, .sentinel, .listed, .data], laidTests := true, laidLooks := .later }
def FoldKnownUptoCardSaid : Prop := Claim7.holds Tryz.pinned (.plain (OpenSpec.upto foldKnownSpec)) foldKnownUptoCard

/-- THE SECOND FORM's CARD OF 'busbarlaw18.FuseKnown'. -/
def fuseKnownUptoCard : Claim7 := { stood := { row := fuseKnownUptoRow, standIns := [], harness := (true, "d3fc366aae3fedd07afbaf80bf7416262bfb9bd3716bf1cdaf0fe94d84dd6c83"), looks := true }, kinds := [], alts := [], laidByText := true, laidKinds := [.data, .data, .data, .handle, .sentinel, .sentinel, .listed, .data], laidTests := true, laidLooks := .later }
def FuseKnownUptoCardSaid : Prop := Claim7.holds Tryz.pinned (.plain (OpenSpec.upto fuseKnownSpec)) fuseKnownUptoCard

/-- THE SECOND FORM's CARD OF 'busbarlaw15.LowerUnpacks'. -/
def lowerUnpacksUptoCard : Claim7 := { stood := { row := lowerUnpacksUptoRow, standIns := [], harness := (true, "d3fc366aae3fedd07afbaf80bf7416262bfb9bd3716bf1cdaf0fe94d84dd6c83"), looks := true }, kinds := [], alts := [], laidByText := true, laidKinds := [.data, .data, .data, .data, .sentinel, .sentinel, .listed, .data, .pinned], laidTests := true, laidLooks := .later }
def LowerUnpacksUptoCardSaid : Prop := Claim7.holds Tryz.pinned (.plain (OpenSpec.upto lowerUnpacksSpec)) lowerUnpacksUptoCard

/-- THE SECOND FORM's CARD OF 'busbarlaw15.LowerPacks'. -/
def lowerPacksUptoCard : Claim7 := { stood := { row := lowerPacksUptoRow, standIns := [], harness := (true, "d3fc366aae3fedd07afbaf80bf7416262bfb9bd3716bf1cdaf0fe94d84dd6c83"), looks := true }, kinds := [], alts := [], laidByText := true, laidKinds := [.data, .data, .data, .data, .sentinel, .sentinel, .listed, .data, .pinned], laidTests := true, laidLooks := .later }
def LowerPacksUptoCardSaid : Prop := Claim7.holds Tryz.pinned (.plain (OpenSpec.upto lowerPacksSpec)) lowerPacksUptoCard

/-- THE SECOND FORM's CARD OF 'busbarlaw15.LowerTurned'. -/
def lowerTurnedUptoCard : Claim7 := { stood := { row := lowerTurnedUptoRow, standIns := [], harness := (true, "d3fc366aae3fedd07afbaf80bf7416262bfb9bd3716bf1cdaf0fe94d84dd6c83"), looks := true }, kinds := [], alts := [], laidByText := true, laidKinds := [.data, .data, .data, .data, .sentinel, .sentinel, .listed, .data, .pinned], laidTests := true, laidLooks := .later }
def LowerTurnedUptoCardSaid : Prop := Claim7.holds Tryz.pinned (.plain (OpenSpec.upto lowerTurnedSpec)) lowerTurnedUptoCard

/-- THE SECOND FORM's CARD OF 'busbarlaw15.LowerBack'. -/
def lowerBackUptoCard : Claim7 := { stood := { row := lowerBackUptoRow, standIns := [], harness := (true, "d3fc366aae3fedd07afbaf80bf7416262bfb9bd3716bf1cdaf0fe94d84dd6c83"), looks := true }, kinds := [], alts := [], laidByText := true, laidKinds := [.data, .data, .data, .data, .sentinel, .sentinel, .listed, .data, .pinned], laidTests := true, laidLooks := .later }
def LowerBackUptoCardSaid : Prop := Claim7.holds Tryz.pinned (.plain (OpenSpec.upto lowerBackSpec)) lowerBackUptoCard

/-- THE SECOND FORM's CARD OF 'busbarlaw15.LowerKnown'. -/
def lowerKnownUptoCard : Claim7 := { stood := { row := lowerKnownUptoRow, standIns := [], harness := (true, "d3fc366aae3fedd07afbaf80bf7416262bfb9bd3716bf1cdaf0fe94d84dd6c83"), looks := true }, kinds := [], alts := [], laidByText := true, laidKinds := [.data, .data, .data, .data, .sentinel, .sentinel, .listed, .data, .pinned], laidTests := true, laidLooks := .later }
def LowerKnownUptoCardSaid : Prop := Claim7.holds Tryz.pinned (.plain (OpenSpec.upto lowerKnownSpec)) lowerKnownUptoCard

/-- THE SECOND FORM's CARD OF 'busbarlaw15.LowerAgain'. -/
def lowerAgainUptoCard : Claim7 := { stood := { row := lowerAgainUptoRow, standIns := [], harness := (true, "d3fc366aae3fedd07afbaf80bf7416262bfb9bd3716bf1cdaf0fe94d84dd6c83"), looks := true }, kinds := [], alts := [], laidByText := true, laidKinds := [.data, .data, .data, .data, .sentinel, .sentinel, .listed, .data, .pinned], laidTests := true, laidLooks := .later }
def LowerAgainUptoCardSaid : Prop := Claim7.holds Tryz.pinned (.plain (OpenSpec.upto lowerAgainSpec)) lowerAgainUptoCard

/-- THE SECOND FORM's CARD OF 'busbarlaw15.LowerRight'. -/
def lowerRightUptoCard : Claim7 := { stood := { row := lowerRightUptoRow, standIns := [], harness := (true, "d3fc366aae3fedd07afbaf80bf7416262bfb9bd3716bf1cdaf0fe94d84dd6c83"), looks := true }, kinds := [], alts := [], laidByText := true, laidKinds := [.data, .data, .data, .data, .handle, .sentinel, .sentinel, .listed, .data, .pinned], laidTests := true, laidLooks := .later }
def LowerRightUptoCardSaid : Prop := Claim7.holds Tryz.pinned (.plain (OpenSpec.upto lowerRightSpec)) lowerRightUptoCard
end Rows
end Go.Proofs.YtegjeincncccaaaGreatDoor
