/-
  DERIVED. GIVEN WITH THE SEED: THE CARDS: each row of YtdpjbnjlognmeaaGreatDoorRows.lean that lists a variable, with what it lists TIED to the program's text (the seventh form; the later family's looks); each row that meets fmt, with fmt's text TOLD by the authors' own Lean function (tested against real Go, not proved from fmt's source: count such statements apart). THE CARD IS WHAT COUNTS. Prove the row's statement (the work); the ties are given (YtdpjbnjlognmeaaGreatDoorTie.lean); close each card by the builder's one call (the guide's Derived/Test/ToyasCard.lean, 'card_holds'). Laid BY PROGRAM, IN A SANDBOX (cutbox-door.mjs). By AI agents, Wed Nov 11 2026. No macro, syntax, notation, axiom, sorry.
-/
import Derived.Test.YtdpjbnjlognmeaaGreatDoorRows
import GoSem.ClaimSeven
namespace Go.Proofs.YtdpjbnjlognmeaaGreatDoor
namespace Rows

/-- THE TIED CARD OF 'busbarlaw15.LowerTurned'. -/
def lowerTurnedCard : Claim7 := { stood := { row := lowerTurnedRow, standIns := [], harness := (true, "9a29448f65b5bbddbfea3be410746d7fe94a981a5f43312081402c858d16ccf7"), looks := true }, kinds := [], alts := [], laidByText := true, laidKinds := [.data, .data, .data, .data, .sentinel, .sentinel, .listed, .data, .pinned], laidTests := true, laidLooks := .later }
def LowerTurnedCardSaid : Prop := Claim7.holds Tryz.pinned (.plain (OpenSpec.ofChange lowerTurnedSpec)) lowerTurnedCard

/-- THE TIED CARD OF 'busbarlaw15.LowerBack'. -/
def lowerBackCard : Claim7 := { stood := { row := lowerBackRow, standIns := [], harness := (true, "9a29448f65b5bbddbfea3be410746d7fe94a981a5f43312081402c858d16ccf7"), looks := true }, kinds := [], alts := [], laidByText := true, laidKinds := [.data, .data, .data, .data, .sentinel, .sentinel, .listed, .data, .pinned], laidTests := true, laidLooks := .later }
def LowerBackCardSaid : Prop := Claim7.holds Tryz.pinned (.plain (OpenSpec.ofChange lowerBackSpec)) lowerBackCard

/-- THE TIED CARD OF 'busbarlaw15.LowerKnown'. -/
def lowerKnownCard : Claim7 := { stood := { row := lowerKnownRow, standIns := [], harness := (true, "9a29448f65b5bbddbfea3be410746d7fe94a981a5f43312081402c858d16ccf7"), looks := true }, kinds := [], alts := [], laidByText := true, laidKinds := [.data, .data, .data, .data, .sentinel, .sentinel, .listed, .data, .pinned], laidTests := true, laidLooks := .later }
def LowerKnownCardSaid : Prop := Claim7.holds Tryz.pinned (.plain (OpenSpec.ofChange lowerKnownSpec)) lowerKnownCard

/-- THE TIED CARD OF 'busbarlaw15.LowerAgain'. -/
def lowerAgainCard : Claim7 := { stood := { row := lowerAgainRow, standIns := [], harness := (true, "9a29448f65b5bbddbfea3be410746d7fe94a981a5f43312081402c858d16ccf7"), looks := true }, kinds := [], alts := [], laidByText := true, laidKinds := [.data, .data, .data, .data, .sentinel, .sentinel, .listed, .data, .pinned], laidTests := true, laidLooks := .later }
def LowerAgainCardSaid : Prop := Claim7.holds Tryz.pinned (.plain (OpenSpec.ofChange lowerAgainSpec)) lowerAgainCard

/-- THE SECOND FORM's CARD OF 'busbarlaw15.LowerTurned'. -/
def lowerTurnedUptoCard : Claim7 := { stood := { row := lowerTurnedUptoRow, standIns := [], harness := (true, "9a29448f65b5bbddbfea3be410746d7fe94a981a5f43312081402c858d16ccf7"), looks := true }, kinds := [], alts := [], laidByText := true, laidKinds := [.data, .data, .data, .data, .sentinel, .sentinel, .listed, .data, .pinned], laidTests := true, laidLooks := .later }
def LowerTurnedUptoCardSaid : Prop := Claim7.holds Tryz.pinned (.plain (OpenSpec.upto lowerTurnedSpec)) lowerTurnedUptoCard

/-- THE SECOND FORM's CARD OF 'busbarlaw15.LowerBack'. -/
def lowerBackUptoCard : Claim7 := { stood := { row := lowerBackUptoRow, standIns := [], harness := (true, "9a29448f65b5bbddbfea3be410746d7fe94a981a5f43312081402c858d16ccf7"), looks := true }, kinds := [], alts := [], laidByText := true, laidKinds := [.data, .data, .data, .data, .sentinel, .sentinel, .listed, .data, .pinned], laidTests := true, laidLooks := .later }
def LowerBackUptoCardSaid : Prop := Claim7.holds Tryz.pinned (.plain (OpenSpec.upto lowerBackSpec)) lowerBackUptoCard

/-- THE SECOND FORM's CARD OF 'busbarlaw15.LowerKnown'. -/
def lowerKnownUptoCard : Claim7 := { stood := { row := lowerKnownUptoRow, standIns := [], harness := (true, "9a29448f65b5bbddbfea3be410746d7fe94a981a5f43312081402c858d16ccf7"), looks := true }, kinds := [], alts := [], laidByText := true, laidKinds := [.data, .data, .data, .data, .sentinel, .sentinel, .listed, .data, .pinned], laidTests := true, laidLooks := .later }
def LowerKnownUptoCardSaid : Prop := Claim7.holds Tryz.pinned (.plain (OpenSpec.upto lowerKnownSpec)) lowerKnownUptoCard

/-- THE SECOND FORM's CARD OF 'busbarlaw15.LowerAgain'. -/
def lowerAgainUptoCard : Claim7 := { stood := { row := lowerAgainUptoRow, standIns := [], harness := (true, "9a29448f65b5bbddbfea3be410746d7fe94a981a5f43312081402c858d16ccf7"), looks := true }, kinds := [], alts := [], laidByText := true, laidKinds := [.data, .data, .data, .data, .sentinel, .sentinel, .listed, .data, .pinned], laidTests := true, laidLooks := .later }
def LowerAgainUptoCardSaid : Prop := Claim7.holds Tryz.pinned (.plain (OpenSpec.upto lowerAgainSpec)) lowerAgainUptoCard
end Rows
end Go.Proofs.YtdpjbnjlognmeaaGreatDoor
