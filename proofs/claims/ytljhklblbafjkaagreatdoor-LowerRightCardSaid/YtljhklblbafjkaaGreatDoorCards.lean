/-
  DERIVED. GIVEN WITH THE SEED: THE CARDS: each row of YtljhklblbafjkaaGreatDoorRows.lean that lists a variable, with what it lists TIED to the program's text (the seventh form; the later family's looks); each row that meets fmt, with fmt's text TOLD by the authors' own Lean function (tested against real Go, not proved from fmt's source: count such statements apart). THE CARD IS WHAT COUNTS. Prove the row's statement (the work); the ties are given (YtljhklblbafjkaaGreatDoorTie.lean); close each card by the builder's one call (the guide's Derived/Test/ToyasCard.lean, 'card_holds'). Laid BY PROGRAM, IN A SANDBOX (cutbox-door.mjs). By AI agents, Wed Nov 11 2026. No macro, syntax, notation, axiom, sorry.
-/
import Derived.Test.YtljhklblbafjkaaGreatDoorRows
import GoSem.ClaimSeven
namespace Go.Proofs.YtljhklblbafjkaaGreatDoor
namespace Rows

/-- THE TIED CARD OF 'busbarlaw15.LowerUnpacks'. -/
def lowerUnpacksCard : Claim7 := { stood := { row := lowerUnpacksRow, standIns := [], harness := (true, "247f133c04d05e64fe3633b140803e713b5035cb2dcd616b525f7f91a54f4593"), looks := true }, kinds := [], alts := [], laidByText := true, laidKinds := [.data, .data, .data, .data, .sentinel, .sentinel, .listed, .data, .pinned], laidTests := true, laidLooks := .later }
def LowerUnpacksCardSaid : Prop := Claim7.holds Tryz.pinned (.plain (OpenSpec.ofChange lowerUnpacksSpec)) lowerUnpacksCard

/-- THE TIED CARD OF 'busbarlaw15.LowerPacks'. -/
def lowerPacksCard : Claim7 := { stood := { row := lowerPacksRow, standIns := [], harness := (true, "247f133c04d05e64fe3633b140803e713b5035cb2dcd616b525f7f91a54f4593"), looks := true }, kinds := [], alts := [], laidByText := true, laidKinds := [.data, .data, .data, .data, .sentinel, .sentinel, .listed, .data, .pinned], laidTests := true, laidLooks := .later }
def LowerPacksCardSaid : Prop := Claim7.holds Tryz.pinned (.plain (OpenSpec.ofChange lowerPacksSpec)) lowerPacksCard

/-- THE TIED CARD OF 'busbarlaw15.LowerRight'. -/
def lowerRightCard : Claim7 := { stood := { row := lowerRightRow, standIns := [], harness := (true, "247f133c04d05e64fe3633b140803e713b5035cb2dcd616b525f7f91a54f4593"), looks := true }, kinds := [], alts := [], laidByText := true, laidKinds := [.data, .data, .data, .data, .handle, .sentinel, .sentinel, .listed, .data, .pinned], laidTests := true, laidLooks := .later }
def LowerRightCardSaid : Prop := Claim7.holds Tryz.pinned (.plain (OpenSpec.ofChange lowerRightSpec)) lowerRightCard

/-- THE SECOND FORM's CARD OF 'busbarlaw15.LowerUnpacks'. -/
def lowerUnpacksUptoCard : Claim7 := { stood := { row := lowerUnpacksUptoRow, standIns := [], harness := (true, "247f133c04d05e64fe3633b140803e713b5035cb2dcd616b525f7f91a54f4593"), looks := true }, kinds := [], alts := [], laidByText := true, laidKinds := [.data, .data, .data, .data, .sentinel, .sentinel, .listed, .data, .pinned], laidTests := true, laidLooks := .later }
def LowerUnpacksUptoCardSaid : Prop := Claim7.holds Tryz.pinned (.plain (OpenSpec.upto lowerUnpacksSpec)) lowerUnpacksUptoCard

/-- THE SECOND FORM's CARD OF 'busbarlaw15.LowerPacks'. -/
def lowerPacksUptoCard : Claim7 := { stood := { row := lowerPacksUptoRow, standIns := [], harness := (true, "247f133c04d05e64fe3633b140803e713b5035cb2dcd616b525f7f91a54f4593"), looks := true }, kinds := [], alts := [], laidByText := true, laidKinds := [.data, .data, .data, .data, .sentinel, .sentinel, .listed, .data, .pinned], laidTests := true, laidLooks := .later }
def LowerPacksUptoCardSaid : Prop := Claim7.holds Tryz.pinned (.plain (OpenSpec.upto lowerPacksSpec)) lowerPacksUptoCard

/-- THE SECOND FORM's CARD OF 'busbarlaw15.LowerRight'. -/
def lowerRightUptoCard : Claim7 := { stood := { row := lowerRightUptoRow, standIns := [], harness := (true, "247f133c04d05e64fe3633b140803e713b5035cb2dcd616b525f7f91a54f4593"), looks := true }, kinds := [], alts := [], laidByText := true, laidKinds := [.data, .data, .data, .data, .handle, .sentinel, .sentinel, .listed, .data, .pinned], laidTests := true, laidLooks := .later }
def LowerRightUptoCardSaid : Prop := Claim7.holds Tryz.pinned (.plain (OpenSpec.upto lowerRightSpec)) lowerRightUptoCard
end Rows
end Go.Proofs.YtljhklblbafjkaaGreatDoor
