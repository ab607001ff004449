/-
  DERIVED. GIVEN WITH THE SEED: THE CARDS: each row of YtmpeipdeablkdaaGreatDoorRows.lean that lists a variable, with what it lists TIED to the program's text (the seventh form; the later family's looks); each row that meets fmt, with fmt's text TOLD by the authors' own Lean function (tested against real Go, not proved from fmt's source: count such statements apart). THE CARD IS WHAT COUNTS. Prove the row's statement (the work); the ties are given (YtmpeipdeablkdaaGreatDoorTie.lean); close each card by the builder's one call (the guide's Derived/Test/ToyasCard.lean, 'card_holds'). Laid BY PROGRAM, IN A SANDBOX (cutbox-door.mjs). By AI agents, Wed Nov 11 2026. No macro, syntax, notation, axiom, sorry.
-/
import Derived.Test.YtmpeipdeablkdaaGreatDoorRows
import GoSem.ClaimSeven
namespace Go.Proofs.YtmpeipdeablkdaaGreatDoor
namespace Rows

/-- THE TIED CARD OF 'busbarlaw17.FoldKnown'. -/
def foldKnownCard : Claim7 := { stood := { row := foldKnownRow, standIns := [], harness := (true, "53bd0ec4d9290b36181b8dd5eba082ca4c19ea8a71acd2242eebc1c9065db8fe"), looks := true }, kinds := [], alts := [], laidByText := true, laidKinds := [.data, .data, .data, .sentinel, .sentinel, .listed, .data], laidTests := true, laidLooks := .later }
def FoldKnownCardSaid : Prop := Claim7.holds Tryz.pinned (.plain (OpenSpec.ofChange foldKnownSpec)) foldKnownCard

/-- THE TIED CARD OF 'busbarlaw14.VmKnown'. -/
def vmKnownCard : Claim7 := { stood := { row := vmKnownRow, standIns := [], harness := (true, "53bd0ec4d9290b36181b8dd5eba082ca4c19ea8a71acd2242eebc1c9065db8fe"), looks := true }, kinds := [], alts := [], laidByText := true, laidKinds := [.data, .data, .data, .handle, .sentinel, .sentinel, .listed, .data], laidTests := true, laidLooks := .later }
def VmKnownCardSaid : Prop := Claim7.holds Tryz.pinned (.plain (OpenSpec.ofChange vmKnownSpec)) vmKnownCard

/-- THE TIED CARD OF 'busbarlaw18.FuseRuns'. -/
def fuseRunsCard : Claim7 := { stood := { row := fuseRunsRow, standIns := [], harness := (true, "53bd0ec4d9290b36181b8dd5eba082ca4c19ea8a71acd2242eebc1c9065db8fe"), looks := true }, kinds := [], alts := [], laidByText := true, laidKinds := [.data, .data, .data, .handle, .sentinel, .sentinel, .listed, .data], laidTests := true, laidLooks := .later }
def FuseRunsCardSaid : Prop := Claim7.holds Tryz.pinned (.plain (OpenSpec.ofChange fuseRunsSpec)) fuseRunsCard

/-- THE TIED CARD OF 'busbarlaw16.LiveKnown'. -/
def liveKnownCard : Claim7 := { stood := { row := liveKnownRow, standIns := [], harness := (true, "53bd0ec4d9290b36181b8dd5eba082ca4c19ea8a71acd2242eebc1c9065db8fe"), looks := true }, kinds := [], alts := [], laidByText := true, laidKinds := [.data, .data, .data, .handle, .sentinel, .sentinel, .listed, .data], laidTests := true, laidLooks := .later }
def LiveKnownCardSaid : Prop := Claim7.holds Tryz.pinned (.plain (OpenSpec.ofChange liveKnownSpec)) liveKnownCard

/-- THE SECOND FORM's CARD OF 'busbarlaw17.FoldKnown'. -/
def foldKnownUptoCard : Claim7 := { stood := { row := foldKnownUptoRow, standIns := [], harness := (true, "53bd0ec4d9290b36181b8dd5eba082ca4c19ea8a71acd2242eebc1c9065db8fe"), looks := true }, kinds := [], alts := [], laidByText := true, laidKinds := [.data, .data, .data, .sentinel, .sentinel, .listed, .data], laidTests := true, laidLooks := .later }
def FoldKnownUptoCardSaid : Prop := Claim7.holds Tryz.pinned (.plain (OpenSpec.upto foldKnownSpec)) foldKnownUptoCard

/-- THE SECOND FORM's CARD OF 'busbarlaw14.VmKnown'. -/
def vmKnownUptoCard : Claim7 := { stood := { row := vmKnownUptoRow, standIns := [], harness := (true, "53bd0ec4d9290b36181b8dd5eba082ca4c19ea8a71acd2242eebc1c9065db8fe"), looks := true }, kinds := [], alts := [], laidByText := true, laidKinds := [.data, .data, .data, .handle, .sentinel, .sentinel, .listed, .data], laidTests := true, laidLooks := .later }
def VmKnownUptoCardSaid : Prop := Claim7.holds Tryz.pinned (.plain (OpenSpec.upto vmKnownSpec)) vmKnownUptoCard

/-- THE SECOND FORM's CARD OF 'busbarlaw18.FuseRuns'. -/
def fuseRunsUptoCard : Claim7 := { stood := { row := fuseRunsUptoRow, standIns := [], harness := (true, "53bd0ec4d9290b36181b8dd5eba082ca4c19ea8a71acd2242eebc1c9065db8fe"), looks := true }, kinds := [], alts := [], laidByText := true, laidKinds := [.data, .data, .data, .handle, .sentinel, .sentinel, .listed, .data], laidTests := true, laidLooks := .later }
def FuseRunsUptoCardSaid : Prop := Claim7.holds Tryz.pinned (.plain (OpenSpec.upto fuseRunsSpec)) fuseRunsUptoCard

/-- THE SECOND FORM's CARD OF 'busbarlaw16.LiveKnown'. -/
def liveKnownUptoCard : Claim7 := { stood := { row := liveKnownUptoRow, standIns := [], harness := (true, "53bd0ec4d9290b36181b8dd5eba082ca4c19ea8a71acd2242eebc1c9065db8fe"), looks := true }, kinds := [], alts := [], laidByText := true, laidKinds := [.data, .data, .data, .handle, .sentinel, .sentinel, .listed, .data], laidTests := true, laidLooks := .later }
def LiveKnownUptoCardSaid : Prop := Claim7.holds Tryz.pinned (.plain (OpenSpec.upto liveKnownSpec)) liveKnownUptoCard
end Rows
end Go.Proofs.YtmpeipdeablkdaaGreatDoor
