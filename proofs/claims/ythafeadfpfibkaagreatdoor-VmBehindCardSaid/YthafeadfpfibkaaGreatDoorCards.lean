/-
  DERIVED. GIVEN WITH THE SEED: THE CARDS: each row of YthafeadfpfibkaaGreatDoorRows.lean that lists a variable, with what it lists TIED to the program's text (the seventh form; the later family's looks); each row that meets fmt, with fmt's text TOLD by the authors' own Lean function (tested against real Go, not proved from fmt's source: count such statements apart). THE CARD IS WHAT COUNTS. Prove the row's statement (the work); the ties are given (YthafeadfpfibkaaGreatDoorTie.lean); close each card by the builder's one call (the guide's Derived/Test/ToyasCard.lean, 'card_holds'). Laid BY PROGRAM, IN A SANDBOX (cutbox-door.mjs). By AI agents, Wed Nov 11 2026. No macro, syntax, notation, axiom, sorry.
-/
import Derived.Test.YthafeadfpfibkaaGreatDoorRows
import GoSem.ClaimSeven
namespace Go.Proofs.YthafeadfpfibkaaGreatDoor
namespace Rows

/-- THE TIED CARD OF 'busbarlaw14.VmBehind'. -/
def vmBehindCard : Claim7 := { stood := { row := vmBehindRow, standIns := [], harness := (true, "a5e7f25d4bd569abacabae724908aa2faff54cbd563e7a204cf657bcceb52167"), looks := true }, kinds := [], alts := [], laidByText := true, laidKinds := [.data, .data, .data, .sentinel, .sentinel, .listed, .data], laidTests := true, laidLooks := .later }
def VmBehindCardSaid : Prop := Claim7.holds Tryz.pinned (.plain (OpenSpec.ofChange vmBehindSpec)) vmBehindCard

/-- THE TIED CARD OF 'busbarlaw14.VmNamed'. -/
def vmNamedCard : Claim7 := { stood := { row := vmNamedRow, standIns := [], harness := (true, "a5e7f25d4bd569abacabae724908aa2faff54cbd563e7a204cf657bcceb52167"), looks := true }, kinds := [], alts := [], laidByText := true, laidKinds := [.data, .data, .data, .sentinel, .sentinel, .listed, .data], laidTests := true, laidLooks := .later }
def VmNamedCardSaid : Prop := Claim7.holds Tryz.pinned (.plain (OpenSpec.ofChange vmNamedSpec)) vmNamedCard

/-- THE TIED CARD OF 'busbarlaw14.VmSkips'. -/
def vmSkipsCard : Claim7 := { stood := { row := vmSkipsRow, standIns := [], harness := (true, "a5e7f25d4bd569abacabae724908aa2faff54cbd563e7a204cf657bcceb52167"), looks := true }, kinds := [], alts := [], laidByText := true, laidKinds := [.data, .data, .data, .sentinel, .sentinel, .listed, .data], laidTests := true, laidLooks := .later }
def VmSkipsCardSaid : Prop := Claim7.holds Tryz.pinned (.plain (OpenSpec.ofChange vmSkipsSpec)) vmSkipsCard

/-- THE TIED CARD OF 'busbarlaw14.VmBytes'. -/
def vmBytesCard : Claim7 := { stood := { row := vmBytesRow, standIns := [], harness := (true, "a5e7f25d4bd569abacabae724908aa2faff54cbd563e7a204cf657bcceb52167"), looks := true }, kinds := [], alts := [], laidByText := true, laidKinds := [.data, .data, .data, .sentinel, .sentinel, .listed, .data], laidTests := true, laidLooks := .later }
def VmBytesCardSaid : Prop := Claim7.holds Tryz.pinned (.plain (OpenSpec.ofChange vmBytesSpec)) vmBytesCard

/-- THE TIED CARD OF 'busbarlaw14.VmEnds'. -/
def vmEndsCard : Claim7 := { stood := { row := vmEndsRow, standIns := [], harness := (true, "a5e7f25d4bd569abacabae724908aa2faff54cbd563e7a204cf657bcceb52167"), looks := true }, kinds := [], alts := [], laidByText := true, laidKinds := [.data, .data, .data, .sentinel, .sentinel, .listed, .data], laidTests := true, laidLooks := .later }
def VmEndsCardSaid : Prop := Claim7.holds Tryz.pinned (.plain (OpenSpec.ofChange vmEndsSpec)) vmEndsCard

/-- THE TIED CARD OF 'busbarlaw13.VerifyProgram'. -/
def verifyProgramCard : Claim7 := { stood := { row := verifyProgramRow, standIns := [], harness := (true, "a5e7f25d4bd569abacabae724908aa2faff54cbd563e7a204cf657bcceb52167"), looks := true }, kinds := [], alts := [], laidByText := true, laidKinds := [.data, .data, .data, .handle, .sentinel, .sentinel, .listed, .data], laidTests := true, laidLooks := .later }
def VerifyProgramCardSaid : Prop := Claim7.holds Tryz.pinned (.plain (OpenSpec.ofChange verifyProgramSpec)) verifyProgramCard

/-- THE TIED CARD OF 'busbarlaw13.VerifyMore'. -/
def verifyMoreCard : Claim7 := { stood := { row := verifyMoreRow, standIns := [], harness := (true, "a5e7f25d4bd569abacabae724908aa2faff54cbd563e7a204cf657bcceb52167"), looks := true }, kinds := [], alts := [], laidByText := true, laidKinds := [.data, .data, .data, .handle, .sentinel, .sentinel, .listed, .data], laidTests := true, laidLooks := .later }
def VerifyMoreCardSaid : Prop := Claim7.holds Tryz.pinned (.plain (OpenSpec.ofChange verifyMoreSpec)) verifyMoreCard

/-- THE TIED CARD OF 'busbarlaw13.VerifyJoined'. -/
def verifyJoinedCard : Claim7 := { stood := { row := verifyJoinedRow, standIns := [], harness := (true, "a5e7f25d4bd569abacabae724908aa2faff54cbd563e7a204cf657bcceb52167"), looks := true }, kinds := [], alts := [], laidByText := true, laidKinds := [.data, .data, .data, .handle, .sentinel, .sentinel, .listed, .data], laidTests := true, laidLooks := .later }
def VerifyJoinedCardSaid : Prop := Claim7.holds Tryz.pinned (.plain (OpenSpec.ofChange verifyJoinedSpec)) verifyJoinedCard

/-- THE TIED CARD OF 'busbarlaw13.VerifyNamed'. -/
def verifyNamedCard : Claim7 := { stood := { row := verifyNamedRow, standIns := [], harness := (true, "a5e7f25d4bd569abacabae724908aa2faff54cbd563e7a204cf657bcceb52167"), looks := true }, kinds := [], alts := [], laidByText := true, laidKinds := [.data, .data, .data, .handle, .sentinel, .sentinel, .listed, .data], laidTests := true, laidLooks := .later }
def VerifyNamedCardSaid : Prop := Claim7.holds Tryz.pinned (.plain (OpenSpec.ofChange verifyNamedSpec)) verifyNamedCard

/-- THE TIED CARD OF 'busbarlaw13.VerifyPassed'. -/
def verifyPassedCard : Claim7 := { stood := { row := verifyPassedRow, standIns := [], harness := (true, "a5e7f25d4bd569abacabae724908aa2faff54cbd563e7a204cf657bcceb52167"), looks := true }, kinds := [], alts := [], laidByText := true, laidKinds := [.data, .data, .data, .handle, .sentinel, .sentinel, .listed, .data], laidTests := true, laidLooks := .later }
def VerifyPassedCardSaid : Prop := Claim7.holds Tryz.pinned (.plain (OpenSpec.ofChange verifyPassedSpec)) verifyPassedCard

/-- THE TIED CARD OF 'busbarlaw13.VerifyKnown'. -/
def verifyKnownCard : Claim7 := { stood := { row := verifyKnownRow, standIns := [], harness := (true, "a5e7f25d4bd569abacabae724908aa2faff54cbd563e7a204cf657bcceb52167"), looks := true }, kinds := [], alts := [], laidByText := true, laidKinds := [.data, .data, .data, .handle, .sentinel, .sentinel, .listed, .data], laidTests := true, laidLooks := .later }
def VerifyKnownCardSaid : Prop := Claim7.holds Tryz.pinned (.plain (OpenSpec.ofChange verifyKnownSpec)) verifyKnownCard

/-- THE TIED CARD OF 'busbarlaw14.VmRuns'. -/
def vmRunsCard : Claim7 := { stood := { row := vmRunsRow, standIns := [], harness := (true, "a5e7f25d4bd569abacabae724908aa2faff54cbd563e7a204cf657bcceb52167"), looks := true }, kinds := [], alts := [], laidByText := true, laidKinds := [.data, .data, .data, .handle, .sentinel, .sentinel, .listed, .data], laidTests := true, laidLooks := .later }
def VmRunsCardSaid : Prop := Claim7.holds Tryz.pinned (.plain (OpenSpec.ofChange vmRunsSpec)) vmRunsCard

/-- THE SECOND FORM's CARD OF 'busbarlaw14.VmBehind'. -/
def vmBehindUptoCard : Claim7 := { stood := { row := vmBehindUptoRow, standIns := [], harness := (true, "a5e7f25d4bd569abacabae724908aa2faff54cbd563e7a204cf657bcceb52167"), looks := true }, kinds := [], alts := [], laidByText := true, laidKinds := [.data, .data, .data, .sentinel, .sentinel, .listed, .data], laidTests := true, laidLooks := .later }
def VmBehindUptoCardSaid : Prop := Claim7.holds Tryz.pinned (.plain (OpenSpec.upto vmBehindSpec)) vmBehindUptoCard

/-- THE SECOND FORM's CARD OF 'busbarlaw14.VmNamed'. -/
def vmNamedUptoCard : Claim7 := { stood := { row := vmNamedUptoRow, standIns := [], harness := (true, "a5e7f25d4bd569abacabae724908aa2faff54cbd563e7a204cf657bcceb52167"), looks := true }, kinds := [], alts := [], laidByText := true, laidKinds := [.data, .data, .data, .sentinel, .sentinel, .listed, .data], laidTests := true, laidLooks := .later }
def VmNamedUptoCardSaid : Prop := Claim7.holds Tryz.pinned (.plain (OpenSpec.upto vmNamedSpec)) vmNamedUptoCard

/-- THE SECOND FORM's CARD OF 'busbarlaw14.VmSkips'. -/
def vmSkipsUptoCard : Claim7 := { stood := { row := vmSkipsUptoRow, standIns := [], harness := (true, "a5e7f25d4bd569abacabae724908aa2faff54cbd563e7a204cf657bcceb52167"), looks := true }, kinds := [], alts := [], laidByText := true, laidKinds := [.data, .data, .data, .sentinel, .sentinel, .listed, .data], laidTests := true, laidLooks := .later }
def VmSkipsUptoCardSaid : Prop := Claim7.holds Tryz.pinned (.plain (OpenSpec.upto vmSkipsSpec)) vmSkipsUptoCard

/-- THE SECOND FORM's CARD OF 'busbarlaw14.VmBytes'. -/
def vmBytesUptoCard : Claim7 := { stood := { row := vmBytesUptoRow, standIns := [], harness := (true, "a5e7f25d4bd569abacabae724908aa2faff54cbd563e7a204cf657bcceb52167"), looks := true }, kinds := [], alts := [], laidByText := true, laidKinds := [.data, .data, .data, .sentinel, .sentinel, .listed, .data], laidTests := true, laidLooks := .later }
def VmBytesUptoCardSaid : Prop := Claim7.holds Tryz.pinned (.plain (OpenSpec.upto vmBytesSpec)) vmBytesUptoCard

/-- THE SECOND FORM's CARD OF 'busbarlaw14.VmEnds'. -/
def vmEndsUptoCard : Claim7 := { stood := { row := vmEndsUptoRow, standIns := [], harness := (true, "a5e7f25d4bd569abacabae724908aa2faff54cbd563e7a204cf657bcceb52167"), looks := true }, kinds := [], alts := [], laidByText := true, laidKinds := [.data, .data, .data, .sentinel, .sentinel, .listed, .data], laidTests := true, laidLooks := .later }
def VmEndsUptoCardSaid : Prop := Claim7.holds Tryz.pinned (.plain (OpenSpec.upto vmEndsSpec)) vmEndsUptoCard

/-- THE SECOND FORM's CARD OF 'busbarlaw13.VerifyProgram'. -/
def verifyProgramUptoCard : Claim7 := { stood := { row := verifyProgramUptoRow, standIns := [], harness := (true, "a5e7f25d4bd569abacabae724908aa2faff54cbd563e7a204cf657bcceb52167"), looks := true }, kinds := [], alts := [], laidByText := true, laidKinds := [.data, .data, .data, .handle, .sentinel, .sentinel, .listed, .data], laidTests := true, laidLooks := .later }
def VerifyProgramUptoCardSaid : Prop := Claim7.holds Tryz.pinned (.plain (OpenSpec.upto verifyProgramSpec)) verifyProgramUptoCard

/-- THE SECOND FORM's CARD OF 'busbarlaw13.VerifyMore'. -/
def verifyMoreUptoCard : Claim7 := { stood := { row := verifyMoreUptoRow, standIns := [], harness := (true, "a5e7f25d4bd569abacabae724908aa2faff54cbd563e7a204cf657bcceb52167"), looks := true }, kinds := [], alts := [], laidByText := true, laidKinds := [.data, .data, .data, .handle, .sentinel, .sentinel, .listed, .data], laidTests := true, laidLooks := .later }
def VerifyMoreUptoCardSaid : Prop := Claim7.holds Tryz.pinned (.plain (OpenSpec.upto verifyMoreSpec)) verifyMoreUptoCard

/-- THE SECOND FORM's CARD OF 'busbarlaw13.VerifyJoined'. -/
def verifyJoinedUptoCard : Claim7 := { stood := { row := verifyJoinedUptoRow, standIns := [], harness := (true, "a5e7f25d4bd569abacabae724908aa2faff54cbd563e7a204cf657bcceb52167"), looks := true }, kinds := [], alts := [], laidByText := true, laidKinds := [.data, .data, .data, .handle, .sentinel, .sentinel, .listed, .data], laidTests := true, laidLooks := .later }
def VerifyJoinedUptoCardSaid : Prop := Claim7.holds Tryz.pinned (.plain (OpenSpec.upto verifyJoinedSpec)) verifyJoinedUptoCard

/-- THE SECOND FORM's CARD OF 'busbarlaw13.VerifyNamed'. -/
def verifyNamedUptoCard : Claim7 := { stood := { row := verifyNamedUptoRow, standIns := [], harness := (true, "a5e7f25d4bd569abacabae724908aa2faff54cbd563e7a204cf657bcceb52167"), looks := true }, kinds := [], alts := [], laidByText := true, laidKinds := [.data, .data, .data, .handle, .sentinel, .sentinel, .listed, .data], laidTests := true, laidLooks := .later }
def VerifyNamedUptoCardSaid : Prop := Claim7.holds Tryz.pinned (.plain (OpenSpec.upto verifyNamedSpec)) verifyNamedUptoCard

/-- THE SECOND FORM's CARD OF 'busbarlaw13.VerifyPassed'. -/
def verifyPassedUptoCard : Claim7 := { stood := { row := verifyPassedUptoRow, standIns := [], harness := (true, "a5e7f25d4bd569abacabae724908aa2faff54cbd563e7a204cf657bcceb52167"), looks := true }, kinds := [], alts := [], laidByText := true, laidKinds := [.data, .data, .data, .handle, .sentinel, .sentinel, .listed, .data], laidTests := true, laidLooks := .later }
def VerifyPassedUptoCardSaid : Prop := Claim7.holds Tryz.pinned (.plain (OpenSpec.upto verifyPassedSpec)) verifyPassedUptoCard

/-- THE SECOND FORM's CARD OF 'busbarlaw13.VerifyKnown'. -/
def verifyKnownUptoCard : Claim7 := { stood := { row := verifyKnownUptoRow, standIns := [], harness := (true, "a5e7f25d4bd569abacabae724908aa2faff54cbd563e7a204cf657bcceb52167"), looks := true }, kinds := [], alts := [], laidByText := true, laidKinds := [.data, .data, .data, .handle, .sentinel, .sentinel, .listed, .data], laidTests := true, laidLooks := .later }
def VerifyKnownUptoCardSaid : Prop := Claim7.holds Tryz.pinned (.plain (OpenSpec.upto verifyKnownSpec)) verifyKnownUptoCard

/-- THE SECOND FORM's CARD OF 'busbarlaw14.VmRuns'. -/
def vmRunsUptoCard : Claim7 := { stood := { row := vmRunsUptoRow, standIns := [], harness := (true, "a5e7f25d4bd569abacabae724908aa2faff54cbd563e7a204cf657bcceb52167"), looks := true }, kinds := [], alts := [], laidByText := true, laidKinds := [.data, .data, .data, .handle, .sentinel, .sentinel, .listed, .data], laidTests := true, laidLooks := .later }
def VmRunsUptoCardSaid : Prop := Claim7.holds Tryz.pinned (.plain (OpenSpec.upto vmRunsSpec)) vmRunsUptoCard
end Rows
end Go.Proofs.YthafeadfpfibkaaGreatDoor
