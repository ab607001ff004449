/- A list of instructions that came in, opened: its instructions in memory, each in range; its length is within the reach. -/
import Derived.Test.YtpibampaobncaaaGreatDoorBaseQ
import Derived.ProofKit
import Derived.SizedLaws
import Derived.Deep.Slices
namespace Go.Proofs.YtpibampaobncaaaGreatDoor
open Go.ChangeShapes Go.WideShapes Go.ChangeAt Go.RowKit
theorem cells25:Tryz.prog.cellsOf 25=5:=by kernel_rfl
theorem cells3:Tryz.prog.cellsOf 3=1:=by kernel_rfl
theorem cells23:Tryz.prog.cellsOf 23=1:=by kernel_rfl
theorem bytes25:Tryz.prog.bytesOf 25=40:=by kernel_rfl
section
variable {H:Type} {enc:TypeId×Value→H} {w:World} {spare:Nat→Bool} {held:Bool}
end
end Go.Proofs.YtpibampaobncaaaGreatDoor
namespace Go.Proofs.YtpibampaobncaaaGreatDoor
open Go.RowKit
end Go.Proofs.YtpibampaobncaaaGreatDoor
