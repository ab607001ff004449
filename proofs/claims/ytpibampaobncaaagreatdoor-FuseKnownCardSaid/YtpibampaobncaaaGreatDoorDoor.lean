/- A world that meets the list: the one that the program's own initialisers leave. -/
import Derived.Test.YtpibampaobncaaaGreatDoorLaid
namespace Go.Proofs.YtpibampaobncaaaGreatDoor
open Go.ChangeShapes Go.WideShapes Go.ChangeAt Go.RowKit
namespace Code
theorem door_met2(os:Os)(args:Array Value):laidMetH Tryz.prog laid2 ((World.doorLaid Tryz.prog 93 os).forCall (fun _ _=>0) ⟨#[],args,[]⟩).memory:=
 laidMetH_of_parts3 (fuel:=8) (laidMet_of_run' 8 (by kernel_rfl) (by kernel_rfl)) (by kernel_rfl) (by kernel_rfl)
end Code
end Go.Proofs.YtpibampaobncaaaGreatDoor
