/- A world that meets the list without errors' own variable: the one that the program's own initialisers leave. -/
import Derived.Test.YtljhklblbafjkaaGreatDoorFrQ
import Derived.MakeChecks
import Derived.Lay
namespace Go.Proofs.YtljhklblbafjkaaGreatDoor
open Go.ChangeShapes Go.WideShapes Go.ChangeAt Go.RowKit
namespace Code
theorem laid3_plain:(laid3.all fun x=>x.2.handleName?.isNone)=true:=by kernel_rfl
theorem lready_laid3{W:World}(h:laidMetH Tryz.prog laid3 W):LReady W:=by
 rw[Go.MakeChecks.laidMetH_plain _ _ _ laid3_plain]at h;exact⟨tabs_laid h,utabs_laid h⟩
theorem door_met3(os:Os)(args:Array Value):laidMetH Tryz.prog laid3 ((World.laidAll Tryz.prog os laid3).forCall (fun _ _=>0) ⟨#[],args,[]⟩).memory:=by
 rw[Go.MakeChecks.laidMetH_plain _ _ _ laid3_plain];exact laidMet_laidAll _ (by kernel_rfl) (by kernel_rfl)
end Code
end Go.Proofs.YtljhklblbafjkaaGreatDoor
