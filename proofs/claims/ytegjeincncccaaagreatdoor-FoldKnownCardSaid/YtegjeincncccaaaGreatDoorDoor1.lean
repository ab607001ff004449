/- A world that meets the list without errors' own variable: the one that the program's own initialisers leave. -/
import Derived.Test.YtegjeincncccaaaGreatDoorFrame
import Derived.MakeChecks
namespace Go.Proofs.YtegjeincncccaaaGreatDoor
open Go.ChangeShapes Go.WideShapes Go.ChangeAt Go.RowKit

namespace Code

theorem laid1_plain : (laid1.all fun x => x.2.handleName?.isNone) = true := by kernel_rfl

theorem tabs_laid1 {W : World} (h : laidMetH Tryz.prog laid1 W) : Tabs W := tabs_laid (by rw [Go.MakeChecks.laidMetH_plain _ _ _ laid1_plain] at h; exact h)

theorem door_met1 (os : Os) (args : Array Value) : laidMetH Tryz.prog laid1 ((World.doorLaid Tryz.prog 93 os).forCall (fun _ _ => 0) ⟨#[], args, []⟩).memory := by
 rw [Go.MakeChecks.laidMetH_plain _ _ _ laid1_plain]
 exact laidMet_of_run' 8 (by kernel_rfl) (by kernel_rfl)

end Code
end Go.Proofs.YtegjeincncccaaaGreatDoor
