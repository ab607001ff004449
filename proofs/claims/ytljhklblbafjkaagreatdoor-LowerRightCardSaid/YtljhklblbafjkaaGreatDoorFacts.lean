/- Closed facts of the program, those no law changes: each in a theorem of its own, for the checker's memory. -/
import Derived.Test.YtljhklblbafjkaaGreatDoorFrL
namespace Go.Proofs.YtljhklblbafjkaaGreatDoor
namespace Facts
theorem laid:laidOutB Tryz.pinned.checked.prog=true:=by kernel_rfl
theorem rowed:mapsRowed Tryz.pinned.checked.prog=true:=by kernel_rfl
theorem heard:Tryz.pinned.checked.prog.stopsHeard=true:=by kernel_rfl
theorem entered:Tryz.pinned.checked.prog.mayEnter=true:=by kernel_rfl
theorem keys:Tryz.pinned.checked.prog.plainKeys=Rows.lowerUnpacksRow.plainKeys:=by kernel_rfl
theorem lifts:Tryz.pinned.checked.prog.liftsFinal=Rows.lowerUnpacksRow.lifted:=by kernel_rfl
end Facts
end Go.Proofs.YtljhklblbafjkaaGreatDoor
