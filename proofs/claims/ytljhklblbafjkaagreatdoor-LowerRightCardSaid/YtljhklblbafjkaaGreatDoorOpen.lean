/- A list of instructions that came in, opened: its instructions in memory, each in range; its length is within the reach. -/
import Derived.Test.YtljhklblbafjkaaGreatDoorBaseQ
import Derived.ProofKit
import Derived.SizedLaws
import Derived.Deep.Slices
namespace Go.Proofs.YtljhklblbafjkaaGreatDoor
open Go.ChangeShapes Go.WideShapes Go.ChangeAt Go.RowKit
theorem cells74:Tryz.prog.cellsOf 74=5:=by kernel_rfl
theorem cells3:Tryz.prog.cellsOf 3=1:=by kernel_rfl
theorem cells49:Tryz.prog.cellsOf 49=1:=by kernel_rfl
theorem bytes74:Tryz.prog.bytesOf 74=40:=by kernel_rfl
theorem wf_i64_in{n:Int}(h:(Lit.int .i64 n).wf=true):B.In64 n:=by
 unfold B.In64;simpa[Lit.wf,IntKind.min,IntKind.max,IntKind.signed,IntKind.bits]using h
theorem wf_u64_in{n:Int}(h:(Lit.int .u64 n).wf=true):B.InU64 n:=by
 unfold B.InU64;simpa[Lit.wf,IntKind.min,IntKind.max,IntKind.signed,IntKind.bits]using h
section
variable {H:Type} {enc:TypeId×Value→H} {w:World} {spare:Nat→Bool} {held:Bool}
end
end Go.Proofs.YtljhklblbafjkaaGreatDoor
