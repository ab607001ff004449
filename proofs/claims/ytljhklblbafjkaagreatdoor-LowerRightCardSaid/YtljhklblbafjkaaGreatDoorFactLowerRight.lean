/- The closed facts of 'LowerRight', each by itself. -/
import Derived.Test.YtljhklblbafjkaaGreatDoorFacts
namespace Go.Proofs.YtljhklblbafjkaaGreatDoor
namespace LawLowerRight
theorem found:Tryz.pinned.checked.prog.funcNamed Rows.lowerRightRow.func=some 5:=by kernel_rfl
theorem instanced:Tryz.f5.isInstance Tryz.pinned.checked.prog Rows.lowerRightRow.origin Rows.lowerRightRow.targs:=of_decide_eq_true (by kernel_rfl)
theorem wrapped:Tryz.f5.isWrapper Tryz.pinned.checked.prog Rows.lowerRightRow.wrapper Rows.lowerRightRow.mainSum:=by unfold Func.isWrapper;first | (rw[if_pos (by decide+kernel)];kernel_rfl) | (rw[if_neg (by decide+kernel)];exact⟨rfl,rfl⟩)
theorem joined:joinedFacts Tryz.pinned.checked.prog 5 Tryz.f5 Rows.lowerRightSpec Rows.lowerRightRow=true:=by
 unfold joinedFacts;rw[Facts.laid,Facts.rowed,Facts.heard,Facts.entered,Facts.keys,Facts.lifts]
 kernel_rfl
end LawLowerRight
end Go.Proofs.YtljhklblbafjkaaGreatDoor
