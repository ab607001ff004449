/- The closed facts of 'LowerPacks', each by itself. -/
import Derived.Test.YtljhklblbafjkaaGreatDoorFacts
namespace Go.Proofs.YtljhklblbafjkaaGreatDoor
namespace LawLowerPacks
theorem found:Tryz.pinned.checked.prog.funcNamed Rows.lowerPacksRow.func=some 4:=by kernel_rfl
theorem instanced:Tryz.f4.isInstance Tryz.pinned.checked.prog Rows.lowerPacksRow.origin Rows.lowerPacksRow.targs:=of_decide_eq_true (by kernel_rfl)
theorem wrapped:Tryz.f4.isWrapper Tryz.pinned.checked.prog Rows.lowerPacksRow.wrapper Rows.lowerPacksRow.mainSum:=by unfold Func.isWrapper;first | (rw[if_pos (by decide+kernel)];kernel_rfl) | (rw[if_neg (by decide+kernel)];exact⟨rfl,rfl⟩)
theorem joined:joinedFacts Tryz.pinned.checked.prog 4 Tryz.f4 Rows.lowerPacksSpec Rows.lowerPacksRow=true:=by
 unfold joinedFacts;rw[Facts.laid,Facts.rowed,Facts.heard,Facts.entered,Facts.keys,Facts.lifts]
 kernel_rfl
end LawLowerPacks
end Go.Proofs.YtljhklblbafjkaaGreatDoor
