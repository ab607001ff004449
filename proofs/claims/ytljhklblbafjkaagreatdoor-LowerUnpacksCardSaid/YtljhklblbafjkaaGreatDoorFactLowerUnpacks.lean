/- The closed facts of 'LowerUnpacks', each by itself. -/
import Derived.Test.YtljhklblbafjkaaGreatDoorFacts
namespace Go.Proofs.YtljhklblbafjkaaGreatDoor
namespace LawLowerUnpacks
theorem found:Tryz.pinned.checked.prog.funcNamed Rows.lowerUnpacksRow.func=some 3:=by kernel_rfl
theorem instanced:Tryz.f3.isInstance Tryz.pinned.checked.prog Rows.lowerUnpacksRow.origin Rows.lowerUnpacksRow.targs:=of_decide_eq_true (by kernel_rfl)
theorem wrapped:Tryz.f3.isWrapper Tryz.pinned.checked.prog Rows.lowerUnpacksRow.wrapper Rows.lowerUnpacksRow.mainSum:=by unfold Func.isWrapper;first | (rw[if_pos (by decide+kernel)];kernel_rfl) | (rw[if_neg (by decide+kernel)];exact⟨rfl,rfl⟩)
theorem joined:joinedFacts Tryz.pinned.checked.prog 3 Tryz.f3 Rows.lowerUnpacksSpec Rows.lowerUnpacksRow=true:=by
 unfold joinedFacts;rw[Facts.laid,Facts.rowed,Facts.heard,Facts.entered,Facts.keys,Facts.lifts]
 kernel_rfl
end LawLowerUnpacks
end Go.Proofs.YtljhklblbafjkaaGreatDoor
