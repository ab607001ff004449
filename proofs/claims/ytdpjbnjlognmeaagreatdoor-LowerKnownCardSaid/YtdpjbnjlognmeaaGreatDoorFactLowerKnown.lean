/- The closed facts of 'LowerKnown', each by itself. -/
import Derived.Test.YtdpjbnjlognmeaaGreatDoorFacts
namespace Go.Proofs.YtdpjbnjlognmeaaGreatDoor
namespace LawLowerKnown
theorem found : Tryz.pinned.checked.prog.funcNamed Rows.lowerKnownRow.func = some 5 := by kernel_rfl
theorem instanced : Tryz.f5.isInstance Tryz.pinned.checked.prog Rows.lowerKnownRow.origin Rows.lowerKnownRow.targs := of_decide_eq_true (by kernel_rfl)
theorem wrapped : Tryz.f5.isWrapper Tryz.pinned.checked.prog Rows.lowerKnownRow.wrapper Rows.lowerKnownRow.mainSum := by unfold Func.isWrapper; first | (rw [if_pos (by decide +kernel)]; kernel_rfl) | (rw [if_neg (by decide +kernel)]; exact ⟨rfl, rfl⟩)
theorem joined : joinedFacts Tryz.pinned.checked.prog 5 Tryz.f5 Rows.lowerKnownSpec Rows.lowerKnownRow = true := by
 unfold joinedFacts
 rw [Facts.laid, Facts.rowed, Facts.heard, Facts.entered, Facts.keys, Facts.lifts]
 kernel_rfl
end LawLowerKnown
end Go.Proofs.YtdpjbnjlognmeaaGreatDoor
