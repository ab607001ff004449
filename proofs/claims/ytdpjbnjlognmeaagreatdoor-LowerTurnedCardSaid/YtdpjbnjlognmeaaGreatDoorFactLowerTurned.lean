/- The closed facts of 'LowerTurned', each by itself. -/
import Derived.Test.YtdpjbnjlognmeaaGreatDoorFacts
namespace Go.Proofs.YtdpjbnjlognmeaaGreatDoor
namespace LawLowerTurned
theorem found : Tryz.pinned.checked.prog.funcNamed Rows.lowerTurnedRow.func = some 3 := by kernel_rfl
theorem instanced : Tryz.f3.isInstance Tryz.pinned.checked.prog Rows.lowerTurnedRow.origin Rows.lowerTurnedRow.targs := of_decide_eq_true (by kernel_rfl)
theorem wrapped : Tryz.f3.isWrapper Tryz.pinned.checked.prog Rows.lowerTurnedRow.wrapper Rows.lowerTurnedRow.mainSum := by unfold Func.isWrapper; first | (rw [if_pos (by decide +kernel)]; kernel_rfl) | (rw [if_neg (by decide +kernel)]; exact ⟨rfl, rfl⟩)
theorem joined : joinedFacts Tryz.pinned.checked.prog 3 Tryz.f3 Rows.lowerTurnedSpec Rows.lowerTurnedRow = true := by
 unfold joinedFacts
 rw [Facts.laid, Facts.rowed, Facts.heard, Facts.entered, Facts.keys, Facts.lifts]
 kernel_rfl
end LawLowerTurned
end Go.Proofs.YtdpjbnjlognmeaaGreatDoor
