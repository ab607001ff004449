/- The closed facts of 'LowerAgain', each by itself. -/
import Derived.Test.YtdpjbnjlognmeaaGreatDoorFacts
namespace Go.Proofs.YtdpjbnjlognmeaaGreatDoor
namespace LawLowerAgain
theorem found : Tryz.pinned.checked.prog.funcNamed Rows.lowerAgainRow.func = some 6 := by kernel_rfl
theorem instanced : Tryz.f6.isInstance Tryz.pinned.checked.prog Rows.lowerAgainRow.origin Rows.lowerAgainRow.targs := of_decide_eq_true (by kernel_rfl)
theorem wrapped : Tryz.f6.isWrapper Tryz.pinned.checked.prog Rows.lowerAgainRow.wrapper Rows.lowerAgainRow.mainSum := by unfold Func.isWrapper; first | (rw [if_pos (by decide +kernel)]; kernel_rfl) | (rw [if_neg (by decide +kernel)]; exact ⟨rfl, rfl⟩)
theorem joined : joinedFacts Tryz.pinned.checked.prog 6 Tryz.f6 Rows.lowerAgainSpec Rows.lowerAgainRow = true := by
 unfold joinedFacts
 rw [Facts.laid, Facts.rowed, Facts.heard, Facts.entered, Facts.keys, Facts.lifts]
 kernel_rfl
end LawLowerAgain
end Go.Proofs.YtdpjbnjlognmeaaGreatDoor
