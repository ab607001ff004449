/- The closed facts of 'LowerBack', each by itself. -/
import Derived.Test.YtdpjbnjlognmeaaGreatDoorFacts
namespace Go.Proofs.YtdpjbnjlognmeaaGreatDoor
namespace LawLowerBack
theorem found : Tryz.pinned.checked.prog.funcNamed Rows.lowerBackRow.func = some 4 := by kernel_rfl
theorem instanced : Tryz.f4.isInstance Tryz.pinned.checked.prog Rows.lowerBackRow.origin Rows.lowerBackRow.targs := of_decide_eq_true (by kernel_rfl)
theorem wrapped : Tryz.f4.isWrapper Tryz.pinned.checked.prog Rows.lowerBackRow.wrapper Rows.lowerBackRow.mainSum := by unfold Func.isWrapper; first | (rw [if_pos (by decide +kernel)]; kernel_rfl) | (rw [if_neg (by decide +kernel)]; exact ⟨rfl, rfl⟩)
theorem joined : joinedFacts Tryz.pinned.checked.prog 4 Tryz.f4 Rows.lowerBackSpec Rows.lowerBackRow = true := by
 unfold joinedFacts
 rw [Facts.laid, Facts.rowed, Facts.heard, Facts.entered, Facts.keys, Facts.lifts]
 kernel_rfl
end LawLowerBack
end Go.Proofs.YtdpjbnjlognmeaaGreatDoor
