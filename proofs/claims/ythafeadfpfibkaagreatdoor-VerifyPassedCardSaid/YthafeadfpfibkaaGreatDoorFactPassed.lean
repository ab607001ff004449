/- The closed facts of 'VerifyPassed', each by itself. -/
import Derived.Test.YthafeadfpfibkaaGreatDoorFacts
namespace Go.Proofs.YthafeadfpfibkaaGreatDoor
namespace LawPassed
theorem found : Tryz.pinned.checked.prog.funcNamed Rows.verifyPassedRow.func = some 12 := by kernel_rfl
theorem instanced : Tryz.f12.isInstance Tryz.pinned.checked.prog Rows.verifyPassedRow.origin Rows.verifyPassedRow.targs := of_decide_eq_true (by kernel_rfl)
theorem wrapped : Tryz.f12.isWrapper Tryz.pinned.checked.prog Rows.verifyPassedRow.wrapper Rows.verifyPassedRow.mainSum := by unfold Func.isWrapper; first | (rw [if_pos (by decide +kernel)]; kernel_rfl) | (rw [if_neg (by decide +kernel)]; exact ⟨rfl, rfl⟩)
theorem joined : joinedFacts Tryz.pinned.checked.prog 12 Tryz.f12 Rows.verifyPassedSpec Rows.verifyPassedRow = true := by
  unfold joinedFacts
  rw [Facts.laid, Facts.rowed, Facts.heard, Facts.entered, Facts.keys, Facts.lifts]
  kernel_rfl
end LawPassed
end Go.Proofs.YthafeadfpfibkaaGreatDoor
