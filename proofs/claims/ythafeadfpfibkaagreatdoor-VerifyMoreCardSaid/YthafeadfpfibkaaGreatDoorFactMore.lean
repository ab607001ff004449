/- The closed facts of 'VerifyMore', each by itself. -/
import Derived.Test.YthafeadfpfibkaaGreatDoorFacts
namespace Go.Proofs.YthafeadfpfibkaaGreatDoor
namespace LawMore
theorem found : Tryz.pinned.checked.prog.funcNamed Rows.verifyMoreRow.func = some 9 := by kernel_rfl
theorem instanced : Tryz.f9.isInstance Tryz.pinned.checked.prog Rows.verifyMoreRow.origin Rows.verifyMoreRow.targs := of_decide_eq_true (by kernel_rfl)
theorem wrapped : Tryz.f9.isWrapper Tryz.pinned.checked.prog Rows.verifyMoreRow.wrapper Rows.verifyMoreRow.mainSum := by unfold Func.isWrapper; first | (rw [if_pos (by decide +kernel)]; kernel_rfl) | (rw [if_neg (by decide +kernel)]; exact ⟨rfl, rfl⟩)
theorem joined : joinedFacts Tryz.pinned.checked.prog 9 Tryz.f9 Rows.verifyMoreSpec Rows.verifyMoreRow = true := by
  unfold joinedFacts
  rw [Facts.laid, Facts.rowed, Facts.heard, Facts.entered, Facts.keys, Facts.lifts]
  kernel_rfl
end LawMore
end Go.Proofs.YthafeadfpfibkaaGreatDoor
