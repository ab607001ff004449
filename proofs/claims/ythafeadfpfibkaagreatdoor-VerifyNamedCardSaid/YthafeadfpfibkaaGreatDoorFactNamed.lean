/- The closed facts of 'VerifyNamed', each by itself. -/
import Derived.Test.YthafeadfpfibkaaGreatDoorFacts
namespace Go.Proofs.YthafeadfpfibkaaGreatDoor
namespace LawNamed
theorem found : Tryz.pinned.checked.prog.funcNamed Rows.verifyNamedRow.func = some 11 := by kernel_rfl
theorem instanced : Tryz.f11.isInstance Tryz.pinned.checked.prog Rows.verifyNamedRow.origin Rows.verifyNamedRow.targs := of_decide_eq_true (by kernel_rfl)
theorem wrapped : Tryz.f11.isWrapper Tryz.pinned.checked.prog Rows.verifyNamedRow.wrapper Rows.verifyNamedRow.mainSum := by unfold Func.isWrapper; first | (rw [if_pos (by decide +kernel)]; kernel_rfl) | (rw [if_neg (by decide +kernel)]; exact ⟨rfl, rfl⟩)
theorem joined : joinedFacts Tryz.pinned.checked.prog 11 Tryz.f11 Rows.verifyNamedSpec Rows.verifyNamedRow = true := by
  unfold joinedFacts
  rw [Facts.laid, Facts.rowed, Facts.heard, Facts.entered, Facts.keys, Facts.lifts]
  kernel_rfl
end LawNamed
end Go.Proofs.YthafeadfpfibkaaGreatDoor
