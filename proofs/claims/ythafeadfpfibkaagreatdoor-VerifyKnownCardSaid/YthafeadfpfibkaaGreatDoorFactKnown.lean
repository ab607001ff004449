/- The closed facts of 'VerifyKnown', each by itself. -/
import Derived.Test.YthafeadfpfibkaaGreatDoorFacts
namespace Go.Proofs.YthafeadfpfibkaaGreatDoor
namespace LawKnown
theorem found : Tryz.pinned.checked.prog.funcNamed Rows.verifyKnownRow.func = some 13 := by kernel_rfl
theorem instanced : Tryz.f13.isInstance Tryz.pinned.checked.prog Rows.verifyKnownRow.origin Rows.verifyKnownRow.targs := of_decide_eq_true (by kernel_rfl)
theorem wrapped : Tryz.f13.isWrapper Tryz.pinned.checked.prog Rows.verifyKnownRow.wrapper Rows.verifyKnownRow.mainSum := by unfold Func.isWrapper; first | (rw [if_pos (by decide +kernel)]; kernel_rfl) | (rw [if_neg (by decide +kernel)]; exact ⟨rfl, rfl⟩)
theorem joined : joinedFacts Tryz.pinned.checked.prog 13 Tryz.f13 Rows.verifyKnownSpec Rows.verifyKnownRow = true := by
  unfold joinedFacts
  rw [Facts.laid, Facts.rowed, Facts.heard, Facts.entered, Facts.keys, Facts.lifts]
  kernel_rfl
end LawKnown
end Go.Proofs.YthafeadfpfibkaaGreatDoor
