/- The closed facts of 'VerifyProgram', each by itself. -/
import Derived.Test.YtlemjkeeinjnaaaGreatDoorFacts
namespace Go.Proofs.YtlemjkeeinjnaaaGreatDoor
namespace LawVerifyProgram
theorem found : Tryz.pinned.checked.prog.funcNamed Rows.verifyProgramRow.func = some 5 := by kernel_rfl
theorem instanced : Tryz.f5.isInstance Tryz.pinned.checked.prog Rows.verifyProgramRow.origin Rows.verifyProgramRow.targs := of_decide_eq_true (by kernel_rfl)
theorem wrapped : Tryz.f5.isWrapper Tryz.pinned.checked.prog Rows.verifyProgramRow.wrapper Rows.verifyProgramRow.mainSum := by unfold Func.isWrapper; first | (rw [if_pos (by decide +kernel)]; kernel_rfl) | (rw [if_neg (by decide +kernel)]; exact ⟨rfl, rfl⟩)
theorem joined : joinedFacts Tryz.pinned.checked.prog 5 Tryz.f5 Rows.verifyProgramSpec Rows.verifyProgramRow = true := by
  unfold joinedFacts
  rw [Facts.laid, Facts.rowed, Facts.heard, Facts.entered, Facts.keys, Facts.lifts]
  kernel_rfl
end LawVerifyProgram
end Go.Proofs.YtlemjkeeinjnaaaGreatDoor
