/- The closed facts of 'LiveSame', each by itself. -/
import Derived.Test.YtdpbkchegbkefaaGreatDoorFacts
namespace Go.Proofs.YtdpbkchegbkefaaGreatDoor
namespace LawLiveSame
theorem found : Tryz.pinned.checked.prog.funcNamed Rows.liveSameRow.func = some 8 := by kernel_rfl
theorem instanced : Tryz.f8.isInstance Tryz.pinned.checked.prog Rows.liveSameRow.origin Rows.liveSameRow.targs := of_decide_eq_true (by kernel_rfl)
theorem wrapped : Tryz.f8.isWrapper Tryz.pinned.checked.prog Rows.liveSameRow.wrapper Rows.liveSameRow.mainSum := by unfold Func.isWrapper; first | (rw [if_pos (by decide +kernel)]; kernel_rfl) | (rw [if_neg (by decide +kernel)]; exact ⟨rfl, rfl⟩)
theorem joined : joinedFacts Tryz.pinned.checked.prog 8 Tryz.f8 Rows.liveSameSpec Rows.liveSameRow = true := by
  unfold joinedFacts
  rw [Facts.laid, Facts.rowed, Facts.heard, Facts.entered, Facts.keys, Facts.lifts]
  kernel_rfl
end LawLiveSame
end Go.Proofs.YtdpbkchegbkefaaGreatDoor
