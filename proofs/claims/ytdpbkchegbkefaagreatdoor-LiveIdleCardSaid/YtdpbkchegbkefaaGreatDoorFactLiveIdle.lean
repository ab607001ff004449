/- The closed facts of 'LiveIdle', each by itself. -/
import Derived.Test.YtdpbkchegbkefaaGreatDoorFacts
namespace Go.Proofs.YtdpbkchegbkefaaGreatDoor
namespace LawLiveIdle
theorem found : Tryz.pinned.checked.prog.funcNamed Rows.liveIdleRow.func = some 3 := by kernel_rfl
theorem instanced : Tryz.f3.isInstance Tryz.pinned.checked.prog Rows.liveIdleRow.origin Rows.liveIdleRow.targs := of_decide_eq_true (by kernel_rfl)
theorem wrapped : Tryz.f3.isWrapper Tryz.pinned.checked.prog Rows.liveIdleRow.wrapper Rows.liveIdleRow.mainSum := by unfold Func.isWrapper; first | (rw [if_pos (by decide +kernel)]; kernel_rfl) | (rw [if_neg (by decide +kernel)]; exact ⟨rfl, rfl⟩)
theorem joined : joinedFacts Tryz.pinned.checked.prog 3 Tryz.f3 Rows.liveIdleSpec Rows.liveIdleRow = true := by
  unfold joinedFacts
  rw [Facts.laid, Facts.rowed, Facts.heard, Facts.entered, Facts.keys, Facts.lifts]
  kernel_rfl
end LawLiveIdle
end Go.Proofs.YtdpbkchegbkefaaGreatDoor
