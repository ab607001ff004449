/- The closed facts of 'LiveAhead', each by itself. -/
import Derived.Test.YtdpbkchegbkefaaGreatDoorFacts
namespace Go.Proofs.YtdpbkchegbkefaaGreatDoor
namespace LawLiveAhead
theorem found : Tryz.pinned.checked.prog.funcNamed Rows.liveAheadRow.func = some 4 := by kernel_rfl
theorem instanced : Tryz.f4.isInstance Tryz.pinned.checked.prog Rows.liveAheadRow.origin Rows.liveAheadRow.targs := of_decide_eq_true (by kernel_rfl)
theorem wrapped : Tryz.f4.isWrapper Tryz.pinned.checked.prog Rows.liveAheadRow.wrapper Rows.liveAheadRow.mainSum := by unfold Func.isWrapper; first | (rw [if_pos (by decide +kernel)]; kernel_rfl) | (rw [if_neg (by decide +kernel)]; exact ⟨rfl, rfl⟩)
theorem joined : joinedFacts Tryz.pinned.checked.prog 4 Tryz.f4 Rows.liveAheadSpec Rows.liveAheadRow = true := by
  unfold joinedFacts
  rw [Facts.laid, Facts.rowed, Facts.heard, Facts.entered, Facts.keys, Facts.lifts]
  kernel_rfl
end LawLiveAhead
end Go.Proofs.YtdpbkchegbkefaaGreatDoor
