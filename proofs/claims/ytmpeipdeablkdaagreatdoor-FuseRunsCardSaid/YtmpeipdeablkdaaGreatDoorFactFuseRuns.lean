/- The closed facts of 'FuseRuns', each by itself. -/
import Derived.Test.YtmpeipdeablkdaaGreatDoorFacts
namespace Go.Proofs.YtmpeipdeablkdaaGreatDoor
namespace LawFuseRuns
theorem found : Tryz.pinned.checked.prog.funcNamed Rows.fuseRunsRow.func = some 5 := by kernel_rfl
theorem instanced : Tryz.f5.isInstance Tryz.pinned.checked.prog Rows.fuseRunsRow.origin Rows.fuseRunsRow.targs := of_decide_eq_true (by kernel_rfl)
theorem wrapped : Tryz.f5.isWrapper Tryz.pinned.checked.prog Rows.fuseRunsRow.wrapper Rows.fuseRunsRow.mainSum := by unfold Func.isWrapper; first | (rw [if_pos (by decide +kernel)]; kernel_rfl) | (rw [if_neg (by decide +kernel)]; exact ⟨rfl, rfl⟩)
theorem joined : joinedFacts Tryz.pinned.checked.prog 5 Tryz.f5 Rows.fuseRunsSpec Rows.fuseRunsRow = true := by
 unfold joinedFacts
 rw [Facts.laid, Facts.rowed, Facts.heard, Facts.entered, Facts.keys, Facts.lifts]
 kernel_rfl
end LawFuseRuns
end Go.Proofs.YtmpeipdeablkdaaGreatDoor
