/- The closed facts of 'VmKnown', each by itself. -/
import Derived.Test.YtmpeipdeablkdaaGreatDoorFacts
namespace Go.Proofs.YtmpeipdeablkdaaGreatDoor
namespace LawVmKnown
theorem found : Tryz.pinned.checked.prog.funcNamed Rows.vmKnownRow.func = some 4 := by kernel_rfl
theorem instanced : Tryz.f4.isInstance Tryz.pinned.checked.prog Rows.vmKnownRow.origin Rows.vmKnownRow.targs := of_decide_eq_true (by kernel_rfl)
theorem wrapped : Tryz.f4.isWrapper Tryz.pinned.checked.prog Rows.vmKnownRow.wrapper Rows.vmKnownRow.mainSum := by unfold Func.isWrapper; first | (rw [if_pos (by decide +kernel)]; kernel_rfl) | (rw [if_neg (by decide +kernel)]; exact ⟨rfl, rfl⟩)
theorem joined : joinedFacts Tryz.pinned.checked.prog 4 Tryz.f4 Rows.vmKnownSpec Rows.vmKnownRow = true := by
 unfold joinedFacts
 rw [Facts.laid, Facts.rowed, Facts.heard, Facts.entered, Facts.keys, Facts.lifts]
 kernel_rfl
end LawVmKnown
end Go.Proofs.YtmpeipdeablkdaaGreatDoor
