/- The closed facts of 'VmNamed', each by itself. -/
import Derived.Test.YthafeadfpfibkaaGreatDoorFacts
namespace Go.Proofs.YthafeadfpfibkaaGreatDoor
namespace LawVmNamed
theorem found : Tryz.pinned.checked.prog.funcNamed Rows.vmNamedRow.func = some 4 := by kernel_rfl
theorem instanced : Tryz.f4.isInstance Tryz.pinned.checked.prog Rows.vmNamedRow.origin Rows.vmNamedRow.targs := of_decide_eq_true (by kernel_rfl)
theorem wrapped : Tryz.f4.isWrapper Tryz.pinned.checked.prog Rows.vmNamedRow.wrapper Rows.vmNamedRow.mainSum := by unfold Func.isWrapper; first | (rw [if_pos (by decide +kernel)]; kernel_rfl) | (rw [if_neg (by decide +kernel)]; exact ⟨rfl, rfl⟩)
theorem joined : joinedFacts Tryz.pinned.checked.prog 4 Tryz.f4 Rows.vmNamedSpec Rows.vmNamedRow = true := by
  unfold joinedFacts
  rw [Facts.laid, Facts.rowed, Facts.heard, Facts.entered, Facts.keys, Facts.lifts]
  kernel_rfl
end LawVmNamed
end Go.Proofs.YthafeadfpfibkaaGreatDoor
