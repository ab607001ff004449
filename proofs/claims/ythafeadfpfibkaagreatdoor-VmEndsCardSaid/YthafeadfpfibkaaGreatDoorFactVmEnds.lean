/- The closed facts of 'VmEnds', each by itself. -/
import Derived.Test.YthafeadfpfibkaaGreatDoorFacts
namespace Go.Proofs.YthafeadfpfibkaaGreatDoor
namespace LawVmEnds
theorem found : Tryz.pinned.checked.prog.funcNamed Rows.vmEndsRow.func = some 7 := by kernel_rfl
theorem instanced : Tryz.f7.isInstance Tryz.pinned.checked.prog Rows.vmEndsRow.origin Rows.vmEndsRow.targs := of_decide_eq_true (by kernel_rfl)
theorem wrapped : Tryz.f7.isWrapper Tryz.pinned.checked.prog Rows.vmEndsRow.wrapper Rows.vmEndsRow.mainSum := by unfold Func.isWrapper; first | (rw [if_pos (by decide +kernel)]; kernel_rfl) | (rw [if_neg (by decide +kernel)]; exact ⟨rfl, rfl⟩)
theorem joined : joinedFacts Tryz.pinned.checked.prog 7 Tryz.f7 Rows.vmEndsSpec Rows.vmEndsRow = true := by
  unfold joinedFacts
  rw [Facts.laid, Facts.rowed, Facts.heard, Facts.entered, Facts.keys, Facts.lifts]
  kernel_rfl
end LawVmEnds
end Go.Proofs.YthafeadfpfibkaaGreatDoor
