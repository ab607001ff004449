/- The closed facts of 'VmBehind', each by itself. -/
import Derived.Test.YthafeadfpfibkaaGreatDoorFacts
namespace Go.Proofs.YthafeadfpfibkaaGreatDoor
namespace LawVmBehind
theorem found : Tryz.pinned.checked.prog.funcNamed Rows.vmBehindRow.func = some 3 := by kernel_rfl
theorem instanced : Tryz.f3.isInstance Tryz.pinned.checked.prog Rows.vmBehindRow.origin Rows.vmBehindRow.targs := of_decide_eq_true (by kernel_rfl)
theorem wrapped : Tryz.f3.isWrapper Tryz.pinned.checked.prog Rows.vmBehindRow.wrapper Rows.vmBehindRow.mainSum := by unfold Func.isWrapper; first | (rw [if_pos (by decide +kernel)]; kernel_rfl) | (rw [if_neg (by decide +kernel)]; exact ⟨rfl, rfl⟩)
theorem joined : joinedFacts Tryz.pinned.checked.prog 3 Tryz.f3 Rows.vmBehindSpec Rows.vmBehindRow = true := by
  unfold joinedFacts
  rw [Facts.laid, Facts.rowed, Facts.heard, Facts.entered, Facts.keys, Facts.lifts]
  kernel_rfl
end LawVmBehind
end Go.Proofs.YthafeadfpfibkaaGreatDoor
