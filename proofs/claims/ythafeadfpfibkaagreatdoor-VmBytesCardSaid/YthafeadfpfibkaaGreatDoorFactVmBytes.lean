/- The closed facts of 'VmBytes', each by itself. -/
import Derived.Test.YthafeadfpfibkaaGreatDoorFacts
namespace Go.Proofs.YthafeadfpfibkaaGreatDoor
namespace LawVmBytes
theorem found : Tryz.pinned.checked.prog.funcNamed Rows.vmBytesRow.func = some 6 := by kernel_rfl
theorem instanced : Tryz.f6.isInstance Tryz.pinned.checked.prog Rows.vmBytesRow.origin Rows.vmBytesRow.targs := of_decide_eq_true (by kernel_rfl)
theorem wrapped : Tryz.f6.isWrapper Tryz.pinned.checked.prog Rows.vmBytesRow.wrapper Rows.vmBytesRow.mainSum := by unfold Func.isWrapper; first | (rw [if_pos (by decide +kernel)]; kernel_rfl) | (rw [if_neg (by decide +kernel)]; exact ⟨rfl, rfl⟩)
theorem joined : joinedFacts Tryz.pinned.checked.prog 6 Tryz.f6 Rows.vmBytesSpec Rows.vmBytesRow = true := by
  unfold joinedFacts
  rw [Facts.laid, Facts.rowed, Facts.heard, Facts.entered, Facts.keys, Facts.lifts]
  kernel_rfl
end LawVmBytes
end Go.Proofs.YthafeadfpfibkaaGreatDoor
