/- The closed facts of 'VmSkips', each by itself. -/
import Derived.Test.YthafeadfpfibkaaGreatDoorFacts
namespace Go.Proofs.YthafeadfpfibkaaGreatDoor
namespace LawVmSkips
theorem found : Tryz.pinned.checked.prog.funcNamed Rows.vmSkipsRow.func = some 5 := by kernel_rfl
theorem instanced : Tryz.f5.isInstance Tryz.pinned.checked.prog Rows.vmSkipsRow.origin Rows.vmSkipsRow.targs := of_decide_eq_true (by kernel_rfl)
theorem wrapped : Tryz.f5.isWrapper Tryz.pinned.checked.prog Rows.vmSkipsRow.wrapper Rows.vmSkipsRow.mainSum := by unfold Func.isWrapper; first | (rw [if_pos (by decide +kernel)]; kernel_rfl) | (rw [if_neg (by decide +kernel)]; exact ⟨rfl, rfl⟩)
theorem joined : joinedFacts Tryz.pinned.checked.prog 5 Tryz.f5 Rows.vmSkipsSpec Rows.vmSkipsRow = true := by
  unfold joinedFacts
  rw [Facts.laid, Facts.rowed, Facts.heard, Facts.entered, Facts.keys, Facts.lifts]
  kernel_rfl
end LawVmSkips
end Go.Proofs.YthafeadfpfibkaaGreatDoor
