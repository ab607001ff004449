/- The closed facts of 'FuseOnce', each by itself. -/
import Derived.Test.YtlemjkeeinjnaaaGreatDoorFacts
namespace Go.Proofs.YtlemjkeeinjnaaaGreatDoor
namespace LawFuseOnce
theorem found : Tryz.pinned.checked.prog.funcNamed Rows.fuseOnceRow.func = some 3 := by kernel_rfl
theorem instanced : Tryz.f3.isInstance Tryz.pinned.checked.prog Rows.fuseOnceRow.origin Rows.fuseOnceRow.targs := of_decide_eq_true (by kernel_rfl)
theorem wrapped : Tryz.f3.isWrapper Tryz.pinned.checked.prog Rows.fuseOnceRow.wrapper Rows.fuseOnceRow.mainSum := by unfold Func.isWrapper; first | (rw [if_pos (by decide +kernel)]; kernel_rfl) | (rw [if_neg (by decide +kernel)]; exact ⟨rfl, rfl⟩)
theorem joined : joinedFacts Tryz.pinned.checked.prog 3 Tryz.f3 Rows.fuseOnceSpec Rows.fuseOnceRow = true := by
  unfold joinedFacts
  rw [Facts.laid, Facts.rowed, Facts.heard, Facts.entered, Facts.keys, Facts.lifts]
  kernel_rfl
end LawFuseOnce
end Go.Proofs.YtlemjkeeinjnaaaGreatDoor
