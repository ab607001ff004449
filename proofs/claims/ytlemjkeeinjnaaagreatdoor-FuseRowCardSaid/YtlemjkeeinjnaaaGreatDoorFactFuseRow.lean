/- The closed facts of 'FuseRow', each by itself. -/
import Derived.Test.YtlemjkeeinjnaaaGreatDoorFacts
namespace Go.Proofs.YtlemjkeeinjnaaaGreatDoor
namespace LawFuseRow
theorem found : Tryz.pinned.checked.prog.funcNamed Rows.fuseRowRow.func = some 4 := by kernel_rfl
theorem instanced : Tryz.f4.isInstance Tryz.pinned.checked.prog Rows.fuseRowRow.origin Rows.fuseRowRow.targs := of_decide_eq_true (by kernel_rfl)
theorem wrapped : Tryz.f4.isWrapper Tryz.pinned.checked.prog Rows.fuseRowRow.wrapper Rows.fuseRowRow.mainSum := by unfold Func.isWrapper; first | (rw [if_pos (by decide +kernel)]; kernel_rfl) | (rw [if_neg (by decide +kernel)]; exact ⟨rfl, rfl⟩)
theorem joined : joinedFacts Tryz.pinned.checked.prog 4 Tryz.f4 Rows.fuseRowSpec Rows.fuseRowRow = true := by
  unfold joinedFacts
  rw [Facts.laid, Facts.rowed, Facts.heard, Facts.entered, Facts.keys, Facts.lifts]
  kernel_rfl
end LawFuseRow
end Go.Proofs.YtlemjkeeinjnaaaGreatDoor
