/- The closed facts of 'FuseSame', each by itself. -/
import Derived.Test.YtlemjkeeinjnaaaGreatDoorFacts
namespace Go.Proofs.YtlemjkeeinjnaaaGreatDoor
namespace LawFuseSame
theorem found : Tryz.pinned.checked.prog.funcNamed Rows.fuseSameRow.func = some 7 := by kernel_rfl
theorem instanced : Tryz.f7.isInstance Tryz.pinned.checked.prog Rows.fuseSameRow.origin Rows.fuseSameRow.targs := of_decide_eq_true (by kernel_rfl)
theorem wrapped : Tryz.f7.isWrapper Tryz.pinned.checked.prog Rows.fuseSameRow.wrapper Rows.fuseSameRow.mainSum := by unfold Func.isWrapper; first | (rw [if_pos (by decide +kernel)]; kernel_rfl) | (rw [if_neg (by decide +kernel)]; exact ⟨rfl, rfl⟩)
theorem joined : joinedFacts Tryz.pinned.checked.prog 7 Tryz.f7 Rows.fuseSameSpec Rows.fuseSameRow = true := by
  unfold joinedFacts
  rw [Facts.laid, Facts.rowed, Facts.heard, Facts.entered, Facts.keys, Facts.lifts]
  kernel_rfl
end LawFuseSame
end Go.Proofs.YtlemjkeeinjnaaaGreatDoor
