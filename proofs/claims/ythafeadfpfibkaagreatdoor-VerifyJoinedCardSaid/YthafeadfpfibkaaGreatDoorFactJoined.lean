/- The closed facts of 'VerifyJoined', each by itself. -/
import Derived.Test.YthafeadfpfibkaaGreatDoorFacts
namespace Go.Proofs.YthafeadfpfibkaaGreatDoor
namespace LawJoined
theorem found : Tryz.pinned.checked.prog.funcNamed Rows.verifyJoinedRow.func = some 10 := by kernel_rfl
theorem instanced : Tryz.f10.isInstance Tryz.pinned.checked.prog Rows.verifyJoinedRow.origin Rows.verifyJoinedRow.targs := of_decide_eq_true (by kernel_rfl)
theorem wrapped : Tryz.f10.isWrapper Tryz.pinned.checked.prog Rows.verifyJoinedRow.wrapper Rows.verifyJoinedRow.mainSum := by unfold Func.isWrapper; first | (rw [if_pos (by decide +kernel)]; kernel_rfl) | (rw [if_neg (by decide +kernel)]; exact ⟨rfl, rfl⟩)
theorem joined : joinedFacts Tryz.pinned.checked.prog 10 Tryz.f10 Rows.verifyJoinedSpec Rows.verifyJoinedRow = true := by
  unfold joinedFacts
  rw [Facts.laid, Facts.rowed, Facts.heard, Facts.entered, Facts.keys, Facts.lifts]
  kernel_rfl
end LawJoined
end Go.Proofs.YthafeadfpfibkaaGreatDoor
