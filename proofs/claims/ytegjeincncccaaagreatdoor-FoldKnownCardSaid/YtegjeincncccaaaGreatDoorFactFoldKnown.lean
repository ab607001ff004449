/- The closed facts of 'FoldKnown', each by itself. -/
import Derived.Test.YtegjeincncccaaaGreatDoorFacts
namespace Go.Proofs.YtegjeincncccaaaGreatDoor
namespace LawFoldKnown
theorem found : Tryz.pinned.checked.prog.funcNamed Rows.foldKnownRow.func = some 3 := by kernel_rfl
theorem instanced : Tryz.f3.isInstance Tryz.pinned.checked.prog Rows.foldKnownRow.origin Rows.foldKnownRow.targs := of_decide_eq_true (by kernel_rfl)
theorem wrapped : Tryz.f3.isWrapper Tryz.pinned.checked.prog Rows.foldKnownRow.wrapper Rows.foldKnownRow.mainSum := by unfold Func.isWrapper; first | (rw [if_pos (by decide +kernel)]; kernel_rfl) | (rw [if_neg (by decide +kernel)]; exact ⟨rfl, rfl⟩)
theorem joined : joinedFacts Tryz.pinned.checked.prog 3 Tryz.f3 Rows.foldKnownSpec Rows.foldKnownRow = true := by
 unfold joinedFacts
 rw [Facts.laid, Facts.rowed, Facts.heard, Facts.entered, Facts.keys, Facts.lifts]
 kernel_rfl
end LawFoldKnown
end Go.Proofs.YtegjeincncccaaaGreatDoor
