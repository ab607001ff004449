/- The closed facts of 'LiveDrops', each by itself. -/
import Derived.Test.YtgjeifcmgfmgeaaGreatDoorFacts
namespace Go.Proofs.YtgjeifcmgfmgeaaGreatDoor
namespace LawLiveDrops
theorem found : Tryz.pinned.checked.prog.funcNamed Rows.liveDropsRow.func = some 3 := by kernel_rfl
theorem instanced : Tryz.f3.isInstance Tryz.pinned.checked.prog Rows.liveDropsRow.origin Rows.liveDropsRow.targs := of_decide_eq_true (by kernel_rfl)
theorem wrapped : Tryz.f3.isWrapper Tryz.pinned.checked.prog Rows.liveDropsRow.wrapper Rows.liveDropsRow.mainSum := by unfold Func.isWrapper; first | (rw [if_pos (by decide +kernel)]; kernel_rfl) | (rw [if_neg (by decide +kernel)]; exact ⟨rfl, rfl⟩)
theorem joined : joinedFacts Tryz.pinned.checked.prog 3 Tryz.f3 Rows.liveDropsSpec Rows.liveDropsRow = true := by
 unfold joinedFacts
 rw [Facts.laid, Facts.rowed, Facts.heard, Facts.entered, Facts.keys, Facts.lifts]
 kernel_rfl
end LawLiveDrops
end Go.Proofs.YtgjeifcmgfmgeaaGreatDoor
