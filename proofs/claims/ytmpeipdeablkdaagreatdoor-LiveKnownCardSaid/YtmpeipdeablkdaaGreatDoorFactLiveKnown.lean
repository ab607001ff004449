/- The closed facts of 'LiveKnown', each by itself. -/
import Derived.Test.YtmpeipdeablkdaaGreatDoorFacts
namespace Go.Proofs.YtmpeipdeablkdaaGreatDoor
namespace LawLiveKnown
theorem found : Tryz.pinned.checked.prog.funcNamed Rows.liveKnownRow.func = some 6 := by kernel_rfl
theorem instanced : Tryz.f6.isInstance Tryz.pinned.checked.prog Rows.liveKnownRow.origin Rows.liveKnownRow.targs := of_decide_eq_true (by kernel_rfl)
theorem wrapped : Tryz.f6.isWrapper Tryz.pinned.checked.prog Rows.liveKnownRow.wrapper Rows.liveKnownRow.mainSum := by unfold Func.isWrapper; first | (rw [if_pos (by decide +kernel)]; kernel_rfl) | (rw [if_neg (by decide +kernel)]; exact ⟨rfl, rfl⟩)
theorem joined : joinedFacts Tryz.pinned.checked.prog 6 Tryz.f6 Rows.liveKnownSpec Rows.liveKnownRow = true := by
 unfold joinedFacts
 rw [Facts.laid, Facts.rowed, Facts.heard, Facts.entered, Facts.keys, Facts.lifts]
 kernel_rfl
end LawLiveKnown
end Go.Proofs.YtmpeipdeablkdaaGreatDoor
