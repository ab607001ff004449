/- The closed facts of 'FuseKnown', each by itself. -/
import Derived.Test.YtpibampaobncaaaGreatDoorFacts
namespace Go.Proofs.YtpibampaobncaaaGreatDoor
namespace LawFuseKnown
theorem found:Tryz.pinned.checked.prog.funcNamed Rows.fuseKnownRow.func=some 3:=by kernel_rfl
theorem instanced:Tryz.f3.isInstance Tryz.pinned.checked.prog Rows.fuseKnownRow.origin Rows.fuseKnownRow.targs:=of_decide_eq_true (by kernel_rfl)
theorem wrapped:Tryz.f3.isWrapper Tryz.pinned.checked.prog Rows.fuseKnownRow.wrapper Rows.fuseKnownRow.mainSum:=by unfold Func.isWrapper;first | (rw[if_pos (by decide+kernel)];kernel_rfl) | (rw[if_neg (by decide+kernel)];exact⟨rfl,rfl⟩)
theorem joined:joinedFacts Tryz.pinned.checked.prog 3 Tryz.f3 Rows.fuseKnownSpec Rows.fuseKnownRow=true:=by
 unfold joinedFacts;rw[Facts.laid,Facts.rowed,Facts.heard,Facts.entered,Facts.keys,Facts.lifts]
 kernel_rfl
end LawFuseKnown
end Go.Proofs.YtpibampaobncaaaGreatDoor
