/- busbarlaw14: VmKnown, by the laws as contracts. -/
import Derived.Test.YtmpeipdeablkdaaGreatDoorVkD
namespace Go.Proofs.YtmpeipdeablkdaaGreatDoor
open Go.RowKit

namespace Code

attribute [local go_sem ↓] Go.wp_at_zero Go.wp_at_succ

theorem vmKnown14_any (hL : RunsLaw) (hE : EndsLaw) (hB : BytesLaw) (hBe : BehindLaw) (hSk : SkipsLaw) (hNa : NamedLaw) (w : World) (hR : Ready w) : Calls Tryz.prog 4 #[] w (BoolOut true w) := by
 have HR := Lib.hid hR
 have HL := Lib.hid hL
 have HE := Lib.hid hE
 have HBy := Lib.hid hB
 have HBe := Lib.hid hBe
 have HSk := Lib.hid hSk
 have HNa := Lib.hid hNa
 clear hR hL hE hB hBe hSk hNa
 go_enter Tryz.func4, Tryz.ntmps4
 go_wp2_with fail
 refine (knownSaid14_any w HR.out.tabs).mono ?_
 rintro e w1 ⟨rfl, hb1⟩
 have HB1 := Lib.hid hb1
 clear hb1
 go_wp2_with fail
 refine (knownOps14_any HL.out HE.out w1 (HR.out.below HB1.out (Nat.le_refl _))).mono ?_
 rintro e w2 ⟨rfl, hb2⟩
 have HB2 := Lib.hid (HB1.out.trans (hb2.mono HB1.out.size))
 clear hb2
 go_wp2_with fail
 refine (knownBytes14_any HL.out HBy.out w2 (HR.out.below HB2.out (Nat.le_refl _))).mono ?_
 rintro e w3 ⟨rfl, hb3⟩
 have HB3 := Lib.hid (HB2.out.trans (hb3.mono HB2.out.size))
 clear hb3
 go_wp2_with fail
 refine (knownWays14_any HL.out HBe.out HSk.out HNa.out w3 (HR.out.below HB3.out (Nat.le_refl _))).mono ?_
 rintro e w4 ⟨rfl, hb4⟩
 have HB4 := Lib.hid (HB3.out.trans (hb4.mono HB3.out.size))
 clear hb4
 go_wp2_with fail
 go_ret
 exact ⟨rfl, HB4.out⟩

end Code
end Go.Proofs.YtmpeipdeablkdaaGreatDoor
