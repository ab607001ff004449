/- What the listed variables give; a world that meets the list; small pieces of the frame. -/
import Derived.Test.YtdpjbnjlognmeaaGreatDoorLwO
import Derived.Test.YtdpjbnjlognmeaaGreatDoorOpen
import Derived.Test.YtdpjbnjlognmeaaGreatDoorCards
import Derived.Test.YtdpjbnjlognmeaaGreatDoorTie
import Derived.OpenShut
import Derived.ChangeOld
import Derived.LaidMore
import Derived.LaidHandle
import Derived.Stop.LaidErr
import Derived.Lib.LaidTab
import Derived.Lib.LaidU8T
import Derived.PinnedBridge
namespace Go.Proofs.YtdpjbnjlognmeaaGreatDoor
open Go.ChangeShapes Go.WideShapes Go.ChangeAt Go.RowKit

namespace Code

def deb64 : List Int := [0, 1, 56, 2, 57, 49, 28, 3, 61, 58, 42, 50, 38, 29, 17, 4, 62, 47, 59, 36, 45, 43, 51, 22, 53, 39, 33, 30, 24, 18, 12, 5, 63, 55, 48, 27, 60, 41, 37, 16, 46, 35, 44, 21, 52, 32, 23, 11, 54, 26, 40, 15, 34, 20, 31, 10, 25, 14, 19, 9, 13, 8, 7, 6]

theorem gDeb : Tryz.prog.globalNamed "math/bits.deBruijn64tab" = some 8 := by kernel_rfl
theorem gPow : Tryz.prog.globalNamed "internal/strconv.uint64pow10" = some 6 := by kernel_rfl
theorem gSpc : Tryz.prog.globalNamed "strings.asciiSpace" = some 2 := by kernel_rfl
theorem dDeb : (Rows.laid_math_bits_deBruijn64tab : DataW Unit) = Lib.tabData .u8 deb64 := by kernel_rfl
theorem dPow : (Rows.laid_internal_strconv_uint64pow10 : DataW Unit) = Lib.tabData .u64 Lib.pow10Tab := by kernel_rfl
theorem dSpc : (Rows.laid_strings_asciiSpace : DataW Unit) = Lib.tabData .u8 Lib.asciiSpaceTab := by kernel_rfl

theorem dAcc : (Rows.laid_unicode_utf8_acceptRanges : DataW Unit) = Lib.acceptData := by kernel_rfl
theorem dFst : (Rows.laid_unicode_utf8_first : DataW Unit) = Lib.firstData := Go.Pinned.utf8First_eq

/-- the list of the laws of lower -/
def laid3 : List (String × DataW Unit) := [("math/bits.deBruijn32tab", Rows.laid_math_bits_deBruijn32tab), ("math/bits.deBruijn64tab", Rows.laid_math_bits_deBruijn64tab), ("internal/strconv.uint64pow10", Rows.laid_internal_strconv_uint64pow10), ("unicode/utf8.acceptRanges", Rows.laid_unicode_utf8_acceptRanges), ("strconv.ErrRange", Rows.laid_strconv_ErrRange), ("strconv.ErrSyntax", Rows.laid_strconv_ErrSyntax), ("unicode.White_Space", Rows.laid_unicode_White_Space), ("strings.asciiSpace", Rows.laid_strings_asciiSpace), ("unicode/utf8.first", Rows.laid_unicode_utf8_first)]

theorem tabs_laid {W : World} (h : laidMet Tryz.prog laid3 W) : Tabs W := by
 have h2 := laidMet.tail h
 have h3 := laidMet.tail h2
 have h7 := laidMet.tail (laidMet.tail (laidMet.tail (laidMet.tail (laidMet.tail h3))))
 rw [dDeb] at h2
 rw [dPow] at h3
 rw [dSpc] at h7
 have t2 := Lib.tabIs_of_head gDeb (t := 257) (by kernel_rfl) Tryz.underlying257 Tryz.underlying5 (by kernel_rfl) (by kernel_rfl) h2
 have t3 := Lib.tabIs_of_head gPow (t := 247) (by kernel_rfl) Tryz.underlying247 Tryz.underlying35 (by kernel_rfl) (by kernel_rfl) h3
 have t7 := Lib.tabIs_of_head gSpc (t := 147) (by kernel_rfl) Tryz.underlying147 Tryz.underlying5 (by kernel_rfl) (by kernel_rfl) h7
 exact ⟨t3, t7, t2.cell gDeb 15 (by decide)⟩

theorem utabs_laid {W : World} (h : laidMet Tryz.prog laid3 W) : UTabs W := by
 have h4 : laidMet Tryz.prog _ W := laidMet.tail (laidMet.tail (laidMet.tail h))
 have h9 : laidMet Tryz.prog _ W := laidMet.tail (laidMet.tail (laidMet.tail (laidMet.tail (laidMet.tail h4))))
 rw [dAcc] at h4
 rw [dFst] at h9
 exact utf8Tabs_of_readsT (U8Types.of196 Tryz.validS) ⟨by kernel_rfl, by kernel_rfl, by kernel_rfl, by kernel_rfl, by kernel_rfl, by kernel_rfl, by kernel_rfl⟩ (Lib.laidMet.reads h9 (.head _)) (Lib.laidMet.reads h4 (.head _))

theorem own : ownKnob Tryz.prog.godebug = none := by kernel_rfl
theorem laidOut : laidOutB Tryz.prog = true := by kernel_rfl

/-- what the listed variables give -/
structure LReady (w : World) : Prop where
 tabs : Tabs w
 utf8 : UTabs w

end Code
end Go.Proofs.YtdpjbnjlognmeaaGreatDoor
