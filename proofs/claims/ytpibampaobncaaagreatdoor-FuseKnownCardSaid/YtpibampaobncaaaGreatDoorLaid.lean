/- What the listed variables give; a world that meets the list; small pieces of the frame. -/
import Derived.Test.YtpibampaobncaaaGreatDoorErrQ
import Derived.Test.YtpibampaobncaaaGreatDoorOpenQ
import Derived.Test.YtpibampaobncaaaGreatDoorCards
import Derived.Test.YtpibampaobncaaaGreatDoorTie
import Derived.OpenShut
import Derived.ChangeOld
import Derived.LaidMore
import Derived.LaidHandle
import Derived.Stop.LaidErr
import Derived.Lib.LaidTab
namespace Go.Proofs.YtpibampaobncaaaGreatDoor
open Go.ChangeShapes Go.WideShapes Go.ChangeAt Go.RowKit
namespace Code
def deb64:List Int:=[0,1,56,2,57,49,28,3,61,58,42,50,38,29,17,4,62,47,59,36,45,43,51,22,53,39,33,30,24,18,12,5,63,55,48,27,60,41,37,16,46,35,44,21,52,32,23,11,54,26,40,15,34,20,31,10,25,14,19,9,13,8,7,6]
theorem gDeb:Tryz.prog.globalNamed "math/bits.deBruijn64tab" =some 7:=by kernel_rfl
theorem gPow:Tryz.prog.globalNamed "internal/strconv.uint64pow10" =some 5:=by kernel_rfl
theorem gSpc:Tryz.prog.globalNamed "strings.asciiSpace" =some 1:=by kernel_rfl
theorem gErr:Tryz.prog.globalNamed "errors.errorType" =some 0:=by kernel_rfl
theorem dDeb:(Rows.laid_math_bits_deBruijn64tab:DataW Unit)=Lib.tabData .u8 deb64:=by kernel_rfl
theorem dPow:(Rows.laid_internal_strconv_uint64pow10:DataW Unit)=Lib.tabData .u64 Lib.pow10Tab:=by kernel_rfl
theorem dSpc:(Rows.laid_strings_asciiSpace:DataW Unit)=Lib.tabData .u8 Lib.asciiSpaceTab:=by kernel_rfl
def laid1:List (String×DataW Unit):=[("math/bits.deBruijn32tab",Rows.laid_math_bits_deBruijn32tab),("math/bits.deBruijn64tab",Rows.laid_math_bits_deBruijn64tab),("internal/strconv.uint64pow10",Rows.laid_internal_strconv_uint64pow10),("strconv.ErrRange",Rows.laid_strconv_ErrRange),("strconv.ErrSyntax",Rows.laid_strconv_ErrSyntax),("unicode.White_Space",Rows.laid_unicode_White_Space),("strings.asciiSpace",Rows.laid_strings_asciiSpace)]
theorem tabs_laid{W:World}(h:laidMet Tryz.prog laid1 W):Tabs W:=by
 have h2:=laidMet.tail h;have h3:=laidMet.tail h2;have h7:=laidMet.tail (laidMet.tail (laidMet.tail (laidMet.tail h3)));rw[dDeb]at h2;rw[dPow]at h3;rw[dSpc]at h7;have t2:=Lib.tabIs_of_head gDeb (t:=267) (by kernel_rfl) Tryz.underlying267 Tryz.underlying5 (by kernel_rfl) (by kernel_rfl) h2;have t3:=Lib.tabIs_of_head gPow (t:=257) (by kernel_rfl) Tryz.underlying257 Tryz.underlying23 (by kernel_rfl) (by kernel_rfl) h3;have t7:=Lib.tabIs_of_head gSpc (t:=192) (by kernel_rfl) Tryz.underlying192 Tryz.underlying5 (by kernel_rfl) (by kernel_rfl) h7;exact⟨t3,t7,t2.cell gDeb 15 (by decide)⟩
def laid2:List (String×DataW Unit):=[("math/bits.deBruijn32tab",Rows.laid_math_bits_deBruijn32tab),("math/bits.deBruijn64tab",Rows.laid_math_bits_deBruijn64tab),("internal/strconv.uint64pow10",Rows.laid_internal_strconv_uint64pow10),("errors.errorType",Rows.laid_errors_errorType),("strconv.ErrRange",Rows.laid_strconv_ErrRange),("strconv.ErrSyntax",Rows.laid_strconv_ErrSyntax),("unicode.White_Space",Rows.laid_unicode_White_Space),("strings.asciiSpace",Rows.laid_strings_asciiSpace)]
theorem parts2{W:World}(h:laidMetH Tryz.prog laid2 W):laidMet Tryz.prog laid1 W∧handlesMet Tryz.prog [("errors.errorType",Rows.laid_errors_errorType)] W:=h
theorem rtE:(Tryz.prog.cutTypes.find? (·.1== "internal/reflectlite.rtype")).map (·.2)=some 167:=by kernel_rfl
theorem oneE:((List.range Tryz.prog.types.size).filter fun t=>Tryz.prog.rowNamed t [101,114,114,111,114])=[38]:=by kernel_rfl
theorem errVar_laid{W:World}(h:laidMetH Tryz.prog laid2 W):ErrVar W:=by
 obtain⟨name,u,ty,e1,e2,e3,e4,e5⟩:=(parts2 h).2 _ (List.mem_singleton.2 rfl);have en:name=[101,114,114,111,114]:=(Option.some.inj e1).symm;subst en;obtain rfl:=Option.some.inj (rtE.symm.trans e2)
 have hm:ty∈(List.range Tryz.prog.types.size).filter fun t=>Tryz.prog.rowNamed t [101,114,114,111,114]:=List.mem_filter.2 ⟨List.mem_range.2 e3,e4⟩
 rw[oneE]at hm;obtain rfl:=List.mem_singleton.1 hm
 have hh:typeHandle Tryz.prog 38= .pointer (some ⟨9,38,none⟩):=by kernel_rfl
 rw[hh]at e5;unfold ErrVar;simpa using World.var?_cell gErr e5 0
theorem own:ownKnob Tryz.prog.godebug=none:=by kernel_rfl
theorem laidOut:laidOutB Tryz.prog=true:=by kernel_rfl
end Code
end Go.Proofs.YtpibampaobncaaaGreatDoor
