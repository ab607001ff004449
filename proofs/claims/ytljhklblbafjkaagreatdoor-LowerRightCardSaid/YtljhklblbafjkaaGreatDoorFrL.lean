/- What the listed variables give; a world that meets the list; small pieces of the frame. -/
import Derived.Test.YtljhklblbafjkaaGreatDoorLwO
import Derived.Test.YtljhklblbafjkaaGreatDoorOpen
import Derived.Test.YtljhklblbafjkaaGreatDoorCards
import Derived.Test.YtljhklblbafjkaaGreatDoorTie
import Derived.OpenShut
import Derived.ChangeOld
import Derived.LaidMore
import Derived.LaidHandle
import Derived.Stop.LaidErr
import Derived.Lib.LaidTab
import Derived.Lib.LaidU8T
import Derived.PinnedBridge
import Derived.MakeChecks
import Derived.Lay
import Derived.Test.YtljhklblbafjkaaGreatDoorErrW
namespace Go.Proofs.YtljhklblbafjkaaGreatDoor
open Go.ChangeShapes Go.WideShapes Go.ChangeAt Go.RowKit
namespace Code
def deb64:List Int:=[0,1,56,2,57,49,28,3,61,58,42,50,38,29,17,4,62,47,59,36,45,43,51,22,53,39,33,30,24,18,12,5,63,55,48,27,60,41,37,16,46,35,44,21,52,32,23,11,54,26,40,15,34,20,31,10,25,14,19,9,13,8,7,6]
theorem gDeb:Tryz.prog.globalNamed "math/bits.deBruijn64tab" =some 9:=by kernel_rfl
theorem gPow:Tryz.prog.globalNamed "internal/strconv.uint64pow10" =some 7:=by kernel_rfl
theorem gSpc:Tryz.prog.globalNamed "strings.asciiSpace" =some 1:=by kernel_rfl
theorem dDeb:(Rows.laid_math_bits_deBruijn64tab:DataW Unit)=Lib.tabData .u8 deb64:=by kernel_rfl
theorem dPow:(Rows.laid_internal_strconv_uint64pow10:DataW Unit)=Lib.tabData .u64 Lib.pow10Tab:=by kernel_rfl
theorem dSpc:(Rows.laid_strings_asciiSpace:DataW Unit)=Lib.tabData .u8 Lib.asciiSpaceTab:=by kernel_rfl
theorem dAcc:(Rows.laid_unicode_utf8_acceptRanges:DataW Unit)=Lib.acceptData:=by kernel_rfl
theorem dFst:(Rows.laid_unicode_utf8_first:DataW Unit)=Lib.firstData:=Go.Pinned.utf8First_eq
def laid3:List (String×DataW Unit):=[("math/bits.deBruijn32tab",Rows.laid_math_bits_deBruijn32tab),("math/bits.deBruijn64tab",Rows.laid_math_bits_deBruijn64tab),("internal/strconv.uint64pow10",Rows.laid_internal_strconv_uint64pow10),("unicode/utf8.acceptRanges",Rows.laid_unicode_utf8_acceptRanges),("strconv.ErrRange",Rows.laid_strconv_ErrRange),("strconv.ErrSyntax",Rows.laid_strconv_ErrSyntax),("unicode.White_Space",Rows.laid_unicode_White_Space),("strings.asciiSpace",Rows.laid_strings_asciiSpace),("unicode/utf8.first",Rows.laid_unicode_utf8_first)]
theorem tabs_laid{W:World}(h:laidMet Tryz.prog laid3 W):Tabs W:=by
 have h2:=laidMet.tail h;have h3:=laidMet.tail h2;have h7:=laidMet.tail (laidMet.tail (laidMet.tail (laidMet.tail (laidMet.tail h3))));rw[dDeb]at h2;rw[dPow]at h3;rw[dSpc]at h7;have t2:=Lib.tabIs_of_head gDeb (t:=313) (by kernel_rfl) Tryz.underlying313 Tryz.underlying5 (by kernel_rfl) (by kernel_rfl) h2;have t3:=Lib.tabIs_of_head gPow (t:=303) (by kernel_rfl) Tryz.underlying303 Tryz.underlying49 (by kernel_rfl) (by kernel_rfl) h3;have t7:=Lib.tabIs_of_head gSpc (t:=240) (by kernel_rfl) Tryz.underlying240 Tryz.underlying5 (by kernel_rfl) (by kernel_rfl) h7;exact⟨t3,t7,t2.cell gDeb 15 (by decide)⟩
theorem utabs_laid{W:World}(h:laidMet Tryz.prog laid3 W):UTabs W:=by
 have h4:laidMet Tryz.prog _ W:=laidMet.tail (laidMet.tail (laidMet.tail h));have h9:laidMet Tryz.prog _ W:=laidMet.tail (laidMet.tail (laidMet.tail (laidMet.tail (laidMet.tail h4))));rw[dAcc]at h4;rw[dFst]at h9;exact utf8Tabs_of_readsT (U8Types.of196 Tryz.validS) ⟨by kernel_rfl,by kernel_rfl,by kernel_rfl,by kernel_rfl,by kernel_rfl,by kernel_rfl,by kernel_rfl⟩ (Lib.laidMet.reads h9 (.head _)) (Lib.laidMet.reads h4 (.head _))
theorem own:ownKnob Tryz.prog.godebug=none:=by kernel_rfl
theorem laidOut:laidOutB Tryz.prog=true:=by kernel_rfl
structure LReady(w:World):Prop where
 tabs:Tabs w
 utf8:UTabs w
end Code
end Go.Proofs.YtljhklblbafjkaaGreatDoor
namespace Go.Proofs.YtljhklblbafjkaaGreatDoor
open Go.ChangeShapes Go.WideShapes Go.ChangeAt Go.RowKit
namespace Code
theorem below_trodAll{H:Type}{enc:TypeId×Value→H}{P:Program}(hl:laidOutB P=true){W W':World}(hb:Below W.heap.size W W'):
    ∀(ts:List TypeId) (vs:List Value) (ds:List (DataW H)) (ps:List MemPlace),(ts.all fun t=>P.readableRec t&&decide (t<P.types.size))=true→
     DataW.TrodAll enc P W 0 (fun _=>true) true ts vs ds ps→(∀x∈ps,x.block<W.heap.size)→DataW.TrodAll enc P W' 0 (fun b=>decide (b<W.heap.size)) true ts vs ds ps
 | [],vs,ds,ps,_,h,_=>by
  obtain⟨rfl,rfl,rfl⟩:=trodAll_nil h;exact trodAll_mk0
 | t::ts,vs,ds,ps,ht,h,hlt=>by
  obtain⟨v,vs',d,ds',p,q,rfl,rfl,rfl,h0,hr⟩:=trodAll_cons h;simp only[List.all_cons,Bool.and_eq_true,decide_eq_true_eq]at ht
  exact trodAll_cons_mk (Below.trod hl ht.1.1 ht.1.2 h0 hb (fun x hx=>hlt x (List.mem_append_left _ hx)))
   (below_trodAll hl hb ts vs' ds' q (by simpa using ht.2) hr (fun x hx=>hlt x (List.mem_append_right _ hx)))
theorem trodAll_lt{H:Type}{enc:TypeId×Value→H}{P:Program}{W:World}:∀(ts:List TypeId) (vs:List Value) (ds:List (DataW H)) (ps:List MemPlace),
    DataW.TrodAll enc P W 0 (fun _=>true) true ts vs ds ps→∀x∈ps,x.block<W.heap.size
 | [],vs,ds,ps,h=>by
  obtain⟨rfl,rfl,rfl⟩:=trodAll_nil h;intro x hx;cases hx
 | t::ts,vs,ds,ps,h=>by
  obtain⟨v,vs',d,ds',p,q,rfl,rfl,rfl,h0,hr⟩:=trodAll_cons h;intro x hx;rcases List.mem_append.1 hx with hx | hx
  ·obtain⟨fuel,hf⟩:=h0
   have:=DataW.trod_lt fuel _ _ _ hf;exact this x hx
  ·exact trodAll_lt ts vs' ds' q hr x hx
end Code
end Go.Proofs.YtljhklblbafjkaaGreatDoor
namespace Go.Proofs.YtljhklblbafjkaaGreatDoor
open Go.ChangeShapes Go.WideShapes Go.ChangeAt Go.RowKit
namespace Code
end Code
end Go.Proofs.YtljhklblbafjkaaGreatDoor
namespace Go.Proofs.YtljhklblbafjkaaGreatDoor
open Go.ChangeShapes Go.WideShapes Go.ChangeAt Go.RowKit
namespace Code
theorem gErr:Tryz.prog.globalNamed "errors.errorType" =some 0:=by kernel_rfl
def laid4:List (String×DataW Unit):=[("math/bits.deBruijn32tab",Rows.laid_math_bits_deBruijn32tab),("math/bits.deBruijn64tab",Rows.laid_math_bits_deBruijn64tab),("internal/strconv.uint64pow10",Rows.laid_internal_strconv_uint64pow10),("unicode/utf8.acceptRanges",Rows.laid_unicode_utf8_acceptRanges),("errors.errorType",Rows.laid_errors_errorType),("strconv.ErrRange",Rows.laid_strconv_ErrRange),("strconv.ErrSyntax",Rows.laid_strconv_ErrSyntax),("unicode.White_Space",Rows.laid_unicode_White_Space),("strings.asciiSpace",Rows.laid_strings_asciiSpace),("unicode/utf8.first",Rows.laid_unicode_utf8_first)]
theorem parts4{W:World}(h:laidMetH Tryz.prog laid4 W):laidMet Tryz.prog laid3 W∧handlesMet Tryz.prog [("errors.errorType",Rows.laid_errors_errorType)] W:=h
theorem rtE:(Tryz.prog.cutTypes.find? (·.1== "internal/reflectlite.rtype")).map (·.2)=some 212:=by kernel_rfl
theorem oneE:((List.range Tryz.prog.types.size).filter fun t=>Tryz.prog.rowNamed t [101,114,114,111,114])=[32]:=by kernel_rfl
structure RReady(w:World):Prop where
 tabs:Tabs w
 utf8:UTabs w
 err:ErrVar w
theorem rready_laid4{W:World}(h:laidMetH Tryz.prog laid4 W):RReady W:=by
 refine⟨tabs_laid (parts4 h).1,utabs_laid (parts4 h).1, ?_⟩;obtain⟨name,u,ty,e1,e2,e3,e4,e5⟩:=(parts4 h).2 _ (List.mem_singleton.2 rfl);have en:name=[101,114,114,111,114]:=(Option.some.inj e1).symm;subst en;obtain rfl:=Option.some.inj (rtE.symm.trans e2)
 have hm:ty∈(List.range Tryz.prog.types.size).filter fun t=>Tryz.prog.rowNamed t [101,114,114,111,114]:=List.mem_filter.2 ⟨List.mem_range.2 e3,e4⟩
 rw[oneE]at hm;obtain rfl:=List.mem_singleton.1 hm
 have hh:typeHandle Tryz.prog 32= .pointer (some ⟨11,32,none⟩):=by kernel_rfl
 rw[hh]at e5;unfold ErrVar;simpa using World.var?_cell gErr e5 0
noncomputable def errWorld (os:Os):World:=(World.holding Tryz.prog os ⟨#[],#[],[]⟩).setCell ⟨0,0,none⟩ (.iface 212 (.agg #[.pointer (some ⟨11,32,none⟩)]))
noncomputable def laidWorld4 (os:Os):World:=(errWorld os).layVars Tryz.prog laid3
theorem laidWorld4_os(os:Os):(laidWorld4 os).os=os:=(World.layVars_os _ _ _).trans rfl
theorem door_met4(os:Os)(args:Array Value):laidMetH Tryz.prog laid4 ((laidWorld4 os).forCall (fun _ _=>0) ⟨#[],args,[]⟩).memory:=by
 have e1:(laid3.filter fun x=>(laid3.map (·.1)).contains x.1)=laid3:=List.filter_eq_self.2 fun x hx=>List.contains_iff_mem.2 (List.mem_map.2 ⟨x,hx,rfl⟩)
 have e2:(laid3.filter fun x=> !(laid3.map (·.1)).contains x.1)=[]:=List.filter_eq_nil_iff.2 fun x hx=>by rw[List.contains_iff_mem.2 (List.mem_map.2 ⟨x,hx,rfl⟩)];simp
 have h:laidMet Tryz.prog laid3 (laidWorld4 os):=laidMet_layVars (w0:=errWorld os) (laid3.map (·.1)) [] (by rw[e1];rfl) (by rw[e1];kernel_rfl) (by rw[e1];kernel_rfl) (by rw[e2];exact LaidIn.none);refine laidMetH_of_parts (h.of_heap ?_) ?_
 ·simp[World.memory,World.forCall,Input.heap]
 ·kernel_rfl
end Code
end Go.Proofs.YtljhklblbafjkaaGreatDoor
