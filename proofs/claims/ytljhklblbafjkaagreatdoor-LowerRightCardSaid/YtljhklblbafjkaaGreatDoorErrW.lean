/- Go's library: errors.As at a place for the program's Fault: closed facts. -/
import Derived.Test.YtljhklblbafjkaaGreatDoorErrQ
import Derived.Deep.MidRow
import Derived.Test.YtljhklblbafjkaaGreatDoorNdQ
import Derived.Deep.RegionHeld3
open Go.Lib renaming hid→hd'
open Nat renaming le_refl→lR'
namespace Go.Proofs.YtljhklblbafjkaaGreatDoor
open Go.RowKit Go.Extern.Stop Go.Stop Go.Extern
namespace Code
abbrev hd(t:Nat):Value:=.agg #[.pointer (some ⟨11,t,none⟩)]
theorem valueOfP(t:Addr)(w:World):(ReflectliteValue.unpack (.iface 118 (.pointer (some t)))).run Tryz.prog w
    = .ok (.agg #[.pointer (some ⟨11,118,none⟩),.pointer (some ⟨w.heap.size,0,none⟩),.int .u64 150]) (w.alloc (.cells #[.pointer (some t)] 118)):=by kernel_rfl
theorem typeP(a:Addr)(w:World):(ReflectliteValue.methodAny (ReflectliteValue.valueError "reflectlite.Value.Type" 0) (fun t _ _ _=>ReflectliteType.toType t) #[.agg #[.pointer (some ⟨11,118,none⟩),.pointer (some a),.int .u64 150]]).run Tryz.prog w
    = .ok (.iface 212 (.agg #[.pointer (some ⟨11,118,none⟩)])) w:=by kernel_rfl
theorem methodKind(h:Value)(w:World):(Go.method 441 212 (.agg #[h]) "Kind").run Tryz.prog w= .ok (240,h) w:=by kernel_rfl
theorem kindP(w:World):((ReflectliteType.abiMethod fun t=>(fun a:Nat=>Value.int IntKind.u8 (a:Int))<$>Rtype.kind t) #[.pointer (some ⟨11,118,none⟩)]).run Tryz.prog w= .ok (.int .u8 22) w:=by kernel_rfl
theorem kindF(w:World):((ReflectliteType.abiMethod fun t=>(fun a:Nat=>Value.int IntKind.u8 (a:Int))<$>Rtype.kind t) #[.pointer (some ⟨11,116,none⟩)]).run Tryz.prog w= .ok (.int .u8 25) w:=by kernel_rfl
theorem rlm(z:Sem Value)(f:TypeId→Addr→Nat→Nat→Sem Value)(v:Value):
    ReflectliteValue.method z f #[v]=(do match←ReflectliteValue.parts v with | none=>z | some (t,a,fl)=>f t a fl (fl%32)):=rfl
theorem partsP(a:Addr)(w:World):(ReflectliteValue.parts (.agg #[.pointer (some ⟨11,118,none⟩),.pointer (some a),.int .u64 150])).run Tryz.prog w= .ok (some (118,a,150)) w:=by kernel_rfl
theorem isNilP(a p:Addr)(W:World)(ha:W.cell? a=some (.pointer (some p))):
    (ReflectliteValue.method (ReflectliteValue.valueError "reflectlite.Value.IsNil" 0) ReflectliteValue.isNil #[.agg #[.pointer (some ⟨11,118,none⟩),.pointer (some a),.int .u64 150]]).run Tryz.prog W= .ok (.bool false) W:=by
 rw[rlm];simp only[Sem.run_bind,partsP,Result.andThen];simp[ReflectliteValue.isNil,loadVar,isAgg,underlying,Tryz.underlying118,ha,Result.andThen]
theorem methodElem(h:Value)(w:World):(Go.method 441 212 (.agg #[h]) "Elem").run Tryz.prog w= .ok (253,.agg #[h]) w:=by kernel_rfl
theorem methodImplements(h:Value)(w:World):(Go.method 441 212 (.agg #[h]) "Implements").run Tryz.prog w= .ok (254,.agg #[h]) w:=by kernel_rfl
theorem methodAssignableTo(h:Value)(w:World):(Go.method 441 212 (.agg #[h]) "AssignableTo").run Tryz.prog w= .ok (251,.agg #[h]) w:=by kernel_rfl
theorem elemP(w:World):(ReflectliteType.method ReflectliteType.elem #[.agg #[.pointer (some ⟨11,118,none⟩)]]).run Tryz.prog w= .ok (.iface 212 (.agg #[.pointer (some ⟨11,116,none⟩)])) w:=by kernel_rfl
theorem implementsF(w:World):(ReflectliteType.relation "Implements" ReflectliteType.implements_ #[.agg #[.pointer (some ⟨11,116,none⟩)],.iface 212 (.agg #[.pointer (some ⟨11,32,none⟩)])]).run Tryz.prog w= .ok (.bool true) w:=by kernel_rfl
theorem typeOfF(v:Value)(w:World):(ReflectliteType.typeOf #[.iface 116 v]).run Tryz.prog w= .ok (.iface 212 (.agg #[.pointer (some ⟨11,116,none⟩)])) w:=by kernel_rfl
theorem assignableF(w:World):(ReflectliteType.relation "AssignableTo" ReflectliteType.assignableTo #[.agg #[.pointer (some ⟨11,116,none⟩)],.iface 212 (.agg #[.pointer (some ⟨11,116,none⟩)])]).run Tryz.prog w= .ok (.bool true) w:=by kernel_rfl
theorem valueOfF(a b c:Value)(w:World):(ReflectliteValue.unpack (.iface 116 (.agg #[a,b,c]))).run Tryz.prog w
    = .ok (.agg #[.pointer (some ⟨11,116,none⟩),.pointer (some ⟨w.heap.size,0,none⟩),.int .u64 153]) (w.alloc (.cells #[a,b,c] 116)):=by kernel_rfl
theorem elemOfP(w:World):(Rtype.elem? 118).run Tryz.prog w= .ok (some 116) w:=by kernel_rfl
theorem mkF(p:Addr)(w:World):(ReflectliteValue.mk 116 p ReflectliteValue.flagAddr).run Tryz.prog w= .ok (.agg #[.pointer (some ⟨11,116,none⟩),.pointer (some p),.int .u64 409]) w:=by kernel_rfl
theorem elemV(a p:Addr)(W:World)(ha:W.cell? a=some (.pointer (some p))):
    (ReflectliteValue.method (ReflectliteValue.valueError "reflectlite.Value.Elem" 0) ReflectliteValue.elem #[.agg #[.pointer (some ⟨11,118,none⟩),.pointer (some a),.int .u64 150]]).run Tryz.prog W
     = .ok (.agg #[.pointer (some ⟨11,116,none⟩),.pointer (some p),.int .u64 409]) W:=by
 rw[rlm];simp only[Sem.run_bind,partsP,Result.andThen];simp[ReflectliteValue.elem,loadVar,isAgg,underlying,Tryz.underlying118,ha,Result.andThen,elemOfP,mkF]
end Code
end Go.Proofs.YtljhklblbafjkaaGreatDoor
namespace Go.Proofs.YtljhklblbafjkaaGreatDoor
open Go.RowKit Go.Extern.Stop Go.Stop Go.Extern
namespace Code
theorem partsA(a:Addr)(w:World):(ReflectliteValue.parts (.agg #[.pointer (some ⟨11,116,none⟩),.pointer (some a),.int .u64 409])).run Tryz.prog w= .ok (some (116,a,409)) w:=by kernel_rfl
theorem partsF(a:Addr)(w:World):(ReflectliteValue.parts (.agg #[.pointer (some ⟨11,116,none⟩),.pointer (some a),.int .u64 153])).run Tryz.prog w= .ok (some (116,a,153)) w:=by kernel_rfl
theorem directF(w:World):(Rtype.directlyAssignable 116 116).run Tryz.prog w= .ok true w:=by kernel_rfl
theorem sizeF:(Tryz.prog.info? 116).map (·.size)=some 3:=by kernel_rfl
theorem rls(v x:Value):ReflectliteValue.set #[v,x]=(do
    let(some (dst,a,fl),some (src,b,_)):=(←ReflectliteValue.parts v,←ReflectliteValue.parts x)
     | unsupported (.noEntry "extern/(internal/reflectlite.Value).Set.zeroValue")
    if fl/ReflectliteValue.flagAddr%2==0 then unsupported (.noEntry "extern/(internal/reflectlite.Value).Set.unaddressable")
    let val←loadVar src b
    if←Rtype.directlyAssignable dst src then storeVar dst a val
    else if←Rtype.implements dst src then
     if(←Rtype.kind src)==20 then
      match val with
      | .nilIface=>unsupported (.noEntry "extern/reflectlite: a nil value of one interface type handed on as a value of another")
      | _=>storeVar dst a val
     else storeVar dst a (.iface src val)
    else panicString ("reflectlite.Set: value of type " ++(←Rtype.spelt src)++ " is not assignable to type " ++(←Rtype.spelt dst))
    pure (.tuple #[])):=rfl
theorem setF(B b:Nat)(n l i:Int)(o0 o1 o2:Value)(W:World)(hb:W.heap[b]? =some (.cells #[.int .i64 n,.int .i64 l,.int .i64 i] 116 (0,0)))(hB:W.heap[B]? =some (.cells #[o0,o1,o2] 116 (0,0))):
    (ReflectliteValue.set #[.agg #[.pointer (some ⟨11,116,none⟩),.pointer (some ⟨B,0,none⟩),.int .u64 409],.agg #[.pointer (some ⟨11,116,none⟩),.pointer (some ⟨b,0,none⟩),.int .u64 153]]).run Tryz.prog W
     = .ok (.tuple #[]) (W.setCells B 0 [.int .i64 n,.int .i64 l,.int .i64 i]):=by
 have hr:W.rangeAt b 0 [.int .i64 n,.int .i64 l,.int .i64 i]:=fun j v hv=>by rw[cell_of_row _ _ _ _ _ _ hb];simpa using hv
 have hl:=run_loadVar_mid (P:=Tryz.prog) W b 0 116 [.int .i64 n,.int .i64 l,.int .i64 i] _ hr Tryz.underlying116 rfl sizeF
 have ht:W.there B 0 3:=fun j hj=>by
  constructor
  ·rw[cell_of_row _ _ _ _ _ _ hB];simp;omega
  ·exact frozen_blk hB
 have hs:=run_storeVar_mid (P:=Tryz.prog) W B 0 116 #[.int .i64 n,.int .i64 l,.int .i64 i] ht sizeF (by simp[Value.oneCell']);have hl':(loadVar 116 ⟨b,0,none⟩).run Tryz.prog W= .ok (.agg #[.int .i64 n,.int .i64 l,.int .i64 i]) W:=hl;have hs':(storeVar 116 ⟨B,0,none⟩ (.agg #[.int .i64 n,.int .i64 l,.int .i64 i])).run Tryz.prog W= .ok () (W.setCells B 0 [.int .i64 n,.int .i64 l,.int .i64 i]):=hs;rw[rls];simp only[Sem.run_bind,partsA,partsF,Result.andThen];simp[ReflectliteValue.flagAddr,hl',Result.andThen,directF,hs']
def ErrVar(w:World):Prop:=w.cell? ⟨0,0,none⟩=some (.iface 212 (.agg #[.pointer (some ⟨11,32,none⟩)]))
def FaultAt(w:World)(B:Nat)(n l i:Int):Prop:=w.heap[B]? =some (.cells #[.int .i64 n,.int .i64 l,.int .i64 i] 116 (0,0))
def AsYes(B:Nat)(n l i:Int)(w:World)(e:Ending)(w':World):Prop:=e= .returned (.bool true)∧FaultAt w' B n l i∧Below B w w'
theorem faultAt_set{w:World}{B:Nat}{n l i:Int}{o0 o1 o2:Value}(hB:w.heap[B]? =some (.cells #[o0,o1,o2] 116 (0,0))):FaultAt (w.setCells B 0 [.int .i64 n,.int .i64 l,.int .i64 i]) B n l i:=by
 have h1:=blk_setCell (off:=0) hB (.int .i64 n);have h2:=blk_setCell (off:=1) h1 (.int .i64 l);have h3:=blk_setCell (off:=2) h2 (.int .i64 i);exact h3
theorem below_setCells3{w:World}{B:Nat}{a b c:Value}:Below B w (w.setCells B 0 [a,b,c]):=(((Below.refl B w).setCell (lR' _) _).setCell (lR' _) _).setCell (lR' _) _
set_option maxRecDepth 100000 in
set_option maxHeartbeats 4000000 in
theorem as_fault(n l i:Int)(B tb:Nat)(o0 o1 o2:Value)(w:World)(hB:w.heap[B]? =some (.cells #[o0,o1,o2] 116 (0,0)))(htb:w.cell? ⟨tb,0,none⟩=some (.pointer (some ⟨B,0,none⟩))):
    Calls Tryz.prog 101 #[.iface 116 (.agg #[.int .i64 n,.int .i64 l,.int .i64 i]),.iface 118 (.pointer (some ⟨B,0,none⟩)),.agg #[.pointer (some ⟨11,118,none⟩),.pointer (some ⟨tb,0,none⟩),.int .u64 150],.iface 212 (.agg #[.pointer (some ⟨11,116,none⟩)])] w (AsYes B n l i w):=by
 have h10:= @run_callFunc_extern Tryz.prog 102 _ ReflectliteType.typeOf Tryz.func102 (by kernel_rfl) (by kernel_rfl) (by kernel_rfl) (by kernel_rfl);have h35:= @run_callFunc_extern Tryz.prog 251 _ (ReflectliteType.relation "AssignableTo" ReflectliteType.assignableTo) Tryz.func251 (by kernel_rfl) (by kernel_rfl) (by kernel_rfl) (by kernel_rfl);have h6:= @run_callFunc_extern Tryz.prog 98 _ (fun args=>ReflectliteValue.unpack (args.getD 0 (.tuple #[]))) Tryz.func98 (by kernel_rfl) (by kernel_rfl) (by kernel_rfl) (by kernel_rfl)
 have h11:= @run_callFunc_extern Tryz.prog 132 _ (ReflectliteValue.method (ReflectliteValue.valueError "reflectlite.Value.Elem" 0) ReflectliteValue.elem) Tryz.func132 (by kernel_rfl) (by kernel_rfl) (by kernel_rfl) (by kernel_rfl);have h12:= @run_callFunc_extern Tryz.prog 133 _ ReflectliteValue.set Tryz.func133 (by kernel_rfl) (by kernel_rfl) (by kernel_rfl) (by kernel_rfl);have tO:=typeOfF;have mA:=methodAssignableTo;have aF:=assignableF;have vF:=valueOfF;have htl:=World.block_lt_of_cell? w _ htb;have hBl:=lt_of_block hB;have el:=elemV ⟨tb,0,none⟩ ⟨B,0,none⟩ (w.alloc (.cells #[.pointer (some ⟨11,118,none⟩),.pointer (some ⟨tb,0,none⟩),.int .u64 150] 168)) ((World.cell?_alloc_lt _ _ _ htl).trans htb)
 have hB2:=blk_alloc (o:=.cells #[.int .i64 n,.int .i64 l,.int .i64 i] 116) (blk_alloc (o:=.cells #[.pointer (some ⟨11,118,none⟩),.pointer (some ⟨tb,0,none⟩),.int .u64 150] 168) hB);have hnew:=heap_alloc_new (w.alloc (.cells #[.pointer (some ⟨11,118,none⟩),.pointer (some ⟨tb,0,none⟩),.int .u64 150] 168)) (.cells #[.int .i64 n,.int .i64 l,.int .i64 i] 116)
 have hsz:(w.alloc (.cells #[.pointer (some ⟨11,118,none⟩),.pointer (some ⟨tb,0,none⟩),.int .u64 150] 168)).heap.size=w.heap.size+1:=by simp
 rw[hsz]at hnew;have st:=setF B (w.heap.size+1) n l i o0 o1 o2 _ hnew hB2;have HB:=hd' hBl;have HB2:=hd' hB2;clear hnew hB2 hsz hBl;go_enter Tryz.func101,Tryz.ntmps101
 go_wp2
 refine wp_loop_rounds 1 ?_;rw[rounds_succ]
 go_wp2
 go_ret;exact⟨rfl,faultAt_set HB2.out,(((Below.refl B w).alloc (Nat.le_of_lt HB.out) _).alloc (by simp;have:=HB.out;omega) _).trans below_setCells3⟩
end Code
end Go.Proofs.YtljhklblbafjkaaGreatDoor
namespace Go.Proofs.YtljhklblbafjkaaGreatDoor
open Go.RowKit Go.Extern.Stop Go.Stop Go.Extern
namespace Code
set_option maxRecDepth 100000 in
set_option maxHeartbeats 4000000 in
theorem asF_any(n l i:Int)(B:Nat)(o0 o1 o2:Value)(w:World)(hB:w.heap[B]? =some (.cells #[o0,o1,o2] 116 (0,0)))(hg:ErrVar w):
    Calls Tryz.prog 69 #[.iface 116 (.agg #[.int .i64 n,.int .i64 l,.int .i64 i]),.iface 118 (.pointer (some ⟨B,0,none⟩))] w (AsYes B n l i w):=by
 have h6:= @run_callFunc_extern Tryz.prog 98 _ (fun args=>ReflectliteValue.unpack (args.getD 0 (.tuple #[]))) Tryz.func98 (by kernel_rfl) (by kernel_rfl) (by kernel_rfl) (by kernel_rfl);have h7:= @run_callFunc_extern Tryz.prog 99 _ (ReflectliteValue.methodAny (ReflectliteValue.valueError "reflectlite.Value.Type" 0) (fun t _ _ _=>ReflectliteType.toType t)) Tryz.func99 (by kernel_rfl) (by kernel_rfl) (by kernel_rfl) (by kernel_rfl);have h8:= @run_callFunc_extern Tryz.prog 100 _ (ReflectliteValue.method (ReflectliteValue.valueError "reflectlite.Value.IsNil" 0) ReflectliteValue.isNil) Tryz.func100 (by kernel_rfl) (by kernel_rfl) (by kernel_rfl) (by kernel_rfl)
 have h27:= @run_callFunc_extern Tryz.prog 240 _ (ReflectliteType.abiMethod fun t=>do pure (.int .u8 (←Rtype.kind t))) Tryz.func240 (by kernel_rfl) (by kernel_rfl) (by kernel_rfl) (by kernel_rfl);have h37:= @run_callFunc_extern Tryz.prog 253 _ (ReflectliteType.method ReflectliteType.elem) Tryz.func253 (by kernel_rfl) (by kernel_rfl) (by kernel_rfl) (by kernel_rfl);have h38:= @run_callFunc_extern Tryz.prog 254 _ (ReflectliteType.relation "Implements" ReflectliteType.implements_) Tryz.func254 (by kernel_rfl) (by kernel_rfl) (by kernel_rfl) (by kernel_rfl);have f6:=valueOfP;have f7:=typeP;have mK:=methodKind;have mE:=methodElem;have mI:=methodImplements;have kP:=kindP;have kF:=kindF
 have eP:=elemP;have iF:=implementsF;have hBl:=lt_of_block hB;unfold ErrVar at hg;have hgl:=World.block_lt_of_cell? w _ hg;simp only at hgl;have n8:=isNilP ⟨w.heap.size,0,none⟩ ⟨B,0,none⟩ ((w.alloc (.cells #[.pointer (some ⟨B,0,none⟩)] 118)).alloc (.cells #[.pointer (some ⟨11,118,none⟩),.pointer (some ⟨w.heap.size,0,none⟩),.int .u64 150] 168)) (by simp);have hB2:=blk_alloc (o:=.cells #[.pointer (some ⟨11,118,none⟩),.pointer (some ⟨w.heap.size,0,none⟩),.int .u64 150] 168) (blk_alloc (o:=.cells #[.pointer (some ⟨B,0,none⟩)] 118) hB)
 have htb:((w.alloc (.cells #[.pointer (some ⟨B,0,none⟩)] 118)).alloc (.cells #[.pointer (some ⟨11,118,none⟩),.pointer (some ⟨w.heap.size,0,none⟩),.int .u64 150] 168)).cell? ⟨w.heap.size,0,none⟩=some (.pointer (some ⟨B,0,none⟩)):=by simp
 have HB:=hd' hBl;have HB2:=hd' hB2;have HTB:=hd' htb;clear hB hB2 htb hBl;go_enter Tryz.func69,Tryz.ntmps69;go_wp2_with (go_at_call 101;refine(as_fault _ _ _ _ _ _ _ _ _ HB2.out HTB.out).mono ?_;rintro e w1 ⟨rfl,hf1,hb1⟩);go_ret;exact⟨rfl,hf1,(((Below.refl B w).alloc (Nat.le_of_lt HB.out) _).alloc (by have:=HB.out;simp;omega) _).trans hb1⟩
end Code
end Go.Proofs.YtljhklblbafjkaaGreatDoor
namespace Go.Proofs.YtljhklblbafjkaaGreatDoor
open Go.RowKit
namespace Code
attribute [local go_sem ↓] Go.wp_at_zero Go.wp_at_succ
theorem ErrVar.below{N:Nat}{w w':World}(h:ErrVar w)(hb:Below N w w')(hN:w.heap.size≤N):ErrVar w':=
 (hb.cell (p:=⟨0,0,none⟩) (Nat.lt_of_lt_of_le (World.block_lt_of_cell? w _ h) hN)).trans h
def PlacF(l i:Int)(w:World)(r:Ending)(w':World):Prop:=r= .returned (.tuple #[.int .i64 l,.int .i64 i,.bool true])∧Below w.heap.size w w'
set_option maxRecDepth 100000 in
set_option maxHeartbeats 3200000 in
theorem placeF_any(n:Nat)(l i:Int)(h1:1≤n)(h26:n≤26)(w:World)(hg:ErrVar w):Calls Tryz.prog 43 #[.iface 116 (.agg #[.int .i64 (n:Int),.int .i64 l,.int .i64 i])] w (PlacF l i w):=by
 have HG:=hd' (hg.below ((Below.refl w.heap.size w).alloc (lR' _) (.cells #[.int .i64 0,.int .i64 0,.int .i64 0] 116)) (lR' _));have hB:=heap_alloc_new w (.cells #[.int .i64 0,.int .i64 0,.int .i64 0] 116);have HBK:=hd' hB;have HO:=hd' (And.intro h1 h26);clear hg hB h1 h26;go_enter Tryz.func43,Tryz.ntmps43;go_wp2_with fail;refine(asF_any _ _ _ _ _ _ _ _ HBK.out HG.out).mono ?_;rintro r w1 ⟨rfl,hf1,hb1⟩
 have hc:∀j,w1.cell? ⟨w.heap.size,j,none⟩=(#[.int .i64 (n:Int),.int .i64 l,.int .i64 i]:Array Value)[j]? :=fun j=>cell_of_row _ _ _ _ _ _ hf1
 have hBl:w.heap.size<w1.heap.size:=lt_of_block hf1;have d0:w1.cell? ⟨w.heap.size,0,none⟩=some (.int .i64 (n:Int)):=(hc 0).trans rfl;have d1:w1.cell? ⟨w.heap.size,1,none⟩=some (.int .i64 l):=(hc 1).trans rfl;have d2:w1.cell? ⟨w.heap.size,2,none⟩=some (.int .i64 i):=(hc 2).trans rfl;have HB1:=hd' (((Below.refl w.heap.size w).alloc (lR' _) (.cells #[.int .i64 0,.int .i64 0,.int .i64 0] 116)).trans hb1);clear hb1 hf1 hc;go_wp2_with fail
 go_region_held3 (fun w'=>w'.cell? ⟨w.heap.size,0,none⟩=some (.int .i64 (n:Int))∧w'.cell? ⟨w.heap.size,1,none⟩=some (.int .i64 l)∧w'.cell? ⟨w.heap.size,2,none⟩=some (.int .i64 i))
  (first
   | exact⟨d0,d1,d2⟩
   | exact⟨(hb2.cell (p:=⟨w.heap.size,0,none⟩) hBl).trans d0,(hb2.cell (p:=⟨w.heap.size,1,none⟩) hBl).trans d1,(hb2.cell (p:=⟨w.heap.size,2,none⟩) hBl).trans d2⟩
   | assumption)
  ((go_at_call 44;refine(num_err _ _ n (.fault _ _ _) HO.out.1 HO.out.2 _).mono ?_;rintro r w2 ⟨rfl,hb2⟩))
 all_goals go_wp2
 all_goals go_ret3
 all_goals exact⟨rfl,HB1.out.trans ((Below.refl w.heap.size w1).drew.trans (hb2.mono (Nat.le_of_lt hBl)))⟩
theorem atF_any(n:Nat)(l i:Int)(h1:1≤n)(h26:n≤26)(w:World)(hg:ErrVar w):Calls Tryz.prog 17 #[.iface 116 (.agg #[.int .i64 (n:Int),.int .i64 l,.int .i64 i]),.int .i64 (n:Int),.int .i64 l,.int .i64 i] w (fun e w'=>e= .returned (.bool true)∧Below w.heap.size w w'):=by
 have HG:=hd' hg;have hpl:=placeF_any n l i h1 h26 w hg;unfold PlacF at hpl;have HNU:=hd' (fun wz=>num_err 116 (.agg #[.int .i64 (n:Int),.int .i64 l,.int .i64 i]) n (.fault _ _ _) h1 h26 wz)
 have hnb:((n:Int)==0)=false:=by simp;omega
 clear hg h1 h26;go_enter Tryz.func17,Tryz.ntmps17;go_wp2_with fail;refine hpl.mono ?_;rintro r w1 ⟨rfl,hb1⟩;have HB1:=hd' hb1;have hs1:=hb1.size;clear hb1;go_wp2_with fail;refine(HNU.out _).mono ?_;rintro r w2 ⟨rfl,hb2⟩;have HB2:=hd' (HB1.out.trans (hb2.mono hs1));clear hb2;go_wp2_with fail;go_ret;exact⟨rfl,HB2.out⟩
theorem atN_any(l i:Int)(w:World):Calls Tryz.prog 17 #[.nilIface,.int .i64 0,.int .i64 l,.int .i64 i] w (fun e w'=>e= .returned (.bool true)∧Below w.heap.size w w'):=by
 go_enter Tryz.func17,Tryz.ntmps17;go_wp2_with fail;go_ret;exact⟨rfl,Below.refl _ _⟩
end Code
end Go.Proofs.YtljhklblbafjkaaGreatDoor
