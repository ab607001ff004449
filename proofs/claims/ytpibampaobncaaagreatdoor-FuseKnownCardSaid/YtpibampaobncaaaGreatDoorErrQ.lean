/- Go's library: errors.Is and errors.As at the errors of the program: closed facts. -/
import Derived.Test.YtpibampaobncaaaGreatDoorVerQ
import Derived.LaidEql
import Derived.Stop.Asserts
import Derived.RowKitTokens
import Derived.Deep.MidRow
open Go.Lib renaming hid→hd'
open Nat renaming le_refl→lR'
namespace Go.Proofs.YtpibampaobncaaaGreatDoor
open Go.RowKit Go.Extern.Stop Go.Stop Go.Extern
namespace Code
theorem isTypeOf(v:Value)(w:World):(Extern.ReflectliteType.typeOf #[.iface 80 v]).run Tryz.prog w= .ok (.iface 167 (.agg #[.pointer (some ⟨9,80,none⟩)])) w:=by kernel_rfl
theorem isComparable(w:World):((Extern.ReflectliteType.method fun t=>do Go.Extern.Rtype.noPackHeld "Comparable" t;(fun a=>Value.bool a.comparable)<$>typeInfo t) #[.agg #[.pointer (some ⟨9,80,none⟩)]]).run Tryz.prog w= .ok (.bool true) w:=by kernel_rfl
theorem isMethodComparable(v:Value)(w:World):(Go.method 394 167 v "Comparable").run Tryz.prog w= .ok (211,v) w:=by kernel_rfl
theorem noIsE(v:Value)(xT:TypeId)(w:World):(Instr.typeAssert (.iface 80 v) xT 201 true).run Tryz.prog w= .ok (.tuple #[.nilIface,.bool false]) w:=run_typeAssert_lacksB Tryz.underlying201 (by kernel_rfl) (by kernel_rfl) v xT w
theorem noUnwrapE(v:Value)(xT:TypeId)(w:World):(Instr.typeAssert (.iface 80 v) xT 174 true).run Tryz.prog w= .ok (.tuple #[.nilIface,.bool false]) w:=run_typeAssert_lacksB Tryz.underlying174 (by kernel_rfl) (by kernel_rfl) v xT w
theorem noUnwrapsE(v:Value)(xT:TypeId)(w:World):(Instr.typeAssert (.iface 80 v) xT 176 true).run Tryz.prog w= .ok (.tuple #[.nilIface,.bool false]) w:=run_typeAssert_lacksB Tryz.underlying176 (by kernel_rfl) (by kernel_rfl) v xT w
theorem noAsE(v:Value)(xT:TypeId)(w:World):(Instr.typeAssert (.iface 80 v) xT 171 true).run Tryz.prog w= .ok (.tuple #[.nilIface,.bool false]) w:=run_typeAssert_lacksB Tryz.underlying171 (by kernel_rfl) (by kernel_rfl) v xT w
theorem noIsF(v:Value)(xT:TypeId)(w:World):(Instr.typeAssert (.iface 100 v) xT 201 true).run Tryz.prog w= .ok (.tuple #[.nilIface,.bool false]) w:=run_typeAssert_lacksB Tryz.underlying201 (by kernel_rfl) (by kernel_rfl) v xT w
theorem hasUnwrapF(v:Value)(xT:TypeId)(w:World):(Instr.typeAssert (.iface 100 v) xT 174 true).run Tryz.prog w= .ok (.tuple #[.iface 100 v,.bool true]) w:=run_typeAssert_hasB Tryz.underlying174 (by kernel_rfl) v xT w
theorem methodUnwrap(v:Value)(w:World):(Go.method 394 100 v "Unwrap").run Tryz.prog w= .ok (205,v) w:=by kernel_rfl
theorem unwrap_any(no l i:Int)(w:World):Calls Tryz.prog 205 #[.agg #[.int .i64 no,.int .i64 l,.int .i64 i]] w fun e w'=>e= .returned (.iface 80 (.int .i64 no))∧Below w.heap.size w w':=by
 go_enter Tryz.func205,Tryz.ntmps205
 go_wp2
 go_ret;exact⟨rfl,(Below.refl _ _).alloc (lR' _) _⟩
theorem eqErrno(a b:Int)(w:World):(binOp .eql 38 (.iface 80 (.int .i64 a)) (.iface 80 (.int .i64 b))).run Tryz.prog w= .ok (.bool (a==b)) w:=by
 obtain⟨i,hi,hc⟩:=Option.map_eq_some_iff.1 (show(Tryz.prog.info? 80).map (·.comparable)=some true by kernel_rfl)
 have h:∀d:Nat,(Op.equalIn (d+2) 38 (.iface 80 (.int .i64 a)) (.iface 80 (.int .i64 b))).run Tryz.prog w= .ok (a==b) w:=fun d=>by
  simp[Op.equalIn,run_underlying Tryz.underlying38,run_underlying Tryz.underlying80,typeInfo,hi,hc]
 simp only[binOp];simp[Op.equal,Op.maxDepth,h 9998]
theorem eqFault(v:Value)(b:Int)(w:World):(binOp .eql 38 (.iface 100 v) (.iface 80 (.int .i64 b))).run Tryz.prog w= .ok (.bool false) w:=
 run_eql_iface_types _ _ _ _ Tryz.underlying38 (by decide) w
set_option maxRecDepth 100000 in
set_option maxHeartbeats 1600000 in
theorem is_errno(n k:Int)(w:World):Calls Tryz.prog 101 #[.iface 80 (.int .i64 n),.iface 80 (.int .i64 k),.bool true] w fun e w'=>e= .returned (.bool (n==k))∧w'=w:=by
 have nE:=noIsE;have uE:=noUnwrapE;have vE:=noUnwrapsE;have qE:=eqErrno n k
 cases hq:(n==k)with
 | true=>
  rw[hq]at qE;go_enter Tryz.func101,Tryz.ntmps101
  go_wp2
  refine wp_loop_rounds 1 ?_;rw[rounds_succ]
  go_wp2
  go_ret;exact⟨rfl,rfl⟩
 | false=>
  rw[hq]at qE;go_enter Tryz.func101,Tryz.ntmps101
  go_wp2
  refine wp_loop_rounds 1 ?_;rw[rounds_succ]
  go_wp2
  go_ret;exact⟨rfl,rfl⟩
set_option maxRecDepth 100000 in
set_option maxHeartbeats 1600000 in
theorem is_fault(no l i k:Int)(w:World):Calls Tryz.prog 101 #[.iface 100 (.agg #[.int .i64 no,.int .i64 l,.int .i64 i]),.iface 80 (.int .i64 k),.bool true] w fun e w'=>e= .returned (.bool (no==k))∧Below w.heap.size w w':=by
 have nE:=noIsE;have uE:=noUnwrapE;have vE:=noUnwrapsE;have nF:=noIsF;have uF:=hasUnwrapF;have mF:=methodUnwrap;have qF:=eqFault (.agg #[.int .i64 no,.int .i64 l,.int .i64 i]) k;have qE:=eqErrno no k
 cases hq:(no==k)with
 | true=>
  rw[hq]at qE;go_enter Tryz.func101,Tryz.ntmps101
  go_wp2
  refine wp_loop_rounds 2 ?_;rw[rounds_succ];go_wp2_with (go_at_call 205;refine(unwrap_any _ _ _ _).mono ?_;rintro e w1 ⟨rfl,hb1⟩);rw[rounds_succ]
  go_wp2
  go_ret;exact⟨rfl,hb1⟩
 | false=>
  rw[hq]at qE;go_enter Tryz.func101,Tryz.ntmps101
  go_wp2
  refine wp_loop_rounds 2 ?_;rw[rounds_succ];go_wp2_with (go_at_call 205;refine(unwrap_any _ _ _ _).mono ?_;rintro e w1 ⟨rfl,hb1⟩);rw[rounds_succ]
  go_wp2
  go_ret;exact⟨rfl,hb1⟩
end Code
end Go.Proofs.YtpibampaobncaaaGreatDoor
namespace Go.Proofs.YtpibampaobncaaaGreatDoor
open Go.RowKit Go.Extern.Stop Go.Stop Go.Extern
namespace Code
inductive IsErr:Value→Int→Prop where
 | errno (n:Int):IsErr (errno n) n
 | fault (n l i:Int):IsErr (.iface 100 (.agg #[.int .i64 n,.int .i64 l,.int .i64 i])) n
set_option maxRecDepth 100000 in
set_option maxHeartbeats 1600000 in
theorem errorsIs_any(v:Value)(n k:Int)(h:IsErr v n)(w:World):Calls Tryz.prog 75 #[v,.iface 80 (.int .i64 k)] w fun e w'=>e= .returned (.bool (n==k))∧Below w.heap.size w w':=by
 have h8:= @run_callFunc_extern Tryz.prog 100 _ Extern.ReflectliteType.typeOf Tryz.func100 (by kernel_rfl) (by kernel_rfl) (by kernel_rfl) (by kernel_rfl);have h32:= @run_callFunc_extern Tryz.prog 211 _ (Extern.ReflectliteType.method fun t=>do Go.Extern.Rtype.noPackHeld "Comparable" t;pure (.bool (←typeInfo t).comparable)) Tryz.func211 (by kernel_rfl) (by kernel_rfl) (by kernel_rfl) (by kernel_rfl);have tT:=isTypeOf;have cT:=isComparable;have mR:=isMethodComparable
 cases h with
 | errno n=>
  unfold errno;go_enter Tryz.func75,Tryz.ntmps75;go_wp2_with (go_at_call 101;refine(is_errno _ _ _).mono ?_;rintro e w1 ⟨rfl,rfl⟩);go_ret;exact⟨rfl,Below.refl _ _⟩
 | fault n l i=>
  go_enter Tryz.func75,Tryz.ntmps75;go_wp2_with (go_at_call 101;refine(is_fault _ _ _ _ _).mono ?_;rintro e w1 ⟨rfl,hb1⟩);go_ret;exact⟨rfl,hb1⟩
end Code
end Go.Proofs.YtpibampaobncaaaGreatDoor
namespace Go.Proofs.YtpibampaobncaaaGreatDoor
open Go.RowKit Go.Extern.Stop Go.Stop Go.Extern
namespace Code
abbrev hd(t:Nat):Value:=.agg #[.pointer (some ⟨9,t,none⟩)]
theorem valueOfP(t:Addr)(w:World):(ReflectliteValue.unpack (.iface 103 (.pointer (some t)))).run Tryz.prog w
    = .ok (.agg #[.pointer (some ⟨9,103,none⟩),.pointer (some ⟨w.heap.size,0,none⟩),.int .u64 150]) (w.alloc (.cells #[.pointer (some t)] 103)):=by kernel_rfl
theorem typeP(a:Addr)(w:World):(ReflectliteValue.methodAny (ReflectliteValue.valueError "reflectlite.Value.Type" 0) (fun t _ _ _=>ReflectliteType.toType t) #[.agg #[.pointer (some ⟨9,103,none⟩),.pointer (some a),.int .u64 150]]).run Tryz.prog w
    = .ok (.iface 167 (.agg #[.pointer (some ⟨9,103,none⟩)])) w:=by kernel_rfl
theorem methodKind(h:Value)(w:World):(Go.method 394 167 (.agg #[h]) "Kind").run Tryz.prog w= .ok (200,h) w:=by kernel_rfl
theorem kindP(w:World):((ReflectliteType.abiMethod fun t=>(fun a:Nat=>Value.int IntKind.u8 (a:Int))<$>Rtype.kind t) #[.pointer (some ⟨9,103,none⟩)]).run Tryz.prog w= .ok (.int .u8 22) w:=by kernel_rfl
theorem kindF(w:World):((ReflectliteType.abiMethod fun t=>(fun a:Nat=>Value.int IntKind.u8 (a:Int))<$>Rtype.kind t) #[.pointer (some ⟨9,100,none⟩)]).run Tryz.prog w= .ok (.int .u8 25) w:=by kernel_rfl
theorem rlm(z:Sem Value)(f:TypeId→Addr→Nat→Nat→Sem Value)(v:Value):
    ReflectliteValue.method z f #[v]=(do match←ReflectliteValue.parts v with | none=>z | some (t,a,fl)=>f t a fl (fl%32)):=rfl
theorem partsP(a:Addr)(w:World):(ReflectliteValue.parts (.agg #[.pointer (some ⟨9,103,none⟩),.pointer (some a),.int .u64 150])).run Tryz.prog w= .ok (some (103,a,150)) w:=by kernel_rfl
theorem isNilP(a p:Addr)(W:World)(ha:W.cell? a=some (.pointer (some p))):
    (ReflectliteValue.method (ReflectliteValue.valueError "reflectlite.Value.IsNil" 0) ReflectliteValue.isNil #[.agg #[.pointer (some ⟨9,103,none⟩),.pointer (some a),.int .u64 150]]).run Tryz.prog W= .ok (.bool false) W:=by
 rw[rlm];simp only[Sem.run_bind,partsP,Result.andThen];simp[ReflectliteValue.isNil,loadVar,isAgg,underlying,Tryz.underlying103,ha,Result.andThen]
theorem methodElem(h:Value)(w:World):(Go.method 394 167 (.agg #[h]) "Elem").run Tryz.prog w= .ok (212,.agg #[h]) w:=by kernel_rfl
theorem methodImplements(h:Value)(w:World):(Go.method 394 167 (.agg #[h]) "Implements").run Tryz.prog w= .ok (213,.agg #[h]) w:=by kernel_rfl
theorem methodAssignableTo(h:Value)(w:World):(Go.method 394 167 (.agg #[h]) "AssignableTo").run Tryz.prog w= .ok (210,.agg #[h]) w:=by kernel_rfl
theorem elemP(w:World):(ReflectliteType.method ReflectliteType.elem #[.agg #[.pointer (some ⟨9,103,none⟩)]]).run Tryz.prog w= .ok (.iface 167 (.agg #[.pointer (some ⟨9,100,none⟩)])) w:=by kernel_rfl
theorem implementsF(w:World):(ReflectliteType.relation "Implements" ReflectliteType.implements_ #[.agg #[.pointer (some ⟨9,100,none⟩)],.iface 167 (.agg #[.pointer (some ⟨9,38,none⟩)])]).run Tryz.prog w= .ok (.bool true) w:=by kernel_rfl
theorem typeOfF(v:Value)(w:World):(ReflectliteType.typeOf #[.iface 100 v]).run Tryz.prog w= .ok (.iface 167 (.agg #[.pointer (some ⟨9,100,none⟩)])) w:=by kernel_rfl
theorem assignableF(w:World):(ReflectliteType.relation "AssignableTo" ReflectliteType.assignableTo #[.agg #[.pointer (some ⟨9,100,none⟩)],.iface 167 (.agg #[.pointer (some ⟨9,100,none⟩)])]).run Tryz.prog w= .ok (.bool true) w:=by kernel_rfl
theorem assignableE(w:World):(ReflectliteType.relation "AssignableTo" ReflectliteType.assignableTo #[.agg #[.pointer (some ⟨9,80,none⟩)],.iface 167 (.agg #[.pointer (some ⟨9,100,none⟩)])]).run Tryz.prog w= .ok (.bool false) w:=by kernel_rfl
theorem valueOfF(a b c:Value)(w:World):(ReflectliteValue.unpack (.iface 100 (.agg #[a,b,c]))).run Tryz.prog w
    = .ok (.agg #[.pointer (some ⟨9,100,none⟩),.pointer (some ⟨w.heap.size,0,none⟩),.int .u64 153]) (w.alloc (.cells #[a,b,c] 100)):=by kernel_rfl
theorem elemOfP(w:World):(Rtype.elem? 103).run Tryz.prog w= .ok (some 100) w:=by kernel_rfl
theorem mkF(p:Addr)(w:World):(ReflectliteValue.mk 100 p ReflectliteValue.flagAddr).run Tryz.prog w= .ok (.agg #[.pointer (some ⟨9,100,none⟩),.pointer (some p),.int .u64 409]) w:=by kernel_rfl
theorem elemV(a p:Addr)(W:World)(ha:W.cell? a=some (.pointer (some p))):
    (ReflectliteValue.method (ReflectliteValue.valueError "reflectlite.Value.Elem" 0) ReflectliteValue.elem #[.agg #[.pointer (some ⟨9,103,none⟩),.pointer (some a),.int .u64 150]]).run Tryz.prog W
     = .ok (.agg #[.pointer (some ⟨9,100,none⟩),.pointer (some p),.int .u64 409]) W:=by
 rw[rlm];simp only[Sem.run_bind,partsP,Result.andThen];simp[ReflectliteValue.elem,loadVar,isAgg,underlying,Tryz.underlying103,ha,Result.andThen,elemOfP,mkF]
end Code
end Go.Proofs.YtpibampaobncaaaGreatDoor
namespace Go.Proofs.YtpibampaobncaaaGreatDoor
open Go.RowKit Go.Extern.Stop Go.Stop Go.Extern
namespace Code
theorem partsA(a:Addr)(w:World):(ReflectliteValue.parts (.agg #[.pointer (some ⟨9,100,none⟩),.pointer (some a),.int .u64 409])).run Tryz.prog w= .ok (some (100,a,409)) w:=by kernel_rfl
theorem partsF(a:Addr)(w:World):(ReflectliteValue.parts (.agg #[.pointer (some ⟨9,100,none⟩),.pointer (some a),.int .u64 153])).run Tryz.prog w= .ok (some (100,a,153)) w:=by kernel_rfl
theorem directF(w:World):(Rtype.directlyAssignable 100 100).run Tryz.prog w= .ok true w:=by kernel_rfl
theorem sizeF:(Tryz.prog.info? 100).map (·.size)=some 3:=by kernel_rfl
theorem rls(v x:Value):ReflectliteValue.set #[v,x]=(do
    let(some (dst,a,fl),some (src,b,_)):=(←ReflectliteValue.parts v,←ReflectliteValue.parts x)
     | unsupported (.noEntry "extern/(internal/reflectlite.Value).Set.zeroValue")
    if fl/ReflectliteValue.flagAddr%2==0 then unsupported (.noEntry "extern/(internal/reflectlite.Value).Set.unaddressable")
    let val←loadVar src b
    if←Rtype.directlyAssignable dst src then storeVar dst a val
    else if←Rtype.implements dst src then
     if(←Rtype.kind src)==20 then
      match val with
      | .nilIface=>unsupported (.noEntry "extern/reflectlite: a nil value of one interface type handed on as a value of another")
      | _=>storeVar dst a val
     else storeVar dst a (.iface src val)
    else panicString ("reflectlite.Set: value of type " ++(←Rtype.spelt src)++ " is not assignable to type " ++(←Rtype.spelt dst))
    pure (.tuple #[])):=rfl
theorem setF(B b:Nat)(n l i:Int)(o0 o1 o2:Value)(W:World)(hb:W.heap[b]? =some (.cells #[.int .i64 n,.int .i64 l,.int .i64 i] 100 (0,0)))(hB:W.heap[B]? =some (.cells #[o0,o1,o2] 100 (0,0))):
    (ReflectliteValue.set #[.agg #[.pointer (some ⟨9,100,none⟩),.pointer (some ⟨B,0,none⟩),.int .u64 409],.agg #[.pointer (some ⟨9,100,none⟩),.pointer (some ⟨b,0,none⟩),.int .u64 153]]).run Tryz.prog W
     = .ok (.tuple #[]) (W.setCells B 0 [.int .i64 n,.int .i64 l,.int .i64 i]):=by
 have hr:W.rangeAt b 0 [.int .i64 n,.int .i64 l,.int .i64 i]:=fun j v hv=>by rw[cell_of_row _ _ _ _ _ _ hb];simpa using hv
 have hl:=run_loadVar_mid (P:=Tryz.prog) W b 0 100 [.int .i64 n,.int .i64 l,.int .i64 i] _ hr Tryz.underlying100 rfl sizeF
 have ht:W.there B 0 3:=fun j hj=>by
  constructor
  ·rw[cell_of_row _ _ _ _ _ _ hB];simp;omega
  ·exact frozen_blk hB
 have hs:=run_storeVar_mid (P:=Tryz.prog) W B 0 100 #[.int .i64 n,.int .i64 l,.int .i64 i] ht sizeF (by simp[Value.oneCell']);have hl':(loadVar 100 ⟨b,0,none⟩).run Tryz.prog W= .ok (.agg #[.int .i64 n,.int .i64 l,.int .i64 i]) W:=hl;have hs':(storeVar 100 ⟨B,0,none⟩ (.agg #[.int .i64 n,.int .i64 l,.int .i64 i])).run Tryz.prog W= .ok () (W.setCells B 0 [.int .i64 n,.int .i64 l,.int .i64 i]):=hs;rw[rls];simp only[Sem.run_bind,partsA,partsF,Result.andThen];simp[ReflectliteValue.flagAddr,hl',Result.andThen,directF,hs']
def ErrVar(w:World):Prop:=w.cell? ⟨0,0,none⟩=some (.iface 167 (.agg #[.pointer (some ⟨9,38,none⟩)]))
def FaultAt(w:World)(B:Nat)(n l i:Int):Prop:=w.heap[B]? =some (.cells #[.int .i64 n,.int .i64 l,.int .i64 i] 100 (0,0))
def AsNo(w:World)(e:Ending)(w':World):Prop:=e= .returned (.bool false)∧Below w.heap.size w w'
def AsYes(B:Nat)(n l i:Int)(w:World)(e:Ending)(w':World):Prop:=e= .returned (.bool true)∧FaultAt w' B n l i∧Below B w w'
set_option maxRecDepth 100000 in
set_option maxHeartbeats 4000000 in
theorem as_errno(n:Int)(B:Nat)(tv:Value)(w:World):
    Calls Tryz.prog 79 #[.iface 80 (.int .i64 n),.iface 103 (.pointer (some ⟨B,0,none⟩)),.agg #[.pointer (some ⟨9,103,none⟩),tv,.int .u64 150],.iface 167 (.agg #[.pointer (some ⟨9,100,none⟩)])] w (AsNo w):=by
 have h10:= @run_callFunc_extern Tryz.prog 100 _ ReflectliteType.typeOf Tryz.func100 (by kernel_rfl) (by kernel_rfl) (by kernel_rfl) (by kernel_rfl);have h35:= @run_callFunc_extern Tryz.prog 210 _ (ReflectliteType.relation "AssignableTo" ReflectliteType.assignableTo) Tryz.func210 (by kernel_rfl) (by kernel_rfl) (by kernel_rfl) (by kernel_rfl);have tO:=isTypeOf;have mA:=methodAssignableTo;have aE:=assignableE;have nA:=noAsE;have nU:=noUnwrapE;have nV:=noUnwrapsE;go_enter Tryz.func79,Tryz.ntmps79
 go_wp2
 refine wp_loop_rounds 1 ?_;rw[rounds_succ]
 go_wp2
 go_ret;exact⟨rfl,(Below.refl _ _).alloc (lR' _) _⟩
theorem faultAt_set{w:World}{B:Nat}{n l i:Int}{o0 o1 o2:Value}(hB:w.heap[B]? =some (.cells #[o0,o1,o2] 100 (0,0))):FaultAt (w.setCells B 0 [.int .i64 n,.int .i64 l,.int .i64 i]) B n l i:=by
 have h1:=blk_setCell (off:=0) hB (.int .i64 n);have h2:=blk_setCell (off:=1) h1 (.int .i64 l);have h3:=blk_setCell (off:=2) h2 (.int .i64 i);exact h3
theorem below_setCells3{w:World}{B:Nat}{a b c:Value}:Below B w (w.setCells B 0 [a,b,c]):=(((Below.refl B w).setCell (lR' _) _).setCell (lR' _) _).setCell (lR' _) _
set_option maxRecDepth 100000 in
set_option maxHeartbeats 4000000 in
theorem as_fault(n l i:Int)(B tb:Nat)(o0 o1 o2:Value)(w:World)(hB:w.heap[B]? =some (.cells #[o0,o1,o2] 100 (0,0)))(htb:w.cell? ⟨tb,0,none⟩=some (.pointer (some ⟨B,0,none⟩))):
    Calls Tryz.prog 79 #[.iface 100 (.agg #[.int .i64 n,.int .i64 l,.int .i64 i]),.iface 103 (.pointer (some ⟨B,0,none⟩)),.agg #[.pointer (some ⟨9,103,none⟩),.pointer (some ⟨tb,0,none⟩),.int .u64 150],.iface 167 (.agg #[.pointer (some ⟨9,100,none⟩)])] w (AsYes B n l i w):=by
 have h10:= @run_callFunc_extern Tryz.prog 100 _ ReflectliteType.typeOf Tryz.func100 (by kernel_rfl) (by kernel_rfl) (by kernel_rfl) (by kernel_rfl);have h35:= @run_callFunc_extern Tryz.prog 210 _ (ReflectliteType.relation "AssignableTo" ReflectliteType.assignableTo) Tryz.func210 (by kernel_rfl) (by kernel_rfl) (by kernel_rfl) (by kernel_rfl);have h6:= @run_callFunc_extern Tryz.prog 76 _ (fun args=>ReflectliteValue.unpack (args.getD 0 (.tuple #[]))) Tryz.func76 (by kernel_rfl) (by kernel_rfl) (by kernel_rfl) (by kernel_rfl)
 have h11:= @run_callFunc_extern Tryz.prog 102 _ (ReflectliteValue.method (ReflectliteValue.valueError "reflectlite.Value.Elem" 0) ReflectliteValue.elem) Tryz.func102 (by kernel_rfl) (by kernel_rfl) (by kernel_rfl) (by kernel_rfl);have h12:= @run_callFunc_extern Tryz.prog 103 _ ReflectliteValue.set Tryz.func103 (by kernel_rfl) (by kernel_rfl) (by kernel_rfl) (by kernel_rfl);have tO:=typeOfF;have mA:=methodAssignableTo;have aF:=assignableF;have vF:=valueOfF;have htl:=World.block_lt_of_cell? w _ htb;have hBl:=lt_of_block hB;have el:=elemV ⟨tb,0,none⟩ ⟨B,0,none⟩ (w.alloc (.cells #[.pointer (some ⟨9,103,none⟩),.pointer (some ⟨tb,0,none⟩),.int .u64 150] 134)) ((World.cell?_alloc_lt _ _ _ htl).trans htb)
 have hB2:=blk_alloc (o:=.cells #[.int .i64 n,.int .i64 l,.int .i64 i] 100) (blk_alloc (o:=.cells #[.pointer (some ⟨9,103,none⟩),.pointer (some ⟨tb,0,none⟩),.int .u64 150] 134) hB);have hnew:=heap_alloc_new (w.alloc (.cells #[.pointer (some ⟨9,103,none⟩),.pointer (some ⟨tb,0,none⟩),.int .u64 150] 134)) (.cells #[.int .i64 n,.int .i64 l,.int .i64 i] 100)
 have hsz:(w.alloc (.cells #[.pointer (some ⟨9,103,none⟩),.pointer (some ⟨tb,0,none⟩),.int .u64 150] 134)).heap.size=w.heap.size+1:=by simp
 rw[hsz]at hnew;have st:=setF B (w.heap.size+1) n l i o0 o1 o2 _ hnew hB2;have HB:=hd' hBl;have HB2:=hd' hB2;clear hnew hB2 hsz hBl;go_enter Tryz.func79,Tryz.ntmps79
 go_wp2
 refine wp_loop_rounds 1 ?_;rw[rounds_succ]
 go_wp2
 go_ret;exact⟨rfl,faultAt_set HB2.out,(((Below.refl B w).alloc (Nat.le_of_lt HB.out) _).alloc (by simp;have:=HB.out;omega) _).trans below_setCells3⟩
end Code
end Go.Proofs.YtpibampaobncaaaGreatDoor
namespace Go.Proofs.YtpibampaobncaaaGreatDoor
open Go.RowKit Go.Extern.Stop Go.Stop Go.Extern
namespace Code
def AsOut(B:Nat)(v:Value)(w:World)(e:Ending)(w':World):Prop:=
 (∀n,v=errno n→e= .returned (.bool false)∧Below w.heap.size w w')∧∀n l i:Int,v= .iface 100 (.agg #[.int .i64 n,.int .i64 l,.int .i64 i])→e= .returned (.bool true)∧FaultAt w' B n l i∧Below B w w'
set_option maxRecDepth 100000 in
set_option maxHeartbeats 4000000 in
theorem as_any(v:Value)(m:Int)(hv:IsErr v m)(B:Nat)(o0 o1 o2:Value)(w:World)(hB:w.heap[B]? =some (.cells #[o0,o1,o2] 100 (0,0)))(hg:ErrVar w):
    Calls Tryz.prog 62 #[v,.iface 103 (.pointer (some ⟨B,0,none⟩))] w (AsOut B v w):=by
 have h6:= @run_callFunc_extern Tryz.prog 76 _ (fun args=>ReflectliteValue.unpack (args.getD 0 (.tuple #[]))) Tryz.func76 (by kernel_rfl) (by kernel_rfl) (by kernel_rfl) (by kernel_rfl);have h7:= @run_callFunc_extern Tryz.prog 77 _ (ReflectliteValue.methodAny (ReflectliteValue.valueError "reflectlite.Value.Type" 0) (fun t _ _ _=>ReflectliteType.toType t)) Tryz.func77 (by kernel_rfl) (by kernel_rfl) (by kernel_rfl) (by kernel_rfl);have h8:= @run_callFunc_extern Tryz.prog 78 _ (ReflectliteValue.method (ReflectliteValue.valueError "reflectlite.Value.IsNil" 0) ReflectliteValue.isNil) Tryz.func78 (by kernel_rfl) (by kernel_rfl) (by kernel_rfl) (by kernel_rfl)
 have h27:= @run_callFunc_extern Tryz.prog 200 _ (ReflectliteType.abiMethod fun t=>do pure (.int .u8 (←Rtype.kind t))) Tryz.func200 (by kernel_rfl) (by kernel_rfl) (by kernel_rfl) (by kernel_rfl);have h37:= @run_callFunc_extern Tryz.prog 212 _ (ReflectliteType.method ReflectliteType.elem) Tryz.func212 (by kernel_rfl) (by kernel_rfl) (by kernel_rfl) (by kernel_rfl);have h38:= @run_callFunc_extern Tryz.prog 213 _ (ReflectliteType.relation "Implements" ReflectliteType.implements_) Tryz.func213 (by kernel_rfl) (by kernel_rfl) (by kernel_rfl) (by kernel_rfl);have f6:=valueOfP;have f7:=typeP;have mK:=methodKind;have mE:=methodElem;have mI:=methodImplements;have kP:=kindP;have kF:=kindF
 have eP:=elemP;have iF:=implementsF;have hBl:=lt_of_block hB;unfold ErrVar at hg;have hgl:=World.block_lt_of_cell? w _ hg;simp only at hgl;have n8:=isNilP ⟨w.heap.size,0,none⟩ ⟨B,0,none⟩ ((w.alloc (.cells #[.pointer (some ⟨B,0,none⟩)] 103)).alloc (.cells #[.pointer (some ⟨9,103,none⟩),.pointer (some ⟨w.heap.size,0,none⟩),.int .u64 150] 134)) (by simp);have hB2:=blk_alloc (o:=.cells #[.pointer (some ⟨9,103,none⟩),.pointer (some ⟨w.heap.size,0,none⟩),.int .u64 150] 134) (blk_alloc (o:=.cells #[.pointer (some ⟨B,0,none⟩)] 103) hB)
 have htb:((w.alloc (.cells #[.pointer (some ⟨B,0,none⟩)] 103)).alloc (.cells #[.pointer (some ⟨9,103,none⟩),.pointer (some ⟨w.heap.size,0,none⟩),.int .u64 150] 134)).cell? ⟨w.heap.size,0,none⟩=some (.pointer (some ⟨B,0,none⟩)):=by simp
 have HB:=hd' hBl;have HB2:=hd' hB2;have HTB:=hd' htb;clear hB hB2 htb hBl
 cases hv with
 | errno n=>
  unfold errno;go_enter Tryz.func62,Tryz.ntmps62;go_wp2_with (go_at_call 79;refine(as_errno _ _ _ _).mono ?_;rintro e w1 ⟨rfl,hb1⟩);go_ret;refine⟨fun n' _=>⟨rfl, ?_⟩,fun n' l i h=>by cases h⟩;exact(((Below.refl _ _).alloc (lR' _) _).alloc (by simp) _).trans (hb1.mono (by simp;omega))
 | fault n l i=>
  go_enter Tryz.func62,Tryz.ntmps62;go_wp2_with (go_at_call 79;refine(as_fault _ _ _ _ _ _ _ _ _ HB2.out HTB.out).mono ?_;rintro e w1 ⟨rfl,hf1,hb1⟩);go_ret;refine⟨fun n' h=>by simp[errno]at h,fun n' l' i' h=> ?_⟩;cases h;exact⟨rfl,hf1,(((Below.refl B w).alloc (Nat.le_of_lt HB.out) _).alloc (by have:=HB.out;simp;omega) _).trans hb1⟩
end Code
end Go.Proofs.YtpibampaobncaaaGreatDoor
namespace Go.Proofs.YtpibampaobncaaaGreatDoor
open Go.RowKit
namespace Code
attribute [local go_sem ↓] Go.wp_at_zero Go.wp_at_succ
inductive Er where
 | nil
 | plain (n:Nat)
 | fault (n:Nat) (i:Int)
def Er.val:Er→Value
 | .nil=>.nilIface
 | .plain n=>.iface 80 (.int .i64 n)
 | .fault n i=>.iface 100 (.agg #[.int .i64 n,.int .i64 0,.int .i64 i])
def Er.num:Er→Nat
 | .nil=>0
 | .plain n=>n
 | .fault n _=>n
def Er.ok:Er→Prop
 | .nil=>True
 | .plain n=>1≤n∧n≤26
 | .fault n _=>1≤n∧n≤26
def Er.isNil:Er→Bool
 | .nil=>true
 | _=>false
def Er.place:Er→Int×Bool
 | .fault _ i=>(i,true)
 | _=>(0,false)
theorem Er.shape(e:Er)(h:e.isNil=false):∃T x,e.val= .iface T x:=by
 cases e with
 | nil=>simp[Er.isNil]at h
 | plain n=>exact⟨_,_,rfl⟩
 | fault n i=>exact⟨_,_,rfl⟩
theorem num_nil(w:World):Calls Tryz.prog 61 #[.nilIface] w fun e w'=>e= .returned (.int .i64 0)∧w'=w:=by
 go_enter Tryz.func61,Tryz.ntmps61
 go_wp2
 go_ret;exact⟨rfl,rfl⟩
set_option maxRecDepth 100000 in
set_option maxHeartbeats 1600000 in
theorem num_err(T:TypeId)(x:Value)(n:Nat)(hv:IsErr (.iface T x) n)(h1:1≤n)(h26:n≤26)(w:World):Calls Tryz.prog 61 #[.iface T x] w fun e w'=>e= .returned (.int .i64 n)∧Below w.heap.size w w':=by
 have HV:=hd' hv;clear hv;go_enter Tryz.func61,Tryz.ntmps61;go_wp2_with fail
 go_loopw [3,4] (fun f i wr=>∃k:Nat,i= .int .i64 k∧1≤k∧k≤27∧f= .int .i64 ((if n<k then n else 0:Nat):Int)∧Below w.heap.size w wr) (fun _ i _=>27-(intOf i).toNat)
 case atStart=>exact⟨1,rfl,by omega,by omega,by rw[if_neg (by omega)];rfl,Below.refl _ _⟩
 case round=>
  obtain⟨k,rfl,hk1,hk2,rfl,hb⟩:=hrel;have HB:=hd' hb;have hsz:=hb.size;clear hb
  by_cases hlt:k≤26
  ·have hc:decide ((k:Int)≤26)=true:=by simp;omega
   by_cases he:n=k
   ·subst he
    rw[if_neg (by omega)];go_wp2_with fail;refine(errorsIs_any _ _ n HV.out _).mono ?_;rintro e w1 ⟨rfl,hb1⟩;have HB1:=hd' (HB.out.trans (hb1.mono hsz));clear hb1;go_wp2_with fail;go_roundw
    case rel=>exact⟨n+1,by go_num,by omega,by omega,by rw[if_pos (by omega)],HB1.out⟩
    case measure=>simp[intOf];omega
   ·have hne:((n:Int)==(k:Int))=false:=by simp;omega
    have HE:=hd' he;clear he;generalize hf:(if n<k then n else 0)=f at*;have HF:=hd' hf;clear hf;go_wp2_with fail;refine(errorsIs_any _ _ k HV.out _).mono ?_;rintro e w1 ⟨rfl,hb1⟩;have HB1:=hd' (HB.out.trans (hb1.mono hsz));clear hb1;go_wp2_with fail;go_roundw
    case rel=>
     refine⟨k+1,by go_num,by omega,by omega, ?_,HB1.out⟩;rw[←HF.out];have:=HE.out
     by_cases h:n<k
     ·rw[if_pos h,if_pos (by omega)]
     ·rw[if_neg h,if_neg (by omega)]
    case measure=>simp[intOf];omega
  ·obtain rfl:k=27:=by omega
   rw[if_pos (by omega)]
   have hn0:((n:Int)==0)=false:=by simp;omega
   go_wp2_with fail;refine(errorsIs_any _ _ 0 HV.out _).mono ?_;rintro e w1 ⟨rfl,hb1⟩;have HB1:=hd' (HB.out.trans (hb1.mono hsz));clear hb1;go_wp2_with fail;go_ret;exact⟨rfl,HB1.out⟩
theorem num_any(e:Er)(h:e.ok)(w:World):Calls Tryz.prog 61 #[e.val] w fun r w'=>r= .returned (.int .i64 e.num)∧Below w.heap.size w w':=by
 cases e with
 | nil=>exact(num_nil w).mono fun _ _ ⟨he,hw⟩=>⟨he,by rw[hw];exact Below.refl _ _⟩
 | plain n=>exact num_err _ _ n (.errno _) h.1 h.2 w
 | fault n i=>exact num_err _ _ n (.fault _ _ _) h.1 h.2 w
end Code
end Go.Proofs.YtpibampaobncaaaGreatDoor
namespace Go.Proofs.YtpibampaobncaaaGreatDoor
open Go.RowKit
namespace Code
attribute [local go_sem ↓] Go.wp_at_zero Go.wp_at_succ
theorem ErrVar.below{N:Nat}{w w':World}(h:ErrVar w)(hb:Below N w w')(hN:w.heap.size≤N):ErrVar w':=
 (hb.cell (p:=⟨0,0,none⟩) (Nat.lt_of_lt_of_le (World.block_lt_of_cell? w _ h) hN)).trans h
def PlaceOut(e:Er)(w:World)(r:Ending)(w':World):Prop:=r= .returned (.tuple #[.int .i64 0,.int .i64 e.place.1,.bool e.place.2])∧Below w.heap.size w w'
set_option maxRecDepth 100000 in
set_option maxHeartbeats 3200000 in
theorem place_any(e:Er)(h:e.ok)(w:World)(hg:ErrVar w):Calls Tryz.prog 63 #[e.val] w (PlaceOut e w):=by
 have HG:=hd' (hg.below ((Below.refl w.heap.size w).alloc (lR' _) (.cells #[.int .i64 0,.int .i64 0,.int .i64 0] 100)) (lR' _));have hB:=heap_alloc_new w (.cells #[.int .i64 0,.int .i64 0,.int .i64 0] 100);have HBK:=hd' hB;have HO:=hd' h;clear hg hB h
 cases e with
 | nil=>
  unfold Er.val;go_enter Tryz.func63,Tryz.ntmps63;go_wp2_with fail;go_ret3;exact⟨rfl,(Below.refl _ _).alloc (lR' _) _⟩
 | plain n=>
  unfold Er.val;go_enter Tryz.func63,Tryz.ntmps63;go_wp2_with fail;refine(as_any _ _ (.errno _) _ _ _ _ _ HBK.out HG.out).mono ?_;rintro r w1 ⟨h1,_⟩;obtain⟨rfl,hb1⟩:=h1 _ rfl;have HB1:=hd' (((Below.refl w.heap.size w).alloc (lR' _) (.cells #[.int .i64 0,.int .i64 0,.int .i64 0] 100)).trans (hb1.mono (by simp)));clear hb1 h1;go_wp2_with fail;go_ret3;exact⟨rfl,HB1.out⟩
 | fault n i=>
  unfold Er.val;go_enter Tryz.func63,Tryz.ntmps63;go_wp2_with fail;refine(as_any _ _ (.fault _ _ _) _ _ _ _ _ HBK.out HG.out).mono ?_;rintro r w1 ⟨_,h1⟩;obtain⟨rfl,hf1,hb1⟩:=h1 _ _ _ rfl
  have hc:∀j,w1.cell? ⟨w.heap.size,j,none⟩=(#[.int .i64 (n:Int),.int .i64 0,.int .i64 i]:Array Value)[j]? :=fun j=>cell_of_row _ _ _ _ _ _ hf1
  have hBl:w.heap.size<w1.heap.size:=lt_of_block hf1;have d0:w1.cell? ⟨w.heap.size,0,none⟩=some (.int .i64 (n:Int)):=(hc 0).trans rfl;have d1:w1.cell? ⟨w.heap.size,1,none⟩=some (.int .i64 0):=(hc 1).trans rfl;have d2:w1.cell? ⟨w.heap.size,2,none⟩=some (.int .i64 i):=(hc 2).trans rfl;have HB1:=hd' (((Below.refl w.heap.size w).alloc (lR' _) (.cells #[.int .i64 0,.int .i64 0,.int .i64 0] 100)).trans hb1);clear hb1 h1 hf1 hc;go_wp2_with fail
  go_region_held3 (fun w'=>w'.cell? ⟨w.heap.size,0,none⟩=some (.int .i64 (n:Int))∧w'.cell? ⟨w.heap.size,1,none⟩=some (.int .i64 0)∧w'.cell? ⟨w.heap.size,2,none⟩=some (.int .i64 i))
   (first
    | exact⟨d0,d1,d2⟩
    | exact⟨(hb2.cell (p:=⟨w.heap.size,0,none⟩) hBl).trans d0,(hb2.cell (p:=⟨w.heap.size,1,none⟩) hBl).trans d1,(hb2.cell (p:=⟨w.heap.size,2,none⟩) hBl).trans d2⟩
    | assumption)
   ((go_at_call 61;refine(num_any (.fault n i) HO.out _).mono ?_;rintro r w2 ⟨rfl,hb2⟩))
  all_goals go_wp2
  all_goals go_ret3
  all_goals refine⟨?_,HB1.out.trans ((Below.refl w.heap.size w1).drew.trans (hb2.mono (Nat.le_of_lt hBl)))⟩
  all_goals simp[Er.place,Er.num]
def atB(e:Er)(n l i:Int):Bool:=if n=0 then e.isNil else decide ((e.num:Int)=n)&&e.place.2&&decide ((0:Int)=l)&&decide (e.place.1=i)
def BoolOut(b:Bool)(w:World)(r:Ending)(w':World):Prop:=r= .returned (.bool b)∧Below w.heap.size w w'
set_option maxRecDepth 100000 in
set_option maxHeartbeats 3200000 in
theorem at_any(e:Er)(h:e.ok)(n l i:Int)(w:World)(hg:ErrVar w):Calls Tryz.prog 38 #[e.val,.int .i64 n,.int .i64 l,.int .i64 i] w (BoolOut (atB e n l i) w):=by
 have HG:=hd' hg;have HO:=hd' h;clear hg h
 by_cases hn:n=0
 ·subst hn
  cases e with
  | nil=>
   unfold Er.val;go_enter Tryz.func38,Tryz.ntmps38
   go_wp2
   go_ret;exact⟨rfl,Below.refl _ _⟩
  | plain m=>
   unfold Er.val;go_enter Tryz.func38,Tryz.ntmps38
   go_wp2
   go_ret;exact⟨rfl,Below.refl _ _⟩
  | fault m j=>
   unfold Er.val;go_enter Tryz.func38,Tryz.ntmps38
   go_wp2
   go_ret;exact⟨rfl,Below.refl _ _⟩
 ·have hnb:(n==0)=false:=by simpa using hn
  have hat:atB e n l i=(decide ((e.num:Int)=n)&&e.place.2&&decide ((0:Int)=l)&&decide (e.place.1=i)):=by unfold atB;rw[if_neg hn]
  have HAT:=hd' hat;clear hat hn;go_enter Tryz.func38,Tryz.ntmps38;go_wp2_with fail;refine(place_any e HO.out _ HG.out).mono ?_;rintro r w1 ⟨rfl,hb1⟩;have HB1:=hd' hb1;have hs1:=hb1.size;clear hb1;go_wp2_with fail;refine(num_any e HO.out _).mono ?_;rintro r w2 ⟨rfl,hb2⟩;have HB2:=hd' (HB1.out.trans (hb2.mono hs1));clear hb2;generalize e.place=pl at*;obtain⟨p1,p2⟩:=pl;simp only at HAT;generalize((e.num:Nat):Int)=m at*
  by_cases q1:m=n
  ·have b1:(m==n)=true:=by simpa using q1
   have Q1:=hd' q1;clear q1
   cases p2 with
   | false=>
    go_wp2_with fail;go_ret;exact⟨ret_bool (by rw[HAT.out];simp),HB2.out⟩
   | true=>
    by_cases q2:(0:Int)=l
    ·have b2:((0:Int)==l)=true:=by simpa using q2
     have Q2:=hd' q2;clear q2
     by_cases q3:p1=i
     ·have b3:(p1==i)=true:=by simpa using q3
      have Q3:=hd' q3;clear q3;go_wp2_with fail;go_ret;exact⟨ret_bool (by rw[HAT.out];simp[Q1.out,Q2.out,Q3.out]),HB2.out⟩
     ·have b3:(p1==i)=false:=by simpa using q3
      have Q3:=hd' q3;clear q3;go_wp2_with fail;go_ret;exact⟨ret_bool (by rw[HAT.out];simp[Q3.out]),HB2.out⟩
    ·have b2:((0:Int)==l)=false:=by simpa using q2
     have Q2:=hd' q2;clear q2;go_wp2_with fail;go_ret;exact⟨ret_bool (by rw[HAT.out];simp[Q2.out]),HB2.out⟩
  ·have b1:(m==n)=false:=by simpa using q1
   have Q1:=hd' q1;clear q1;go_wp2_with fail;go_ret;exact⟨ret_bool (by rw[HAT.out];simp[Q1.out]),HB2.out⟩
def plainB(e:Er)(n:Int):Bool:=decide ((e.num:Int)=n)&& !e.place.2
set_option maxRecDepth 100000 in
set_option maxHeartbeats 3200000 in
theorem plain_any(e:Er)(h:e.ok)(n:Int)(w:World)(hg:ErrVar w):Calls Tryz.prog 37 #[e.val,.int .i64 n] w (BoolOut (plainB e n) w):=by
 have HO:=hd' h;have HG:=hd' hg;clear hg h;go_enter Tryz.func37,Tryz.ntmps37;go_wp2_with fail;refine(num_any e HO.out _).mono ?_;rintro r w1 ⟨rfl,hb1⟩;have hs1:=hb1.size;have hB:w1.heap[w.heap.size]? =some (.cells #[.int .i64 0,.int .i64 0,.int .i64 0] 100 (0,0)):=(hb1.block w.heap.size (by simp)).trans (heap_alloc_new w _);have HB:=hd' hB;have HB1:=hd' (((Below.refl w.heap.size w).alloc (lR' _) (.cells #[.int .i64 0,.int .i64 0,.int .i64 0] 100)).trans (hb1.mono (by simp)));have HG1:=hd' ((HG.out.below HB1.out (lR' _)));clear hb1 hB
 by_cases q1:((e.num:Nat):Int)=n
 ·have b1:(((e.num:Nat):Int)==n)=true:=by simpa using q1
  have Q1:=hd' q1;clear q1
  cases e with
  | nil=>
   unfold Er.val;go_wp2_with fail;go_ret;exact⟨ret_bool (by unfold plainB;simp[Q1.out,Er.place]),HB1.out⟩
  | plain m=>
   unfold Er.val;go_wp2_with fail;refine(as_any _ _ (.errno _) _ _ _ _ _ HB.out HG1.out).mono ?_;rintro r w2 ⟨h1,_⟩;obtain⟨rfl,hb2⟩:=h1 _ rfl;have HB2:=hd' (HB1.out.trans (hb2.mono (by simp at hs1;omega)));clear hb2 h1;go_wp2_with fail;go_ret;exact⟨ret_bool (by unfold plainB;simp[Q1.out,Er.place]),HB2.out⟩
  | fault m j=>
   unfold Er.val;go_wp2_with fail;refine(as_any _ _ (.fault _ _ _) _ _ _ _ _ HB.out HG1.out).mono ?_;rintro r w2 ⟨_,h1⟩;obtain⟨rfl,_,hb2⟩:=h1 _ _ _ rfl;have HB2:=hd' (HB1.out.trans hb2);clear hb2 h1;go_wp2_with fail;go_ret;exact⟨ret_bool (by unfold plainB;simp[Er.place]),HB2.out⟩
 ·have b1:(((e.num:Nat):Int)==n)=false:=by simpa using q1
  have Q1:=hd' q1;clear q1;go_wp2_with fail;go_ret;exact⟨ret_bool (by unfold plainB;simp[Q1.out]),HB1.out⟩
end Code
end Go.Proofs.YtpibampaobncaaaGreatDoor
namespace Go.Proofs.YtpibampaobncaaaGreatDoor
open Go.RowKit
namespace Code
attribute [local go_sem ↓] Go.wp_at_zero Go.wp_at_succ
def erOf(r:Int×Option Nat):Er:=if r.1=0 then .nil else match r.2 with
 | none=>.plain r.1.toNat
 | some i=>.fault r.1.toNat i
theorem touch_range(x:B.Ins)(size slots left:Int):0≤x.touch size slots left∧x.touch size slots left≤26:=by
 unfold B.Ins.touch
 repeat' split
 all_goals omega
theorem firstTouch_range{size slots:Int}{len:Nat}:∀(l:List B.Ins) (i:Nat) (e:Int) (j:Nat),B.firstTouch size slots len i l=some (e,j)→0≤e∧e≤26
 | [],i,e,j,h=>by simp[B.firstTouch]at h
 | x::r,i,e,j,h=>by
  rw[firstTouch_step]at h;split at h
  ·simp at h;omega
  ·split at h
   ·simp at h
    rw[←h.1];exact touch_range _ _ _ _
   ·exact firstTouch_range r _ _ _ h
theorem program_range(ps:List B.Ins)(size slots:Int):0≤(B.program ps size slots).1∧(B.program ps size slots).1≤26:=by
 unfold B.program;split
 ·simp
 ·split
  ·simp
  ·cases h:B.firstTouch size slots ps.length 0 ps with
   | some p=>obtain⟨e,i⟩:=p;exact firstTouch_range _ _ _ _ h
   | none=>cases B.firstRead ps<;>simp
def progEr(ps:List B.Ins)(size slots:Int):Er:=erOf (B.program ps size slots)
theorem progEr_val(ps:List B.Ins)(size slots:Int):progErr (B.program ps size slots)=(progEr ps size slots).val:=by
 have h:=program_range ps size slots;unfold progErr progEr erOf;generalize B.program ps size slots=r at h⊢;obtain⟨n,o⟩:=r;simp only at h⊢
 by_cases h0:n=0
 ·rw[if_pos h0,if_pos h0];rfl
 ·rw[if_neg h0,if_neg h0]
  have e:((n.toNat:Nat):Int)=n:=by omega
  cases o with
  | none=>simp only[Er.val,errno,e]
  | some i=>simp only[Er.val,fault,e]
theorem progEr_ok(ps:List B.Ins)(size slots:Int):(progEr ps size slots).ok:=by
 have h:=program_range ps size slots;unfold progEr erOf;generalize B.program ps size slots=r at h⊢;obtain⟨n,o⟩:=r;simp only at h⊢
 by_cases h0:n=0
 ·rw[if_pos h0];trivial
 ·rw[if_neg h0]
  cases o with
  | none=>exact⟨by omega,by omega⟩
  | some i=>exact⟨by omega,by omega⟩
theorem program_er(a:Option Addr)(len cap:Nat)(ps:List B.Ins)(size slots:Int)(w:World)(hp:ProgAt w a len ps)(hwf:∀y∈ps,y.Wf)(ht:Tabs w)(hr:len≤9223372036854775807):
    Calls Tryz.prog 27 #[.slice a len cap,.int .i64 size,.int .i64 slots] w fun e w'=>e= .returned (progEr ps size slots).val∧Below w.heap.size w w':=by
 have:=program_any a len cap ps size slots w hp hwf ht hr;unfold ProgOut at this;rw[progEr_val]at this;exact this
theorem program_yes(a:Option Addr)(len cap:Nat)(ps:List B.Ins)(size slots:Int)(w:World)(hp:ProgAt w a len ps)(hwf:∀y∈ps,y.Wf)(ht:Tabs w)(hr:len≤9223372036854775807)(hm:B.MayRun ps size slots):
    Calls Tryz.prog 27 #[.slice a len cap,.int .i64 size,.int .i64 slots] w fun e w'=>e= .returned .nilIface∧Below w.heap.size w w':=by
 have:=program_er a len cap ps size slots w hp hwf ht hr
 have e:progEr ps size slots= .nil:=by unfold progEr;rw[(B.program_ok ps size slots).2 hm];rfl
 rw[e]at this;exact this
theorem progAt_new(ps:List B.Ins)(C:Array Value)(n:Nat)(t:TypeId)(w:World)(hC:C.toList=cellsP ps)(hn:n=ps.length):ProgAt (w.alloc (.cells C t)) (some ⟨w.heap.size,0,none⟩) n ps:=by
 refine⟨hn,fun i x hx=>⟨w.heap.size,0,rfl,by simp, ?_⟩⟩;have hb:=heap_alloc_new w (.cells C t)
 have hc:∀j u,(cellsI x)[j]? =some u→(w.alloc (.cells C t)).cell? ⟨w.heap.size,0+i*5+j,none⟩=some u:=by
  intro j u hu
  have hj:j<5:=by have:=(List.getElem?_eq_some_iff.1 hu).1;rw[cellsI_length]at this;exact this
  rw[cell_of_row _ _ _ _ _ _ hb,←Array.getElem?_toList,hC,Nat.zero_add,cellsP_get ps i x hx j hj];exact hu
 exact⟨hc 0 _ rfl,hc 1 _ rfl,hc 2 _ rfl,hc 3 _ rfl,hc 4 _ rfl⟩
theorem progAt_drop{w:World}{b off n k m:Nat}{ps:List B.Ins}(h:ProgAt w (some ⟨b,off,none⟩) n ps)(hm:m=n-k):ProgAt w (some ⟨b,off+k*5,none⟩) m (ps.drop k):=by
 refine⟨by rw[List.length_drop,←h.len];exact hm,fun i x hx=> ?_⟩;rw[List.getElem?_drop]at hx;obtain⟨b',off',e,hlt,hat⟩:=h.at_ (k+i) x hx;simp only[Option.some.injEq,Addr.mk.injEq]at e;obtain⟨rfl,rfl,_⟩:=e;refine⟨b,off+k*5,rfl,hlt, ?_⟩;rw[show off+k*5+i*5=off+(k+i)*5 by omega];exact hat
theorem progAt_nil(w:World):ProgAt w none 0 []:=⟨rfl,fun i x hx=>by simp at hx⟩
def pickV(k n:Int):Int:=if n<1 then 0 else k%n
set_option maxHeartbeats 1600000 in
theorem pick_any(k n:Int)(hk:B.In64 k)(hn:n≤1000000)(hn0: -1000000≤n)(w:World):Calls Tryz.prog 19 #[.int .i64 k,.int .i64 n] w fun e w'=>e= .returned (.int .i64 (pickV k n))∧w'=w:=by
 unfold B.In64 at hk;obtain⟨hk0,hk1⟩:=hk;unfold pickV
 by_cases h1:n<1
 ·rw[if_pos h1]
  go_enter Tryz.func19,Tryz.ntmps19
  go_wp2
  go_ret;exact⟨rfl,rfl⟩
 ·rw[if_neg h1]
  have hpos:0<n:=by omega
  have ht:=Int.tmod_lt_of_pos k hpos
  have hb: -n<k.tmod n:=by
   have:=Int.lt_tmod_of_pos k hpos;exact this
  have hw:IntKind.i64.wrap (k.tmod n)=k.tmod n:=IntWalk.i64_in _ (by omega);have hem:= @Int.emod_eq_tmod k n
  by_cases h2:k.tmod n<0
  ·have hw2:IntKind.i64.wrap (k.tmod n+n)=k.tmod n+n:=IntWalk.i64_in _ (by omega)
   have he:k%n=k.tmod n+n:=by
    rw[if_neg ?_]at hem
    ·rw[hem];omega
    ·rintro(h | h)
     ·have:=Int.tmod_nonneg n h;omega
     ·have:=Int.tmod_eq_zero_of_dvd h;omega
   have HE:=hd' he;clear he hem ht hb;go_enter Tryz.func19,Tryz.ntmps19
   go_wp2
   go_ret;exact⟨ret_int HE.out.symm,rfl⟩
  ·have he:k%n=k.tmod n:=by
     rw[if_pos ?_]at hem
     ·rw[hem];simp
     ·by_cases h:0≤k
      ·exact .inl h
      ·right
       apply Int.dvd_of_tmod_eq_zero;have:=Int.tmod_nonneg n (show 0≤ -k by omega);rw[Int.neg_tmod]at this;omega
   have HE:=hd' he;clear he hem ht hb;go_enter Tryz.func19,Tryz.ntmps19
   go_wp2
   go_ret;exact⟨ret_int HE.out.symm,rfl⟩
theorem pickV_range(k n:Int)(h:1≤n):0≤pickV k n∧pickV k n<n:=by
 unfold pickV;rw[if_neg (by omega)];exact⟨Int.emod_nonneg k (by omega),Int.emod_lt_of_pos k (by omega)⟩
structure Ready(w:World):Prop where
 tabs:Tabs w
 err:ErrVar w
theorem Ready.below{N:Nat}{w w':World}(h:Ready w)(hb:Below N w w')(hN:w.heap.size≤N):Ready w':=⟨h.tabs.below hb hN,h.err.below hb hN⟩
instance(n:Int):Decidable (B.In64 n):=inferInstanceAs (Decidable (_∧_))
instance(n:Int):Decidable (B.InU64 n):=inferInstanceAs (Decidable (_∧_))
def p0:List B.Ins:=[⟨15,0,0,0,0⟩,⟨11,0,0,2,0⟩]
end Code
end Go.Proofs.YtpibampaobncaaaGreatDoor
