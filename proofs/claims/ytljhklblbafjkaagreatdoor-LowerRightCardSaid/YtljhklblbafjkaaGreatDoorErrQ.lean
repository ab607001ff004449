/- Go's library: errors.Is and errors.As at the errors of the program: closed facts. -/
import Derived.Test.YtljhklblbafjkaaGreatDoorVerQ
import Derived.LaidEql
import Derived.Stop.Asserts
import Derived.RowKitTokens
namespace Go.Proofs.YtljhklblbafjkaaGreatDoor
open Go.RowKit Go.Extern.Stop Go.Stop Go.Extern
namespace Code
theorem isTypeOf(v:Value)(w:World):(Extern.ReflectliteType.typeOf #[.iface 93 v]).run Tryz.prog w= .ok (.iface 212 (.agg #[.pointer (some ⟨11,93,none⟩)])) w:=by kernel_rfl
theorem isComparable(w:World):((Extern.ReflectliteType.method fun t=>do Go.Extern.Rtype.noPackHeld "Comparable" t;(fun a=>Value.bool a.comparable)<$>typeInfo t) #[.agg #[.pointer (some ⟨11,93,none⟩)]]).run Tryz.prog w= .ok (.bool true) w:=by kernel_rfl
theorem isMethodComparable(v:Value)(w:World):(Go.method 441 212 v "Comparable").run Tryz.prog w= .ok (252,v) w:=by kernel_rfl
theorem noIsE(v:Value)(xT:TypeId)(w:World):(Instr.typeAssert (.iface 93 v) xT 224 true).run Tryz.prog w= .ok (.tuple #[.nilIface,.bool false]) w:=run_typeAssert_lacksB Tryz.underlying224 (by kernel_rfl) (by kernel_rfl) v xT w
theorem noUnwrapE(v:Value)(xT:TypeId)(w:World):(Instr.typeAssert (.iface 93 v) xT 219 true).run Tryz.prog w= .ok (.tuple #[.nilIface,.bool false]) w:=run_typeAssert_lacksB Tryz.underlying219 (by kernel_rfl) (by kernel_rfl) v xT w
theorem noUnwrapsE(v:Value)(xT:TypeId)(w:World):(Instr.typeAssert (.iface 93 v) xT 221 true).run Tryz.prog w= .ok (.tuple #[.nilIface,.bool false]) w:=run_typeAssert_lacksB Tryz.underlying221 (by kernel_rfl) (by kernel_rfl) v xT w
theorem noIsF(v:Value)(xT:TypeId)(w:World):(Instr.typeAssert (.iface 116 v) xT 224 true).run Tryz.prog w= .ok (.tuple #[.nilIface,.bool false]) w:=run_typeAssert_lacksB Tryz.underlying224 (by kernel_rfl) (by kernel_rfl) v xT w
theorem hasUnwrapF(v:Value)(xT:TypeId)(w:World):(Instr.typeAssert (.iface 116 v) xT 219 true).run Tryz.prog w= .ok (.tuple #[.iface 116 v,.bool true]) w:=run_typeAssert_hasB Tryz.underlying219 (by kernel_rfl) v xT w
theorem methodUnwrap(v:Value)(w:World):(Go.method 441 116 v "Unwrap").run Tryz.prog w= .ok (246,v) w:=by kernel_rfl
theorem unwrap_any(no l i:Int)(w:World):Calls Tryz.prog 246 #[.agg #[.int .i64 no,.int .i64 l,.int .i64 i]] w fun e w'=>e= .returned (.iface 93 (.int .i64 no))∧Below w.heap.size w w':=by
 go_enter Tryz.func246,Tryz.ntmps246
 go_wp2
 go_ret;exact⟨rfl,(Below.refl _ _).alloc (Nat.le_refl _) _⟩
theorem eqErrno(a b:Int)(w:World):(binOp .eql 32 (.iface 93 (.int .i64 a)) (.iface 93 (.int .i64 b))).run Tryz.prog w= .ok (.bool (a==b)) w:=by
 obtain⟨i,hi,hc⟩:=Option.map_eq_some_iff.1 (show(Tryz.prog.info? 93).map (·.comparable)=some true by kernel_rfl)
 have h:∀d:Nat,(Op.equalIn (d+2) 32 (.iface 93 (.int .i64 a)) (.iface 93 (.int .i64 b))).run Tryz.prog w= .ok (a==b) w:=fun d=>by
  simp[Op.equalIn,run_underlying Tryz.underlying32,run_underlying Tryz.underlying93,typeInfo,hi,hc]
 simp only[binOp];simp[Op.equal,Op.maxDepth,h 9998]
theorem eqFault(v:Value)(b:Int)(w:World):(binOp .eql 32 (.iface 116 v) (.iface 93 (.int .i64 b))).run Tryz.prog w= .ok (.bool false) w:=
 run_eql_iface_types _ _ _ _ Tryz.underlying32 (by decide) w
set_option maxRecDepth 100000 in
set_option maxHeartbeats 1600000 in
theorem is_errno(n k:Int)(w:World):Calls Tryz.prog 103 #[.iface 93 (.int .i64 n),.iface 93 (.int .i64 k),.bool true] w fun e w'=>e= .returned (.bool (n==k))∧w'=w:=by
 have nE:=noIsE;have uE:=noUnwrapE;have vE:=noUnwrapsE;have qE:=eqErrno n k
 cases hq:(n==k)with
 | true=>
  rw[hq]at qE;go_enter Tryz.func103,Tryz.ntmps103
  go_wp2
  refine wp_loop_rounds 1 ?_;rw[rounds_succ]
  go_wp2
  go_ret;exact⟨rfl,rfl⟩
 | false=>
  rw[hq]at qE;go_enter Tryz.func103,Tryz.ntmps103
  go_wp2
  refine wp_loop_rounds 1 ?_;rw[rounds_succ]
  go_wp2
  go_ret;exact⟨rfl,rfl⟩
set_option maxRecDepth 100000 in
set_option maxHeartbeats 1600000 in
theorem is_fault(no l i k:Int)(w:World):Calls Tryz.prog 103 #[.iface 116 (.agg #[.int .i64 no,.int .i64 l,.int .i64 i]),.iface 93 (.int .i64 k),.bool true] w fun e w'=>e= .returned (.bool (no==k))∧Below w.heap.size w w':=by
 have nE:=noIsE;have uE:=noUnwrapE;have vE:=noUnwrapsE;have nF:=noIsF;have uF:=hasUnwrapF;have mF:=methodUnwrap;have qF:=eqFault (.agg #[.int .i64 no,.int .i64 l,.int .i64 i]) k;have qE:=eqErrno no k
 cases hq:(no==k)with
 | true=>
  rw[hq]at qE;go_enter Tryz.func103,Tryz.ntmps103
  go_wp2
  refine wp_loop_rounds 2 ?_;rw[rounds_succ];go_wp2_with (go_at_call 246;refine(unwrap_any _ _ _ _).mono ?_;rintro e w1 ⟨rfl,hb1⟩);rw[rounds_succ]
  go_wp2
  go_ret;exact⟨rfl,hb1⟩
 | false=>
  rw[hq]at qE;go_enter Tryz.func103,Tryz.ntmps103
  go_wp2
  refine wp_loop_rounds 2 ?_;rw[rounds_succ];go_wp2_with (go_at_call 246;refine(unwrap_any _ _ _ _).mono ?_;rintro e w1 ⟨rfl,hb1⟩);rw[rounds_succ]
  go_wp2
  go_ret;exact⟨rfl,hb1⟩
end Code
end Go.Proofs.YtljhklblbafjkaaGreatDoor
namespace Go.Proofs.YtljhklblbafjkaaGreatDoor
open Go.RowKit Go.Extern.Stop Go.Stop Go.Extern
namespace Code
inductive IsErr:Value→Int→Prop where
 | errno (n:Int):IsErr (errno n) n
 | fault (n l i:Int):IsErr (.iface 116 (.agg #[.int .i64 n,.int .i64 l,.int .i64 i])) n
set_option maxRecDepth 100000 in
set_option maxHeartbeats 1600000 in
theorem errorsIs_any(v:Value)(n k:Int)(h:IsErr v n)(w:World):Calls Tryz.prog 70 #[v,.iface 93 (.int .i64 k)] w fun e w'=>e= .returned (.bool (n==k))∧Below w.heap.size w w':=by
 have h8:= @run_callFunc_extern Tryz.prog 102 _ Extern.ReflectliteType.typeOf Tryz.func102 (by kernel_rfl) (by kernel_rfl) (by kernel_rfl) (by kernel_rfl);have h32:= @run_callFunc_extern Tryz.prog 252 _ (Extern.ReflectliteType.method fun t=>do Go.Extern.Rtype.noPackHeld "Comparable" t;pure (.bool (←typeInfo t).comparable)) Tryz.func252 (by kernel_rfl) (by kernel_rfl) (by kernel_rfl) (by kernel_rfl);have tT:=isTypeOf;have cT:=isComparable;have mR:=isMethodComparable
 cases h with
 | errno n=>
  unfold errno;go_enter Tryz.func70,Tryz.ntmps70;go_wp2_with (go_at_call 103;refine(is_errno _ _ _).mono ?_;rintro e w1 ⟨rfl,rfl⟩);go_ret;exact⟨rfl,Below.refl _ _⟩
 | fault n l i=>
  go_enter Tryz.func70,Tryz.ntmps70;go_wp2_with (go_at_call 103;refine(is_fault _ _ _ _ _).mono ?_;rintro e w1 ⟨rfl,hb1⟩);go_ret;exact⟨rfl,hb1⟩
end Code
end Go.Proofs.YtljhklblbafjkaaGreatDoor
namespace Go.Proofs.YtljhklblbafjkaaGreatDoor
open Go.RowKit
namespace Code
attribute [local go_sem ↓] Go.wp_at_zero Go.wp_at_succ
inductive Er where
 | nil
 | plain (n:Nat)
 | fault (n:Nat) (i:Int)
def Er.val:Er→Value
 | .nil=>.nilIface
 | .plain n=>.iface 93 (.int .i64 n)
 | .fault n i=>.iface 116 (.agg #[.int .i64 n,.int .i64 0,.int .i64 i])
def Er.num:Er→Nat
 | .nil=>0
 | .plain n=>n
 | .fault n _=>n
def Er.ok:Er→Prop
 | .nil=>True
 | .plain n=>1≤n∧n≤26
 | .fault n _=>1≤n∧n≤26
def Er.place:Er→Int×Bool
 | .fault _ i=>(i,true)
 | _=>(0,false)
end Code
end Go.Proofs.YtljhklblbafjkaaGreatDoor
namespace Go.Proofs.YtljhklblbafjkaaGreatDoor
open Go.RowKit
namespace Code
attribute [local go_sem ↓] Go.wp_at_zero Go.wp_at_succ
def erOf(r:Int×Option Nat):Er:=if r.1=0 then .nil else match r.2 with
 | none=>.plain r.1.toNat
 | some i=>.fault r.1.toNat i
theorem touch_range(x:B.Ins)(size slots left:Int):0≤x.touch size slots left∧x.touch size slots left≤26:=by
 unfold B.Ins.touch
 repeat' split
 all_goals omega
theorem firstTouch_range{size slots:Int}{len:Nat}:∀(l:List B.Ins) (i:Nat) (e:Int) (j:Nat),B.firstTouch size slots len i l=some (e,j)→0≤e∧e≤26
 | [],i,e,j,h=>by simp[B.firstTouch]at h
 | x::r,i,e,j,h=>by
  rw[firstTouch_step]at h;split at h
  ·simp at h;omega
  ·split at h
   ·simp at h
    rw[←h.1];exact touch_range _ _ _ _
   ·exact firstTouch_range r _ _ _ h
theorem program_range(ps:List B.Ins)(size slots:Int):0≤(B.program ps size slots).1∧(B.program ps size slots).1≤26:=by
 unfold B.program;split
 ·simp
 ·split
  ·simp
  ·cases h:B.firstTouch size slots ps.length 0 ps with
   | some p=>obtain⟨e,i⟩:=p;exact firstTouch_range _ _ _ _ h
   | none=>cases B.firstRead ps<;>simp
def progEr(ps:List B.Ins)(size slots:Int):Er:=erOf (B.program ps size slots)
theorem progEr_val(ps:List B.Ins)(size slots:Int):progErr (B.program ps size slots)=(progEr ps size slots).val:=by
 have h:=program_range ps size slots;unfold progErr progEr erOf;generalize B.program ps size slots=r at h⊢;obtain⟨n,o⟩:=r;simp only at h⊢
 by_cases h0:n=0
 ·rw[if_pos h0,if_pos h0];rfl
 ·rw[if_neg h0,if_neg h0]
  have e:((n.toNat:Nat):Int)=n:=by omega
  cases o with
  | none=>simp only[Er.val,errno,e]
  | some i=>simp only[Er.val,fault,e]
theorem program_er(a:Option Addr)(len cap:Nat)(ps:List B.Ins)(size slots:Int)(w:World)(hp:ProgAt w a len ps)(hwf:∀y∈ps,y.Wf)(ht:Tabs w)(hr:len≤9223372036854775807):
    Calls Tryz.prog 19 #[.slice a len cap,.int .i64 size,.int .i64 slots] w fun e w'=>e= .returned (progEr ps size slots).val∧Below w.heap.size w w':=by
 have:=program_any a len cap ps size slots w hp hwf ht hr;unfold ProgOut at this;rw[progEr_val]at this;exact this
theorem program_yes(a:Option Addr)(len cap:Nat)(ps:List B.Ins)(size slots:Int)(w:World)(hp:ProgAt w a len ps)(hwf:∀y∈ps,y.Wf)(ht:Tabs w)(hr:len≤9223372036854775807)(hm:B.MayRun ps size slots):
    Calls Tryz.prog 19 #[.slice a len cap,.int .i64 size,.int .i64 slots] w fun e w'=>e= .returned .nilIface∧Below w.heap.size w w':=by
 have:=program_er a len cap ps size slots w hp hwf ht hr
 have e:progEr ps size slots= .nil:=by unfold progEr;rw[(B.program_ok ps size slots).2 hm];rfl
 rw[e]at this;exact this
theorem progAt_new(ps:List B.Ins)(C:Array Value)(n:Nat)(t:TypeId)(w:World)(hC:C.toList=cellsP ps)(hn:n=ps.length):ProgAt (w.alloc (.cells C t)) (some ⟨w.heap.size,0,none⟩) n ps:=by
 refine⟨hn,fun i x hx=>⟨w.heap.size,0,rfl,by simp, ?_⟩⟩;have hb:=heap_alloc_new w (.cells C t)
 have hc:∀j u,(cellsI x)[j]? =some u→(w.alloc (.cells C t)).cell? ⟨w.heap.size,0+i*5+j,none⟩=some u:=by
  intro j u hu
  have hj:j<5:=by have:=(List.getElem?_eq_some_iff.1 hu).1;rw[cellsI_length]at this;exact this
  rw[cell_of_row _ _ _ _ _ _ hb,←Array.getElem?_toList,hC,Nat.zero_add,cellsP_get ps i x hx j hj];exact hu
 exact⟨hc 0 _ rfl,hc 1 _ rfl,hc 2 _ rfl,hc 3 _ rfl,hc 4 _ rfl⟩
theorem progAt_nil(w:World):ProgAt w none 0 []:=⟨rfl,fun i x hx=>by simp at hx⟩
instance(n:Int):Decidable (B.In64 n):=inferInstanceAs (Decidable (_∧_))
instance(n:Int):Decidable (B.InU64 n):=inferInstanceAs (Decidable (_∧_))
end Code
end Go.Proofs.YtljhklblbafjkaaGreatDoor
