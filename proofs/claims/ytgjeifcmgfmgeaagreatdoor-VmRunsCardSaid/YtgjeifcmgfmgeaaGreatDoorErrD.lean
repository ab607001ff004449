/- Go's library: errors.As at a place for the program's Fault. -/
import Derived.Test.YtgjeifcmgfmgeaaGreatDoorErrB
import Derived.Test.YtgjeifcmgfmgeaaGreatDoorErrC
import Derived.Deep.MidRow
namespace Go.Proofs.YtgjeifcmgfmgeaaGreatDoor
open Go.RowKit Go.Extern.Stop Go.Stop Go.Extern

namespace Code

theorem partsA (a : Addr) (w : World) : (ReflectliteValue.parts (.agg #[.pointer (some ⟨9, 146, none⟩), .pointer (some a), .int .u64 409])).run Tryz.prog w = .ok (some (146, a, 409)) w := by kernel_rfl
theorem partsF (a : Addr) (w : World) : (ReflectliteValue.parts (.agg #[.pointer (some ⟨9, 146, none⟩), .pointer (some a), .int .u64 153])).run Tryz.prog w = .ok (some (146, a, 153)) w := by kernel_rfl
theorem directF (w : World) : (Rtype.directlyAssignable 146 146).run Tryz.prog w = .ok true w := by kernel_rfl
theorem sizeF : (Tryz.prog.info? 146).map (·.size) = some 3 := by kernel_rfl

theorem rls (v x : Value) : ReflectliteValue.set #[v, x] = (do
    let (some (dst, a, fl), some (src, b, _)) := (← ReflectliteValue.parts v, ← ReflectliteValue.parts x)
     | unsupported (.noEntry "extern/(internal/reflectlite.Value).Set.zeroValue")
    if fl / ReflectliteValue.flagAddr % 2 == 0 then unsupported (.noEntry "extern/(internal/reflectlite.Value).Set.unaddressable")
    let val ← loadVar src b
    if ← Rtype.directlyAssignable dst src then storeVar dst a val
    else if ← Rtype.implements dst src then
     if (← Rtype.kind src) == 20 then
      match val with
      | .nilIface => unsupported (.noEntry "extern/reflectlite: a nil value of one interface type handed on as a value of another")
      | _ => storeVar dst a val
     else storeVar dst a (.iface src val)
    else panicString ("reflectlite.Set: value of type " ++ (← Rtype.spelt src) ++ " is not assignable to type " ++ (← Rtype.spelt dst))
    pure (.tuple #[])) := rfl

theorem setF (B b : Nat) (n l i : Int) (o0 o1 o2 : Value) (W : World) (hb : W.heap[b]? = some (.cells #[.int .i64 n, .int .i64 l, .int .i64 i] 146 (0, 0))) (hB : W.heap[B]? = some (.cells #[o0, o1, o2] 146 (0, 0))) :
    (ReflectliteValue.set #[.agg #[.pointer (some ⟨9, 146, none⟩), .pointer (some ⟨B, 0, none⟩), .int .u64 409], .agg #[.pointer (some ⟨9, 146, none⟩), .pointer (some ⟨b, 0, none⟩), .int .u64 153]]).run Tryz.prog W
     = .ok (.tuple #[]) (W.setCells B 0 [.int .i64 n, .int .i64 l, .int .i64 i]) := by
 have hr : W.rangeAt b 0 [.int .i64 n, .int .i64 l, .int .i64 i] := fun j v hv => by rw [cell_of_row _ _ _ _ _ _ hb]; simpa using hv
 have hl := run_loadVar_mid (P := Tryz.prog) W b 0 146 [.int .i64 n, .int .i64 l, .int .i64 i] _ hr Tryz.underlying146 rfl sizeF
 have ht : W.there B 0 3 := fun j hj => by
  constructor
  ·rw [cell_of_row _ _ _ _ _ _ hB]; simp; omega
  ·exact frozen_blk hB
 have hs := run_storeVar_mid (P := Tryz.prog) W B 0 146 #[.int .i64 n, .int .i64 l, .int .i64 i] ht sizeF (by simp [Value.oneCell'])
 have hl' : (loadVar 146 ⟨b, 0, none⟩).run Tryz.prog W = .ok (.agg #[.int .i64 n, .int .i64 l, .int .i64 i]) W := hl
 have hs' : (storeVar 146 ⟨B, 0, none⟩ (.agg #[.int .i64 n, .int .i64 l, .int .i64 i])).run Tryz.prog W = .ok () (W.setCells B 0 [.int .i64 n, .int .i64 l, .int .i64 i]) := hs
 rw [rls]
 simp only [Sem.run_bind, partsA, partsF, Result.andThen]
 simp [ReflectliteValue.flagAddr, hl', Result.andThen, directF, hs']

/-- what errors.As asks of the world: errors' own variable -/
def ErrVar (w : World) : Prop := w.cell? ⟨0, 0, none⟩ = some (.iface 268 (.agg #[.pointer (some ⟨9, 25, none⟩)]))

/-- a Fault's place is known -/
def FaultAt (w : World) (B : Nat) (n l i : Int) : Prop := w.heap[B]? = some (.cells #[.int .i64 n, .int .i64 l, .int .i64 i] 146 (0, 0))

/-- no Fault is found -/
def AsNo (w : World) (e : Ending) (w' : World) : Prop := e = .returned (.bool false) ∧ Below w.heap.size w w'
/-- a Fault is found -/
def AsYes (B : Nat) (n l i : Int) (w : World) (e : Ending) (w' : World) : Prop := e = .returned (.bool true) ∧ FaultAt w' B n l i ∧ Below B w w'

set_option maxRecDepth 100000 in
set_option maxHeartbeats 4000000 in
theorem as_errno (n : Int) (B : Nat) (tv : Value) (w : World) :
    Calls Tryz.prog 147 #[.iface 132 (.int .i64 n), .iface 149 (.pointer (some ⟨B, 0, none⟩)), .agg #[.pointer (some ⟨9, 149, none⟩), tv, .int .u64 150], .iface 268 (.agg #[.pointer (some ⟨9, 146, none⟩)])] w (AsNo w) := by
 have h10 := @run_callFunc_extern Tryz.prog 168 _ ReflectliteType.typeOf Tryz.func168 (by kernel_rfl) (by kernel_rfl) (by kernel_rfl) (by kernel_rfl)
 have h35 := @run_callFunc_extern Tryz.prog 283 _ (ReflectliteType.relation "AssignableTo" ReflectliteType.assignableTo) Tryz.func283 (by kernel_rfl) (by kernel_rfl) (by kernel_rfl) (by kernel_rfl)
 have tO := isTypeOf
 have mA := methodAssignableTo
 have aE := assignableE
 have nA := noAsE
 have nU := noUnwrapE
 have nV := noUnwrapsE
 go_enter Tryz.func147, Tryz.ntmps147
 go_wp2
 refine wp_loop_rounds 1 ?_
 rw [rounds_succ]
 go_wp2
 go_ret
 exact ⟨rfl, (Below.refl _ _).alloc (Nat.le_refl _) _⟩

theorem faultAt_set {w : World} {B : Nat} {n l i : Int} {o0 o1 o2 : Value} (hB : w.heap[B]? = some (.cells #[o0, o1, o2] 146 (0, 0))) : FaultAt (w.setCells B 0 [.int .i64 n, .int .i64 l, .int .i64 i]) B n l i := by
 have h1 := blk_setCell (off := 0) hB (.int .i64 n)
 have h2 := blk_setCell (off := 1) h1 (.int .i64 l)
 have h3 := blk_setCell (off := 2) h2 (.int .i64 i)
 exact h3
theorem below_setCells3 {w : World} {B : Nat} {a b c : Value} : Below B w (w.setCells B 0 [a, b, c]) := (((Below.refl B w).setCell (Nat.le_refl _) _).setCell (Nat.le_refl _) _).setCell (Nat.le_refl _) _

set_option maxRecDepth 100000 in
set_option maxHeartbeats 4000000 in
theorem as_fault (n l i : Int) (B tb : Nat) (o0 o1 o2 : Value) (w : World) (hB : w.heap[B]? = some (.cells #[o0, o1, o2] 146 (0, 0))) (htb : w.cell? ⟨tb, 0, none⟩ = some (.pointer (some ⟨B, 0, none⟩))) :
    Calls Tryz.prog 147 #[.iface 146 (.agg #[.int .i64 n, .int .i64 l, .int .i64 i]), .iface 149 (.pointer (some ⟨B, 0, none⟩)), .agg #[.pointer (some ⟨9, 149, none⟩), .pointer (some ⟨tb, 0, none⟩), .int .u64 150], .iface 268 (.agg #[.pointer (some ⟨9, 146, none⟩)])] w (AsYes B n l i w) := by
 have h10 := @run_callFunc_extern Tryz.prog 168 _ ReflectliteType.typeOf Tryz.func168 (by kernel_rfl) (by kernel_rfl) (by kernel_rfl) (by kernel_rfl)
 have h35 := @run_callFunc_extern Tryz.prog 283 _ (ReflectliteType.relation "AssignableTo" ReflectliteType.assignableTo) Tryz.func283 (by kernel_rfl) (by kernel_rfl) (by kernel_rfl) (by kernel_rfl)
 have h6 := @run_callFunc_extern Tryz.prog 144 _ (fun args => ReflectliteValue.unpack (args.getD 0 (.tuple #[]))) Tryz.func144 (by kernel_rfl) (by kernel_rfl) (by kernel_rfl) (by kernel_rfl)
 have h11 := @run_callFunc_extern Tryz.prog 170 _ (ReflectliteValue.method (ReflectliteValue.valueError "reflectlite.Value.Elem" 0) ReflectliteValue.elem) Tryz.func170 (by kernel_rfl) (by kernel_rfl) (by kernel_rfl) (by kernel_rfl)
 have h12 := @run_callFunc_extern Tryz.prog 171 _ ReflectliteValue.set Tryz.func171 (by kernel_rfl) (by kernel_rfl) (by kernel_rfl) (by kernel_rfl)
 have tO := typeOfF
 have mA := methodAssignableTo
 have aF := assignableF
 have vF := valueOfF
 have htl := World.block_lt_of_cell? w _ htb
 have hBl := lt_of_block hB
 have el := elemV ⟨tb, 0, none⟩ ⟨B, 0, none⟩ (w.alloc (.cells #[.pointer (some ⟨9, 149, none⟩), .pointer (some ⟨tb, 0, none⟩), .int .u64 150] 234)) ((World.cell?_alloc_lt _ _ _ htl).trans htb)
 have hB2 := blk_alloc (o := .cells #[.int .i64 n, .int .i64 l, .int .i64 i] 146) (blk_alloc (o := .cells #[.pointer (some ⟨9, 149, none⟩), .pointer (some ⟨tb, 0, none⟩), .int .u64 150] 234) hB)
 have hnew := heap_alloc_new (w.alloc (.cells #[.pointer (some ⟨9, 149, none⟩), .pointer (some ⟨tb, 0, none⟩), .int .u64 150] 234)) (.cells #[.int .i64 n, .int .i64 l, .int .i64 i] 146)
 have hsz : (w.alloc (.cells #[.pointer (some ⟨9, 149, none⟩), .pointer (some ⟨tb, 0, none⟩), .int .u64 150] 234)).heap.size = w.heap.size + 1 := by simp
 rw [hsz] at hnew
 have st := setF B (w.heap.size + 1) n l i o0 o1 o2 _ hnew hB2
 have HB := Lib.hid hBl
 have HB2 := Lib.hid hB2
 clear hnew hB2 hsz hBl
 go_enter Tryz.func147, Tryz.ntmps147
 go_wp2
 refine wp_loop_rounds 1 ?_
 rw [rounds_succ]
 go_wp2
 go_ret
 exact ⟨rfl, faultAt_set HB2.out, (((Below.refl B w).alloc (Nat.le_of_lt HB.out) _).alloc (by simp; have := HB.out; omega) _).trans below_setCells3⟩

end Code
end Go.Proofs.YtgjeifcmgfmgeaaGreatDoor
