/- Go's library: errors.As at a place for the program's Fault: closed facts. -/
import Derived.Test.YtgjeifcmgfmgeaaGreatDoorErrA
namespace Go.Proofs.YtgjeifcmgfmgeaaGreatDoor
open Go.RowKit Go.Extern.Stop Go.Stop Go.Extern

namespace Code

/-- the handle of a type -/
abbrev hd (t : Nat) : Value := .agg #[.pointer (some ⟨9, t, none⟩)]

theorem valueOfP (t : Addr) (w : World) : (ReflectliteValue.unpack (.iface 149 (.pointer (some t)))).run Tryz.prog w
    = .ok (.agg #[.pointer (some ⟨9, 149, none⟩), .pointer (some ⟨w.heap.size, 0, none⟩), .int .u64 150]) (w.alloc (.cells #[.pointer (some t)] 149)) := by kernel_rfl
theorem typeP (a : Addr) (w : World) : (ReflectliteValue.methodAny (ReflectliteValue.valueError "reflectlite.Value.Type" 0) (fun t _ _ _ => ReflectliteType.toType t) #[.agg #[.pointer (some ⟨9, 149, none⟩), .pointer (some a), .int .u64 150]]).run Tryz.prog w
    = .ok (.iface 268 (.agg #[.pointer (some ⟨9, 149, none⟩)])) w := by kernel_rfl
theorem methodKind (h : Value) (w : World) : (Go.method 493 268 (.agg #[h]) "Kind").run Tryz.prog w = .ok (271, h) w := by kernel_rfl
theorem kindP (w : World) : ((ReflectliteType.abiMethod fun t => (fun a : Nat => Value.int IntKind.u8 (a : Int)) <$> Rtype.kind t) #[.pointer (some ⟨9, 149, none⟩)]).run Tryz.prog w = .ok (.int .u8 22) w := by kernel_rfl
theorem kindF (w : World) : ((ReflectliteType.abiMethod fun t => (fun a : Nat => Value.int IntKind.u8 (a : Int)) <$> Rtype.kind t) #[.pointer (some ⟨9, 146, none⟩)]).run Tryz.prog w = .ok (.int .u8 25) w := by kernel_rfl

theorem rlm (z : Sem Value) (f : TypeId → Addr → Nat → Nat → Sem Value) (v : Value) :
    ReflectliteValue.method z f #[v] = (do match ← ReflectliteValue.parts v with | none => z | some (t, a, fl) => f t a fl (fl % 32)) := rfl
theorem partsP (a : Addr) (w : World) : (ReflectliteValue.parts (.agg #[.pointer (some ⟨9, 149, none⟩), .pointer (some a), .int .u64 150])).run Tryz.prog w = .ok (some (149, a, 150)) w := by kernel_rfl
theorem isNilP (a p : Addr) (W : World) (ha : W.cell? a = some (.pointer (some p))) :
    (ReflectliteValue.method (ReflectliteValue.valueError "reflectlite.Value.IsNil" 0) ReflectliteValue.isNil #[.agg #[.pointer (some ⟨9, 149, none⟩), .pointer (some a), .int .u64 150]]).run Tryz.prog W = .ok (.bool false) W := by
 rw [rlm]
 simp only [Sem.run_bind, partsP, Result.andThen]
 simp [ReflectliteValue.isNil, loadVar, isAgg, underlying, Tryz.underlying149, ha, Result.andThen]

theorem methodElem (h : Value) (w : World) : (Go.method 493 268 (.agg #[h]) "Elem").run Tryz.prog w = .ok (285, .agg #[h]) w := by kernel_rfl
theorem methodImplements (h : Value) (w : World) : (Go.method 493 268 (.agg #[h]) "Implements").run Tryz.prog w = .ok (286, .agg #[h]) w := by kernel_rfl
theorem methodAssignableTo (h : Value) (w : World) : (Go.method 493 268 (.agg #[h]) "AssignableTo").run Tryz.prog w = .ok (283, .agg #[h]) w := by kernel_rfl
theorem elemP (w : World) : (ReflectliteType.method ReflectliteType.elem #[.agg #[.pointer (some ⟨9, 149, none⟩)]]).run Tryz.prog w = .ok (.iface 268 (.agg #[.pointer (some ⟨9, 146, none⟩)])) w := by kernel_rfl
theorem implementsF (w : World) : (ReflectliteType.relation "Implements" ReflectliteType.implements_ #[.agg #[.pointer (some ⟨9, 146, none⟩)], .iface 268 (.agg #[.pointer (some ⟨9, 25, none⟩)])]).run Tryz.prog w = .ok (.bool true) w := by kernel_rfl
theorem typeOfF (v : Value) (w : World) : (ReflectliteType.typeOf #[.iface 146 v]).run Tryz.prog w = .ok (.iface 268 (.agg #[.pointer (some ⟨9, 146, none⟩)])) w := by kernel_rfl
theorem assignableF (w : World) : (ReflectliteType.relation "AssignableTo" ReflectliteType.assignableTo #[.agg #[.pointer (some ⟨9, 146, none⟩)], .iface 268 (.agg #[.pointer (some ⟨9, 146, none⟩)])]).run Tryz.prog w = .ok (.bool true) w := by kernel_rfl
theorem assignableE (w : World) : (ReflectliteType.relation "AssignableTo" ReflectliteType.assignableTo #[.agg #[.pointer (some ⟨9, 132, none⟩)], .iface 268 (.agg #[.pointer (some ⟨9, 146, none⟩)])]).run Tryz.prog w = .ok (.bool false) w := by kernel_rfl
theorem valueOfF (a b c : Value) (w : World) : (ReflectliteValue.unpack (.iface 146 (.agg #[a, b, c]))).run Tryz.prog w
    = .ok (.agg #[.pointer (some ⟨9, 146, none⟩), .pointer (some ⟨w.heap.size, 0, none⟩), .int .u64 153]) (w.alloc (.cells #[a, b, c] 146)) := by kernel_rfl

theorem elemOfP (w : World) : (Rtype.elem? 149).run Tryz.prog w = .ok (some 146) w := by kernel_rfl
theorem mkF (p : Addr) (w : World) : (ReflectliteValue.mk 146 p ReflectliteValue.flagAddr).run Tryz.prog w = .ok (.agg #[.pointer (some ⟨9, 146, none⟩), .pointer (some p), .int .u64 409]) w := by kernel_rfl
theorem elemV (a p : Addr) (W : World) (ha : W.cell? a = some (.pointer (some p))) :
    (ReflectliteValue.method (ReflectliteValue.valueError "reflectlite.Value.Elem" 0) ReflectliteValue.elem #[.agg #[.pointer (some ⟨9, 149, none⟩), .pointer (some a), .int .u64 150]]).run Tryz.prog W
     = .ok (.agg #[.pointer (some ⟨9, 146, none⟩), .pointer (some p), .int .u64 409]) W := by
 rw [rlm]
 simp only [Sem.run_bind, partsP, Result.andThen]
 simp [ReflectliteValue.elem, loadVar, isAgg, underlying, Tryz.underlying149, ha, Result.andThen, elemOfP, mkF]

end Code
end Go.Proofs.YtgjeifcmgfmgeaaGreatDoor
