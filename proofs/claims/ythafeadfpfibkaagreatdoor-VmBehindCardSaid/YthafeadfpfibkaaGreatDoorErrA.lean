/- Go's library: errors.Is and errors.As at the errors of the program: closed facts. -/
import Derived.Test.YthafeadfpfibkaaGreatDoorVerF
import Derived.LaidEql
import Derived.Stop.Asserts
import Derived.RowKitTokens
namespace Go.Proofs.YthafeadfpfibkaaGreatDoor
open Go.RowKit Go.Extern.Stop Go.Stop Go.Extern

namespace Code

theorem isTypeOf (v : Value) (w : World) : (Extern.ReflectliteType.typeOf #[.iface 95 v]).run Tryz.prog w = .ok (.iface 223 (.agg #[.pointer (some ⟨9, 95, none⟩)])) w := by kernel_rfl
theorem isComparable (w : World) : ((Extern.ReflectliteType.method fun t => do Go.Extern.Rtype.noPackHeld "Comparable" t; (fun a => Value.bool a.comparable) <$> typeInfo t) #[.agg #[.pointer (some ⟨9, 95, none⟩)]]).run Tryz.prog w = .ok (.bool true) w := by kernel_rfl
theorem isMethodComparable (v : Value) (w : World) : (Go.method 448 223 v "Comparable").run Tryz.prog w = .ok (233, v) w := by kernel_rfl

theorem noIsE (v : Value) (xT : TypeId) (w : World) : (Instr.typeAssert (.iface 95 v) xT 225 true).run Tryz.prog w = .ok (.tuple #[.nilIface, .bool false]) w := run_typeAssert_lacksB Tryz.underlying225 (by kernel_rfl) (by kernel_rfl) v xT w
theorem noUnwrapE (v : Value) (xT : TypeId) (w : World) : (Instr.typeAssert (.iface 95 v) xT 228 true).run Tryz.prog w = .ok (.tuple #[.nilIface, .bool false]) w := run_typeAssert_lacksB Tryz.underlying228 (by kernel_rfl) (by kernel_rfl) v xT w
theorem noUnwrapsE (v : Value) (xT : TypeId) (w : World) : (Instr.typeAssert (.iface 95 v) xT 230 true).run Tryz.prog w = .ok (.tuple #[.nilIface, .bool false]) w := run_typeAssert_lacksB Tryz.underlying230 (by kernel_rfl) (by kernel_rfl) v xT w
theorem noAsE (v : Value) (xT : TypeId) (w : World) : (Instr.typeAssert (.iface 95 v) xT 237 true).run Tryz.prog w = .ok (.tuple #[.nilIface, .bool false]) w := run_typeAssert_lacksB Tryz.underlying237 (by kernel_rfl) (by kernel_rfl) v xT w
theorem noIsF (v : Value) (xT : TypeId) (w : World) : (Instr.typeAssert (.iface 108 v) xT 225 true).run Tryz.prog w = .ok (.tuple #[.nilIface, .bool false]) w := run_typeAssert_lacksB Tryz.underlying225 (by kernel_rfl) (by kernel_rfl) v xT w
theorem hasUnwrapF (v : Value) (xT : TypeId) (w : World) : (Instr.typeAssert (.iface 108 v) xT 228 true).run Tryz.prog w = .ok (.tuple #[.iface 108 v, .bool true]) w := run_typeAssert_hasB Tryz.underlying228 (by kernel_rfl) v xT w
theorem methodUnwrap (v : Value) (w : World) : (Go.method 448 108 v "Unwrap").run Tryz.prog w = .ok (225, v) w := by kernel_rfl

theorem unwrap_any (no l i : Int) (w : World) : Calls Tryz.prog 225 #[.agg #[.int .i64 no, .int .i64 l, .int .i64 i]] w fun e w' => e = .returned (.iface 95 (.int .i64 no)) ∧ Below w.heap.size w w' := by
  go_enter Tryz.func225, Tryz.ntmps225
  go_wp2
  go_ret
  exact ⟨rfl, (Below.refl _ _).alloc (Nat.le_refl _) _⟩

/-- two numbers of errors, as errors, are the same just if they are as numbers -/
theorem eqErrno (a b : Int) (w : World) : (binOp .eql 31 (.iface 95 (.int .i64 a)) (.iface 95 (.int .i64 b))).run Tryz.prog w = .ok (.bool (a == b)) w := by
  obtain ⟨i, hi, hc⟩ := Option.map_eq_some_iff.1 (show (Tryz.prog.info? 95).map (·.comparable) = some true by kernel_rfl)
  have h : ∀ d : Nat, (Op.equalIn (d + 2) 31 (.iface 95 (.int .i64 a)) (.iface 95 (.int .i64 b))).run Tryz.prog w = .ok (a == b) w := fun d => by
    simp [Op.equalIn, run_underlying Tryz.underlying31, run_underlying Tryz.underlying95, typeInfo, hi, hc]
  simp only [binOp]
  simp [Op.equal, Op.maxDepth, h 9998]

theorem eqFault (v : Value) (b : Int) (w : World) : (binOp .eql 31 (.iface 108 v) (.iface 95 (.int .i64 b))).run Tryz.prog w = .ok (.bool false) w :=
  run_eql_iface_types _ _ _ _ Tryz.underlying31 (by decide) w

set_option maxRecDepth 100000 in
set_option maxHeartbeats 1600000 in
theorem is_errno (n k : Int) (w : World) : Calls Tryz.prog 90 #[.iface 95 (.int .i64 n), .iface 95 (.int .i64 k), .bool true] w fun e w' => e = .returned (.bool (n == k)) ∧ w' = w := by
  have nE := noIsE
  have uE := noUnwrapE
  have vE := noUnwrapsE
  have qE := eqErrno n k
  cases hq : (n == k) with
  | true =>
    rw [hq] at qE
    go_enter Tryz.func90, Tryz.ntmps90
    go_wp2
    refine wp_loop_rounds 1 ?_
    rw [rounds_succ]
    go_wp2
    go_ret
    exact ⟨rfl, rfl⟩
  | false =>
    rw [hq] at qE
    go_enter Tryz.func90, Tryz.ntmps90
    go_wp2
    refine wp_loop_rounds 1 ?_
    rw [rounds_succ]
    go_wp2
    go_ret
    exact ⟨rfl, rfl⟩

set_option maxRecDepth 100000 in
set_option maxHeartbeats 1600000 in
theorem is_fault (no l i k : Int) (w : World) : Calls Tryz.prog 90 #[.iface 108 (.agg #[.int .i64 no, .int .i64 l, .int .i64 i]), .iface 95 (.int .i64 k), .bool true] w fun e w' => e = .returned (.bool (no == k)) ∧ Below w.heap.size w w' := by
  have nE := noIsE
  have uE := noUnwrapE
  have vE := noUnwrapsE
  have nF := noIsF
  have uF := hasUnwrapF
  have mF := methodUnwrap
  have qF := eqFault (.agg #[.int .i64 no, .int .i64 l, .int .i64 i]) k
  have qE := eqErrno no k
  cases hq : (no == k) with
  | true =>
    rw [hq] at qE
    go_enter Tryz.func90, Tryz.ntmps90
    go_wp2
    refine wp_loop_rounds 2 ?_
    rw [rounds_succ]
    go_wp2_with (go_at_call 225; refine (unwrap_any _ _ _ _).mono ?_; rintro e w1 ⟨rfl, hb1⟩)
    rw [rounds_succ]
    go_wp2
    go_ret
    exact ⟨rfl, hb1⟩
  | false =>
    rw [hq] at qE
    go_enter Tryz.func90, Tryz.ntmps90
    go_wp2
    refine wp_loop_rounds 2 ?_
    rw [rounds_succ]
    go_wp2_with (go_at_call 225; refine (unwrap_any _ _ _ _).mono ?_; rintro e w1 ⟨rfl, hb1⟩)
    rw [rounds_succ]
    go_wp2
    go_ret
    exact ⟨rfl, hb1⟩

end Code
end Go.Proofs.YthafeadfpfibkaaGreatDoor
