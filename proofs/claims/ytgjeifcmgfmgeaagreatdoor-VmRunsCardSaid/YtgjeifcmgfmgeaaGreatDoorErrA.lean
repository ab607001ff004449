/- Go's library: errors.Is and errors.As at the errors of the program: closed facts. -/
import Derived.Test.YtgjeifcmgfmgeaaGreatDoorVerF
import Derived.LaidEql
import Derived.Stop.Asserts
import Derived.RowKitTokens
namespace Go.Proofs.YtgjeifcmgfmgeaaGreatDoor
open Go.RowKit Go.Extern.Stop Go.Stop Go.Extern

namespace Code

theorem isTypeOf (v : Value) (w : World) : (Extern.ReflectliteType.typeOf #[.iface 132 v]).run Tryz.prog w = .ok (.iface 268 (.agg #[.pointer (some ⟨9, 132, none⟩)])) w := by kernel_rfl
theorem isComparable (w : World) : ((Extern.ReflectliteType.method fun t => do Go.Extern.Rtype.noPackHeld "Comparable" t; (fun a => Value.bool a.comparable) <$> typeInfo t) #[.agg #[.pointer (some ⟨9, 132, none⟩)]]).run Tryz.prog w = .ok (.bool true) w := by kernel_rfl
theorem isMethodComparable (v : Value) (w : World) : (Go.method 493 268 v "Comparable").run Tryz.prog w = .ok (284, v) w := by kernel_rfl

theorem noIsE (v : Value) (xT : TypeId) (w : World) : (Instr.typeAssert (.iface 132 v) xT 298 true).run Tryz.prog w = .ok (.tuple #[.nilIface, .bool false]) w := run_typeAssert_lacksB Tryz.underlying298 (by kernel_rfl) (by kernel_rfl) v xT w
theorem noUnwrapE (v : Value) (xT : TypeId) (w : World) : (Instr.typeAssert (.iface 132 v) xT 275 true).run Tryz.prog w = .ok (.tuple #[.nilIface, .bool false]) w := run_typeAssert_lacksB Tryz.underlying275 (by kernel_rfl) (by kernel_rfl) v xT w
theorem noUnwrapsE (v : Value) (xT : TypeId) (w : World) : (Instr.typeAssert (.iface 132 v) xT 277 true).run Tryz.prog w = .ok (.tuple #[.nilIface, .bool false]) w := run_typeAssert_lacksB Tryz.underlying277 (by kernel_rfl) (by kernel_rfl) v xT w
theorem noAsE (v : Value) (xT : TypeId) (w : World) : (Instr.typeAssert (.iface 132 v) xT 272 true).run Tryz.prog w = .ok (.tuple #[.nilIface, .bool false]) w := run_typeAssert_lacksB Tryz.underlying272 (by kernel_rfl) (by kernel_rfl) v xT w
theorem noIsF (v : Value) (xT : TypeId) (w : World) : (Instr.typeAssert (.iface 146 v) xT 298 true).run Tryz.prog w = .ok (.tuple #[.nilIface, .bool false]) w := run_typeAssert_lacksB Tryz.underlying298 (by kernel_rfl) (by kernel_rfl) v xT w
theorem hasUnwrapF (v : Value) (xT : TypeId) (w : World) : (Instr.typeAssert (.iface 146 v) xT 275 true).run Tryz.prog w = .ok (.tuple #[.iface 146 v, .bool true]) w := run_typeAssert_hasB Tryz.underlying275 (by kernel_rfl) v xT w
theorem methodUnwrap (v : Value) (w : World) : (Go.method 493 146 v "Unwrap").run Tryz.prog w = .ok (276, v) w := by kernel_rfl

theorem unwrap_any (no l i : Int) (w : World) : Calls Tryz.prog 276 #[.agg #[.int .i64 no, .int .i64 l, .int .i64 i]] w fun e w' => e = .returned (.iface 132 (.int .i64 no)) ∧ Below w.heap.size w w' := by
 go_enter Tryz.func276, Tryz.ntmps276
 go_wp2
 go_ret
 exact ⟨rfl, (Below.refl _ _).alloc (Nat.le_refl _) _⟩

/-- two numbers of errors, as errors, are the same just if they are as numbers -/
theorem eqErrno (a b : Int) (w : World) : (binOp .eql 25 (.iface 132 (.int .i64 a)) (.iface 132 (.int .i64 b))).run Tryz.prog w = .ok (.bool (a == b)) w := by
 obtain ⟨i, hi, hc⟩ := Option.map_eq_some_iff.1 (show (Tryz.prog.info? 132).map (·.comparable) = some true by kernel_rfl)
 have h : ∀ d : Nat, (Op.equalIn (d + 2) 25 (.iface 132 (.int .i64 a)) (.iface 132 (.int .i64 b))).run Tryz.prog w = .ok (a == b) w := fun d => by
  simp [Op.equalIn, run_underlying Tryz.underlying25, run_underlying Tryz.underlying132, typeInfo, hi, hc]
 simp only [binOp]
 simp [Op.equal, Op.maxDepth, h 9998]

theorem eqFault (v : Value) (b : Int) (w : World) : (binOp .eql 25 (.iface 146 v) (.iface 132 (.int .i64 b))).run Tryz.prog w = .ok (.bool false) w :=
 run_eql_iface_types _ _ _ _ Tryz.underlying25 (by decide) w

set_option maxRecDepth 100000 in
set_option maxHeartbeats 1600000 in
theorem is_errno (n k : Int) (w : World) : Calls Tryz.prog 169 #[.iface 132 (.int .i64 n), .iface 132 (.int .i64 k), .bool true] w fun e w' => e = .returned (.bool (n == k)) ∧ w' = w := by
 have nE := noIsE
 have uE := noUnwrapE
 have vE := noUnwrapsE
 have qE := eqErrno n k
 cases hq : (n == k) with
 | true =>
  rw [hq] at qE
  go_enter Tryz.func169, Tryz.ntmps169
  go_wp2
  refine wp_loop_rounds 1 ?_
  rw [rounds_succ]
  go_wp2
  go_ret
  exact ⟨rfl, rfl⟩
 | false =>
  rw [hq] at qE
  go_enter Tryz.func169, Tryz.ntmps169
  go_wp2
  refine wp_loop_rounds 1 ?_
  rw [rounds_succ]
  go_wp2
  go_ret
  exact ⟨rfl, rfl⟩

set_option maxRecDepth 100000 in
set_option maxHeartbeats 1600000 in
theorem is_fault (no l i k : Int) (w : World) : Calls Tryz.prog 169 #[.iface 146 (.agg #[.int .i64 no, .int .i64 l, .int .i64 i]), .iface 132 (.int .i64 k), .bool true] w fun e w' => e = .returned (.bool (no == k)) ∧ Below w.heap.size w w' := by
 have nE := noIsE
 have uE := noUnwrapE
 have vE := noUnwrapsE
 have nF := noIsF
 have uF := hasUnwrapF
 have mF := methodUnwrap
 have qF := eqFault (.agg #[.int .i64 no, .int .i64 l, .int .i64 i]) k
 have qE := eqErrno no k
 cases hq : (no == k) with
 | true =>
  rw [hq] at qE
  go_enter Tryz.func169, Tryz.ntmps169
  go_wp2
  refine wp_loop_rounds 2 ?_
  rw [rounds_succ]
  go_wp2_with (go_at_call 276; refine (unwrap_any _ _ _ _).mono ?_; rintro e w1 ⟨rfl, hb1⟩)
  rw [rounds_succ]
  go_wp2
  go_ret
  exact ⟨rfl, hb1⟩
 | false =>
  rw [hq] at qE
  go_enter Tryz.func169, Tryz.ntmps169
  go_wp2
  refine wp_loop_rounds 2 ?_
  rw [rounds_succ]
  go_wp2_with (go_at_call 276; refine (unwrap_any _ _ _ _).mono ?_; rintro e w1 ⟨rfl, hb1⟩)
  rw [rounds_succ]
  go_wp2
  go_ret
  exact ⟨rfl, hb1⟩

end Code
end Go.Proofs.YtgjeifcmgfmgeaaGreatDoor
