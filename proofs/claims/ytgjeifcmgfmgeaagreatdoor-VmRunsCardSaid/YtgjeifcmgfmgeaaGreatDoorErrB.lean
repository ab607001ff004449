/- Go's library: errors.Is at the errors of the program. -/
import Derived.Test.YtgjeifcmgfmgeaaGreatDoorErrA
namespace Go.Proofs.YtgjeifcmgfmgeaaGreatDoor
open Go.RowKit Go.Extern.Stop Go.Stop Go.Extern

namespace Code

/-- the number of an error of the program -/
inductive IsErr : Value → Int → Prop where
 | errno (n : Int) : IsErr (errno n) n
 | fault (n l i : Int) : IsErr (.iface 146 (.agg #[.int .i64 n, .int .i64 l, .int .i64 i])) n

set_option maxRecDepth 100000 in
set_option maxHeartbeats 1600000 in
theorem errorsIs_any (v : Value) (n k : Int) (h : IsErr v n) (w : World) : Calls Tryz.prog 143 #[v, .iface 132 (.int .i64 k)] w fun e w' => e = .returned (.bool (n == k)) ∧ Below w.heap.size w w' := by
 have h8 := @run_callFunc_extern Tryz.prog 168 _ Extern.ReflectliteType.typeOf Tryz.func168 (by kernel_rfl) (by kernel_rfl) (by kernel_rfl) (by kernel_rfl)
 have h32 := @run_callFunc_extern Tryz.prog 284 _ (Extern.ReflectliteType.method fun t => do Go.Extern.Rtype.noPackHeld "Comparable" t; pure (.bool (← typeInfo t).comparable)) Tryz.func284 (by kernel_rfl) (by kernel_rfl) (by kernel_rfl) (by kernel_rfl)
 have tT := isTypeOf
 have cT := isComparable
 have mR := isMethodComparable
 cases h with
 | errno n =>
  unfold errno
  go_enter Tryz.func143, Tryz.ntmps143
  go_wp2_with (go_at_call 169; refine (is_errno _ _ _).mono ?_; rintro e w1 ⟨rfl, rfl⟩)
  go_ret
  exact ⟨rfl, Below.refl _ _⟩
 | fault n l i =>
  go_enter Tryz.func143, Tryz.ntmps143
  go_wp2_with (go_at_call 169; refine (is_fault _ _ _ _ _).mono ?_; rintro e w1 ⟨rfl, hb1⟩)
  go_ret
  exact ⟨rfl, hb1⟩

end Code
end Go.Proofs.YtgjeifcmgfmgeaaGreatDoor
