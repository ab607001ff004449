/- Package verify: an operation's rule is answered. -/
import Derived.Test.YtgjeifcmgfmgeaaGreatDoorVerA
namespace Go.Proofs.YtgjeifcmgfmgeaaGreatDoor
open Go.RowKit

namespace Code

attribute [local go_sem ↓] Go.wp_at_zero Go.wp_at_succ

/-- a rule is answered -/
def RuleOut (o : Int) (w : World) (e : Ending) (w' : World) : Prop := e = .returned (.agg #[fn0 (rdFn o), .bool (wrB o), fn0 (tcFn o)]) ∧ Below w.heap.size w w'

set_option maxRecDepth 100000 in
set_option maxHeartbeats 6400000 in
theorem ruled_any (o : Int) (w : World) (ho : B.isOp o = true) : Calls Tryz.prog 135 #[.int .i64 o] w (RuleOut o w) := by
 rcases ops_cases ho with rfl | rfl | rfl | rfl | rfl | rfl | rfl | rfl | rfl | rfl | rfl | rfl | rfl | rfl | rfl | rfl | rfl | rfl | rfl | rfl
 all_goals
  clear ho
  go_enter Tryz.func135, Tryz.ntmps135
  go_wp2
  refine bodyPost_ret (v := .agg #[fn0 (rdFn _), .bool (wrB _), fn0 (tcFn _)]) (by simp [results, Tryz.results135, go_sem, fn0]; decide) rfl ⟨rfl, ?_⟩
  exact (Below.refl _ _).alloc (Nat.le_refl _) _

end Code
end Go.Proofs.YtgjeifcmgfmgeaaGreatDoor
