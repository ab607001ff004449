/- Package fold: what both know. -/
import Derived.Test.YtegjeincncccaaaGreatDoorFlM
import Derived.Test.YtegjeincncccaaaGreatDoorRow
namespace Go.Proofs.YtegjeincncccaaaGreatDoor
open Go.RowKit Go.Maps

namespace Code

set_option maxHeartbeats 1600000 in
/-- the closure: does the other not know the same? -/
theorem meet1_any (X b n : Nat) (K : B.Kn) (r v : Int) (W : World) (hr : B.In64 r) (hv : B.InU64 v) (hc : W.cell? ⟨X, 0, none⟩ = some (.map (some b))) (hk : KnAt W b n K) :
    Calls Tryz.prog 108 (#[.int .i64 r, .int .u64 v] ++ #[.pointer (some ⟨X, 0, none⟩)]) W (fun e w' => e = .returned (.bool (strikes K (.int .i64 r) (.lit (.int .u64 v)))) ∧ W.grownBy w' none) := by
 have hrun := hk.look r hr
 obtain ⟨o, ho⟩ : ∃ o, K r = o := ⟨_, rfl⟩
 have hs : strikes K (.int .i64 r) (.lit (.int .u64 v)) = !decide (o = some v.toNat) := by rw [← ho]; rfl
 rw [hs]
 rw [ho] at hrun
 have h0 := hv.1
 clear hs ho hk hr hv
 cases o with
 | none =>
  simp only [Option.getD, Option.isSome] at hrun
  go_enter Tryz.func108, Tryz.ntmps108
  go_wp2_with fail
  go_ret
  exact ⟨by simp, World.grownBy.refl _ _⟩
 | some y =>
  simp only [Option.getD, Option.isSome] at hrun
  by_cases e : v = (y : Int)
  ·subst e
   go_enter Tryz.func108, Tryz.ntmps108
   go_wp2_with fail
   go_ret
   exact ⟨by simp, World.grownBy.refl _ _⟩
  ·have e1 : (v == (y : Int)) = false := by simp [e]
   have e2 : ¬ y = v.toNat := by omega
   have e3 := Lib.hid e2
   clear e2
   go_enter Tryz.func108, Tryz.ntmps108
   go_wp2_with fail
   go_ret
   exact ⟨by simp [e, e3.out], World.grownBy.refl _ _⟩

/-- does an instruction write its register? -/
def wrF (o : Int) : Bool := decide (1 ≤ o ∧ o ≤ 10) || decide (o = 14) || decide (o = 15)

set_option maxHeartbeats 1600000 in
theorem fwrites_any (o : Int) (w : World) : Calls Tryz.prog 106 #[.int .i64 o] w (fun e w' => e = .returned (.bool (wrF o)) ∧ w' = w) := by
 obtain ⟨c, hc⟩ : ∃ c, wrF o = c := ⟨_, rfl⟩
 rw [hc]
 have HC := Lib.hid hc
 clear hc
 go_enter Tryz.func106, Tryz.ntmps106
 go_wp2_with fail
 all_goals
  go_ret
  refine ⟨?_, rfl⟩
  rw [← HC.out]
  unfold wrF
  show Ending.returned (.bool _) = Ending.returned (.bool _)
  congr 2
  rw [Bool.eq_iff_iff]
  first
   | (simp; done)
   | (simp; omega)

end Code
end Go.Proofs.YtegjeincncccaaaGreatDoor
