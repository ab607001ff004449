/- busbarref12: is a number from one to another? An operation's letters. -/
import Derived.Test.YtmpeipdeablkdaaGreatDoorErrQ
import Derived.Test.YtmpeipdeablkdaaGreatDoorRefP
namespace Go.Proofs.YtmpeipdeablkdaaGreatDoor
open Go.RowKit

namespace Code

attribute [local go_sem ↓] Go.wp_at_zero Go.wp_at_succ

theorem from_any (n l h : Int) (w : World) : Calls Tryz.prog 175 #[.int .i64 n, .int .i64 l, .int .i64 h] w fun e w' => e = .returned (.bool (decide (l ≤ n ∧ n ≤ h))) ∧ w' = w := by
 by_cases h1 : l ≤ n
 ·by_cases h2 : n ≤ h
  ·go_enter Tryz.func175, Tryz.ntmps175
   go_wp2_with fail
   go_ret
   exact ⟨ret_bool (by simp [h1, h2]), rfl⟩
  ·go_enter Tryz.func175, Tryz.ntmps175
   go_wp2_with fail
   go_ret
   exact ⟨ret_bool (by simp [h2]), rfl⟩
 ·go_enter Tryz.func175, Tryz.ntmps175
  go_wp2_with fail
  go_ret
  exact ⟨ret_bool (by simp; omega), rfl⟩

/-- an operation's letters, as a string -/
def lettersS (op : Int) : ByteArray := ⟨((B.letters op).map fun n => UInt8.ofNat n).toArray⟩

theorem ret_str {a b : ByteArray} (h : a = b) : Ending.returned (.string a) = .returned (.string b) := by rw [h]

set_option maxRecDepth 100000 in
set_option maxHeartbeats 6400000 in
theorem fieldsS_any (op : Int) (w : World) : Calls Tryz.prog 174 #[.int .i64 op] w fun e w' => e = .returned (.string (lettersS op)) ∧ Below w.heap.size w w' := by
 by_cases h0 : op < 0
 ·have hl : lettersS op = ⟨#[63]⟩ := by unfold lettersS B.letters; rw [if_neg (by omega)]; rfl
  have HL := Lib.hid hl
  clear hl
  go_enter Tryz.func174, Tryz.ntmps174
  go_wp2_with fail
  go_ret
  exact ⟨ret_str HL.out.symm, (Below.refl _ _).alloc (Nat.le_refl _) _⟩
 by_cases h19 : 20 ≤ op
 ·have hl : lettersS op = ⟨#[63]⟩ := by unfold lettersS B.letters; rw [if_neg (by omega)]; rfl
  have HL := Lib.hid hl
  clear hl
  go_enter Tryz.func174, Tryz.ntmps174
  go_wp2_with fail
  go_ret
  exact ⟨ret_str HL.out.symm, (Below.refl _ _).alloc (Nat.le_refl _) _⟩
 have hc : op = 0 ∨ op = 1 ∨ op = 2 ∨ op = 3 ∨ op = 4 ∨ op = 5 ∨ op = 6 ∨ op = 7 ∨ op = 8 ∨ op = 9 ∨ op = 10 ∨ op = 11 ∨ op = 12 ∨ op = 13 ∨ op = 14 ∨ op = 15 ∨ op = 16 ∨ op = 17 ∨ op = 18 ∨ op = 19 := by omega
 clear h0 h19
 rcases hc with rfl | rfl | rfl | rfl | rfl | rfl | rfl | rfl | rfl | rfl | rfl | rfl | rfl | rfl | rfl | rfl | rfl | rfl | rfl | rfl
 all_goals go_enter Tryz.func174, Tryz.ntmps174
 all_goals go_wp2_with fail
 all_goals go_ret
 all_goals exact ⟨ret_str (by decide +kernel), (Below.refl _ _).alloc (Nat.le_refl _) _⟩

end Code
end Go.Proofs.YtmpeipdeablkdaaGreatDoor
