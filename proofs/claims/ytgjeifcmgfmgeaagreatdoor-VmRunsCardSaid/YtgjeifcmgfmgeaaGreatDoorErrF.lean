/- busbarkit: an error's number, its place. -/
import Derived.Test.YtgjeifcmgfmgeaaGreatDoorErrE
namespace Go.Proofs.YtgjeifcmgfmgeaaGreatDoor
open Go.RowKit

namespace Code

attribute [local go_sem ↓] Go.wp_at_zero Go.wp_at_succ

/-- errors of the program -/
inductive Er where
 | nil
 | plain (n : Nat)
 | fault (n : Nat) (i : Int)

def Er.val : Er → Value
 | .nil => .nilIface
 | .plain n => .iface 132 (.int .i64 n)
 | .fault n i => .iface 146 (.agg #[.int .i64 n, .int .i64 0, .int .i64 i])
def Er.num : Er → Nat
 | .nil => 0
 | .plain n => n
 | .fault n _ => n
def Er.ok : Er → Prop
 | .nil => True
 | .plain n => 1 ≤ n ∧ n ≤ 26
 | .fault n _ => 1 ≤ n ∧ n ≤ 26
def Er.isNil : Er → Bool
 | .nil => true
 | _ => false
def Er.place : Er → Int × Bool
 | .fault _ i => (i, true)
 | _ => (0, false)

theorem Er.shape (e : Er) (h : e.isNil = false) : ∃ T x, e.val = .iface T x := by
 cases e with
 | nil => simp [Er.isNil] at h
 | plain n => exact ⟨_, _, rfl⟩
 | fault n i => exact ⟨_, _, rfl⟩
theorem Er.isErr (e : Er) (h : e.isNil = false) : IsErr e.val e.num := by
 cases e with
 | nil => simp [Er.isNil] at h
 | plain n => exact .errno _
 | fault n i => exact .fault _ _ _

theorem num_nil (w : World) : Calls Tryz.prog 105 #[.nilIface] w fun e w' => e = .returned (.int .i64 0) ∧ w' = w := by
 go_enter Tryz.func105, Tryz.ntmps105
 go_wp2
 go_ret
 exact ⟨rfl, rfl⟩

set_option maxRecDepth 100000 in
set_option maxHeartbeats 1600000 in
theorem num_err (T : TypeId) (x : Value) (n : Nat) (hv : IsErr (.iface T x) n) (h1 : 1 ≤ n) (h26 : n ≤ 26) (w : World) : Calls Tryz.prog 105 #[.iface T x] w fun e w' => e = .returned (.int .i64 n) ∧ Below w.heap.size w w' := by
 have HV := Lib.hid hv
 clear hv
 go_enter Tryz.func105, Tryz.ntmps105
 go_wp2_with fail
 go_loopw [3, 4] (fun f i wr => ∃ k : Nat, i = .int .i64 k ∧ 1 ≤ k ∧ k ≤ 27 ∧ f = .int .i64 ((if n < k then n else 0 : Nat) : Int) ∧ Below w.heap.size w wr) (fun _ i _ => 27 - (intOf i).toNat)
 case atStart => exact ⟨1, rfl, by omega, by omega, by rw [if_neg (by omega)]; rfl, Below.refl _ _⟩
 case round =>
  obtain ⟨k, rfl, hk1, hk2, rfl, hb⟩ := hrel
  have HB := Lib.hid hb
  have hsz := hb.size
  clear hb
  by_cases hlt : k ≤ 26
  ·have hc : decide ((k : Int) ≤ 26) = true := by simp; omega
   by_cases he : n = k
   ·subst he
    rw [if_neg (by omega)]
    go_wp2_with fail
    refine (errorsIs_any _ _ n HV.out _).mono ?_
    rintro e w1 ⟨rfl, hb1⟩
    have HB1 := Lib.hid (HB.out.trans (hb1.mono hsz))
    clear hb1
    go_wp2_with fail
    go_roundw
    case rel => exact ⟨n + 1, by go_num, by omega, by omega, by rw [if_pos (by omega)], HB1.out⟩
    case measure => simp [intOf]; omega
   ·have hne : ((n : Int) == (k : Int)) = false := by simp; omega
    have HE := Lib.hid he
    clear he
    generalize hf : (if n < k then n else 0) = f at *
    have HF := Lib.hid hf
    clear hf
    go_wp2_with fail
    refine (errorsIs_any _ _ k HV.out _).mono ?_
    rintro e w1 ⟨rfl, hb1⟩
    have HB1 := Lib.hid (HB.out.trans (hb1.mono hsz))
    clear hb1
    go_wp2_with fail
    go_roundw
    case rel =>
     refine ⟨k + 1, by go_num, by omega, by omega, ?_, HB1.out⟩
     rw [← HF.out]
     have := HE.out
     by_cases h : n < k
     ·rw [if_pos h, if_pos (by omega)]
     ·rw [if_neg h, if_neg (by omega)]
    case measure => simp [intOf]; omega
  ·obtain rfl : k = 27 := by omega
   rw [if_pos (by omega)]
   have hn0 : ((n : Int) == 0) = false := by simp; omega
   go_wp2_with fail
   refine (errorsIs_any _ _ 0 HV.out _).mono ?_
   rintro e w1 ⟨rfl, hb1⟩
   have HB1 := Lib.hid (HB.out.trans (hb1.mono hsz))
   clear hb1
   go_wp2_with fail
   go_ret
   exact ⟨rfl, HB1.out⟩

theorem num_any (e : Er) (h : e.ok) (w : World) : Calls Tryz.prog 105 #[e.val] w fun r w' => r = .returned (.int .i64 e.num) ∧ Below w.heap.size w w' := by
 cases e with
 | nil => exact (num_nil w).mono fun _ _ ⟨he, hw⟩ => ⟨he, by rw [hw]; exact Below.refl _ _⟩
 | plain n => exact num_err _ _ n (.errno _) h.1 h.2 w
 | fault n i => exact num_err _ _ n (.fault _ _ _) h.1 h.2 w

end Code
end Go.Proofs.YtgjeifcmgfmgeaaGreatDoor
