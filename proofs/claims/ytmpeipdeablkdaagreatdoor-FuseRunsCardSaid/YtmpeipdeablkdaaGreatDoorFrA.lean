/- busbarref18: an instruction at a place; a shift; the lowest bytes. -/
import Derived.Test.YtmpeipdeablkdaaGreatDoorFrP
import Derived.Test.YtmpeipdeablkdaaGreatDoorBase2
import Derived.Test.YtmpeipdeablkdaaGreatDoorApp
import Derived.Test.YtmpeipdeablkdaaGreatDoorMore2
namespace Go.Proofs.YtmpeipdeablkdaaGreatDoor
open Go.RowKit

namespace Code

attribute [local go_sem ↓] Go.wp_at_zero Go.wp_at_succ

/-- an instruction's values -/
def insR (x : B.Ins) : Value := .agg #[.int .i64 x.op, .int .i64 x.a, .int .i64 x.b, .int .i64 x.n, .int .u64 x.imm]

def AtOut (x : B.Ins) (w : World) (e : Ending) (w' : World) : Prop := e = .returned (insR x) ∧ Below w.heap.size w w'

set_option maxHeartbeats 1600000 in
theorem at18_any (a : Option Addr) (len cap : Nat) (ps : List B.Ins) (i : Nat) (w : World) (hp : ProgAt w a len ps) (_hl : len ≤ 16384) (hi : i ≤ 20000) :
    Calls Tryz.prog 203 #[.slice a len cap, .int .i64 (i : Int)] w (AtOut (B.atR ps i) w) := by
 have i0 : (0 : Int) ≤ (i : Int) := by omega
 by_cases hlt : i < len
 ·have i1 : (i : Int) < (len : Int) := by omega
  have hx : ps[i]? = some (B.atR ps i) := by
   unfold B.atR
   rw [List.getElem?_eq_getElem (by have := hp.len; omega)]
   rfl
  generalize B.atR ps i = x at *
  obtain ⟨b, off, rfl, hbl, hat⟩ := hp.at_ i x hx
  obtain ⟨h0, h1, h2, h3, h4⟩ := hat.below ((Below.refl w.heap.size w).alloc (Nat.le_refl _) (.cells #[.int .i64 0, .int .i64 0, .int .i64 0, .int .i64 0, .int .u64 0] 24)) hbl
  clear hp hx hat
  go_enter Tryz.func203, Tryz.ntmps203
  go_wp2_with fail
  exact bodyPost_ret (v := .agg #[.int .i64 x.op, .int .i64 x.a, .int .i64 x.b, .int .i64 x.n, .int .u64 x.imm]) (by simp [results, Tryz.results203, go_sem]) rfl ⟨rfl, (Below.refl _ _).alloc (Nat.le_refl _) _⟩
 ·have i1 : ¬ (i : Int) < (len : Int) := by omega
  have hx : B.atR ps i = B.noI := by
   unfold B.atR
   rw [List.getElem?_eq_none (by have := hp.len; omega)]
   rfl
  rw [hx]
  clear hp hx
  go_enter Tryz.func203, Tryz.ntmps203
  go_wp2_with fail
  exact bodyPost_ret (v := .agg #[.int .i64 (-1), .int .i64 0, .int .i64 0, .int .i64 0, .int .u64 0]) (by simp [results, Tryz.results203, go_sem]) rfl ⟨rfl, (Below.refl _ _).alloc (Nat.le_refl _) _⟩

def ShOut (s : Int × Bool) (w : World) (e : Ending) (w' : World) : Prop := e = .returned (.tuple #[.int .i64 s.1, .bool s.2]) ∧ Below w.heap.size w w'

set_option maxHeartbeats 1600000 in
theorem shift18_any (x : B.Ins) (t : Int) (w : World) (hn : 0 ≤ x.n ∧ x.n ≤ 16384) : Calls Tryz.prog 204 #[insR x, .int .i64 t] w (ShOut (B.shR x t) w) := by
 obtain ⟨o, a, b, n, m⟩ := x
 simp only at hn
 have hb : Below w.heap.size w (w.alloc (.cells #[.int .i64 o, .int .i64 a, .int .i64 b, .int .i64 n, .int .u64 m] 24)) := (Below.refl _ _).alloc (Nat.le_refl _) _
 unfold insR B.shR
 by_cases ha : a = t
 ·have q1 : (a != t) = false := by simp [ha]
  by_cases h6 : o = 6
  ·subst h6
   rw [if_pos ⟨ha, rfl⟩]
   clear ha
   go_enter Tryz.func204, Tryz.ntmps204
   go_wp2_with fail
   go_ret2
   exact ⟨rfl, hb⟩
  ·have q6 : (o != 6) = true := by simp [h6]
   rw [if_neg (by simp [h6])]
   by_cases h7 : o = 7
   ·subst h7
    rw [if_pos ⟨ha, rfl⟩]
    clear ha
    have hw : IntKind.i64.wrap (-n) = -n := IntWalk.i64_in _ (by omega)
    go_enter Tryz.func204, Tryz.ntmps204
    go_wp2_with fail
    go_ret2
    exact ⟨rfl, hb⟩
   ·have q7 : (o != 7) = true := by simp [h7]
    rw [if_neg (by simp [h7])]
    clear ha h6 h7
    go_enter Tryz.func204, Tryz.ntmps204
    go_wp2_with fail
    go_ret2
    exact ⟨rfl, hb⟩
 ·have q1 : (a != t) = true := by simp [ha]
  rw [if_neg (by simp [ha]), if_neg (by simp [ha])]
  clear ha
  go_enter Tryz.func204, Tryz.ntmps204
  go_wp2_with fail
  go_ret2
  exact ⟨rfl, hb⟩

def LowOut (v : Nat) (w : World) (e : Ending) (w' : World) : Prop := e = .returned (.int .u64 (v : Int)) ∧ w' = w

theorem low_all {v n : Nat} (hv : v < 18446744073709551616) (hn : 8 ≤ n) : B.lowBits v n = v := by
 unfold B.lowBits
 refine Nat.mod_eq_of_lt (Nat.lt_of_lt_of_le hv ?_)
 have h : 2 ^ 64 ≤ 2 ^ (8 * n) := Nat.pow_le_pow_right (by omega) (by omega)
 omega

set_option maxHeartbeats 1600000 in
theorem low18_any (v n : Nat) (w : World) (hv : v < 18446744073709551616) (h1 : 1 ≤ n) (h8 : n ≤ 8) : Calls Tryz.prog 205 #[.int .u64 (v : Int), .int .i64 (n : Int)] w (LowOut (B.lowBits v n) w) := by
 by_cases h : n = 8
 ·subst h
  rw [low_all hv (Nat.le_refl _)]
  go_enter Tryz.func205, Tryz.ntmps205
  go_wp2_with fail
  go_ret
  exact ⟨rfl, rfl⟩
 ·have hn : n = 1 ∨ n = 2 ∨ n = 3 ∨ n = 4 ∨ n = 5 ∨ n = 6 ∨ n = 7 := by omega
  have he : ∀ k : Nat, B.lowBits v n = v &&& (2 ^ (8 * n) - 1) := fun _ => (Nat.and_two_pow_sub_one_eq_mod v (8 * n)).symm
  rw [he 0]
  have key : ∀ k : Nat, k < 18446744073709551616 → bits .and .u64 (v : Int) (k : Int) = ((v &&& k : Nat) : Int) := fun k hk => u64_and_nat v k hv hk
  clear he h h1 h8
  rcases hn with rfl | rfl | rfl | rfl | rfl | rfl | rfl <;>
  ·go_enter Tryz.func205, Tryz.ntmps205
   go_wp2_with fail
   go_ret
   exact ⟨congrArg (fun x => Ending.returned (.int .u64 x)) (key _ (by decide)), rfl⟩

end Code
end Go.Proofs.YtmpeipdeablkdaaGreatDoor
