/- Package code: the fields of operations as values: what they are made of, and what of them is asked first. -/
import Derived.Test.YtegjeincncccaaaGreatDoorBase
import Derived.Deep.RegionWith
import Derived.StillTailTactics
namespace Go.Proofs.YtegjeincncccaaaGreatDoor
open Go.RowKit

namespace Code

/-- a pointer to a block's first cell -/
def P0 (b : Nat) : Value := .pointer (some ⟨b, 0, none⟩)
/-- a function of the program as a value -/
def fn0 (f : Nat) : Value := .func (.func f) #[] #[]

/-- the function that tells where a number stands -/
def atFn (k : Nat) : Nat := if k = 0 then 224 else if k = 1 then 225 else 269

/-- what small captures -/
structure Caps (w : World) (k : Nat) (lo hi : Int) (b4 b5 b6 b7 : Nat) : Prop where
 c4 : w.cell? ⟨b4, 0, none⟩ = some (fn0 (atFn k))
 c5 : w.cell? ⟨b5, 0, none⟩ = some (.int .i64 lo)
 c6 : w.cell? ⟨b6, 0, none⟩ = some (.int .i64 hi)
 c7 : ∃ s : ByteArray, s.size ≤ 1 ∧ w.cell? ⟨b7, 0, none⟩ = some (.string s)
 l4 : b4 < w.heap.size
 l5 : b5 < w.heap.size
 l6 : b6 < w.heap.size
 l7 : b7 < w.heap.size

theorem Caps.below {N : Nat} {w w' : World} {k : Nat} {lo hi : Int} {b4 b5 b6 b7 : Nat} (h : Caps w k lo hi b4 b5 b6 b7) (hb : Below N w w') (hN : w.heap.size ≤ N) : Caps w' k lo hi b4 b5 b6 b7 := by
 have hl := hb.size
 obtain ⟨s, hs, h7⟩ := h.c7
 exact ⟨(hb.cell (p := ⟨b4, 0, none⟩) (Nat.lt_of_lt_of_le h.l4 hN)).trans h.c4, (hb.cell (p := ⟨b5, 0, none⟩) (Nat.lt_of_lt_of_le h.l5 hN)).trans h.c5, (hb.cell (p := ⟨b6, 0, none⟩) (Nat.lt_of_lt_of_le h.l6 hN)).trans h.c6,
  ⟨s, hs, (hb.cell (p := ⟨b7, 0, none⟩) (Nat.lt_of_lt_of_le h.l7 hN)).trans h7⟩, Nat.lt_of_lt_of_le h.l4 hl, Nat.lt_of_lt_of_le h.l5 hl, Nat.lt_of_lt_of_le h.l6 hl, Nat.lt_of_lt_of_le h.l7 hl⟩

/-- kinds of fields -/
inductive FK where
 | small (k : Nat) (lo hi : Int)
 | number
 | sign
 | skip
 | bytes

def f1 (b4 b5 b6 : Nat) : Value := .func (.func 251) #[] #[P0 b4, P0 b5, P0 b6]
def f2 (b4 : Nat) : Value := .func (.func 252) #[] #[P0 b4]
def f3 (b4 : Nat) : Value := .func (.func 253) #[] #[P0 b4]
def f4 (b7 b4 : Nat) : Value := .func (.func 255) #[] #[P0 b7, P0 b4]
def f5 (b7 b4 : Nat) : Value := .func (.func 257) #[] #[P0 b7, P0 b4]

/-- five function values are a field -/
def FieldAt (w : World) (fk : FK) (v0 v1 v2 v3 v4 : Value) : Prop :=
 match fk with
 | .small k lo hi => k ≤ 2 ∧ ∃ b4 b5 b6 b7, Caps w k lo hi b4 b5 b6 b7 ∧ v0 = f1 b4 b5 b6 ∧ v1 = f2 b4 ∧ v2 = f3 b4 ∧ v3 = f4 b7 b4 ∧ v4 = f5 b7 b4
 | .number => v0 = fn0 260 ∧ v1 = fn0 261 ∧ v2 = fn0 263 ∧ v3 = fn0 265 ∧ v4 = fn0 267
 | .sign => v0 = fn0 293 ∧ v1 = fn0 261 ∧ v2 = fn0 263 ∧ v3 = fn0 294 ∧ v4 = fn0 295
 | .skip => ∃ b4 b5 b6 b7, Caps w 2 0 16384 b4 b5 b6 b7 ∧ v0 = f1 b4 b5 b6 ∧ v1 = fn0 296 ∧ v2 = fn0 297 ∧ v3 = f4 b7 b4 ∧ v4 = f5 b7 b4
 | .bytes => ∃ b4 b5 b6 b7, Caps w 2 1 8 b4 b5 b6 b7 ∧ v0 = fn0 292 ∧ v1 = f2 b4 ∧ v2 = f3 b4 ∧ v3 = f4 b7 b4 ∧ v4 = f5 b7 b4

theorem FieldAt.below {N : Nat} {w w' : World} {fk : FK} {v0 v1 v2 v3 v4 : Value} (h : FieldAt w fk v0 v1 v2 v3 v4) (hb : Below N w w') (hN : w.heap.size ≤ N) : FieldAt w' fk v0 v1 v2 v3 v4 := by
 cases fk with
 | small k lo hi => obtain ⟨hk, b4, b5, b6, b7, hc, h⟩ := h; exact ⟨hk, b4, b5, b6, b7, hc.below hb hN, h⟩
 | number => exact h
 | sign => exact h
 | skip => obtain ⟨b4, b5, b6, b7, hc, h⟩ := h; exact ⟨b4, b5, b6, b7, hc.below hb hN, h⟩
 | bytes => obtain ⟨b4, b5, b6, b7, hc, h⟩ := h; exact ⟨b4, b5, b6, b7, hc.below hb hN, h⟩

theorem fieldA_any (b off : Nat) (w : World) : Calls Tryz.prog 224 #[.pointer (some ⟨b, off, none⟩)] w fun e w' => e = .returned (.pointer (some ⟨b, off + 1, none⟩)) ∧ w' = w := by
 go_enter Tryz.func224, Tryz.ntmps224
 go_wp2
 go_ret
 exact ⟨rfl, rfl⟩
theorem fieldB_any (b off : Nat) (w : World) : Calls Tryz.prog 225 #[.pointer (some ⟨b, off, none⟩)] w fun e w' => e = .returned (.pointer (some ⟨b, off + 2, none⟩)) ∧ w' = w := by
 go_enter Tryz.func225, Tryz.ntmps225
 go_wp2
 go_ret
 exact ⟨rfl, rfl⟩
theorem fieldN_any (b off : Nat) (w : World) : Calls Tryz.prog 269 #[.pointer (some ⟨b, off, none⟩)] w fun e w' => e = .returned (.pointer (some ⟨b, off + 3, none⟩)) ∧ w' = w := by
 go_enter Tryz.func269, Tryz.ntmps269
 go_wp2
 go_ret
 exact ⟨rfl, rfl⟩

theorem small_any (k : Nat) (lo hi : Int) (s : ByteArray) (w : World) (hk : k ≤ 2) (hs : s.size ≤ 1) :
    Calls Tryz.prog 223 #[fn0 (atFn k), .int .i64 lo, .int .i64 hi, .string s] w fun e w' => ∃ v0 v1 v2 v3 v4, e = .returned (.agg #[v0, v1, v2, v3, v4]) ∧ FieldAt w' (.small k lo hi) v0 v1 v2 v3 v4 ∧ Below w.heap.size w w' := by
 unfold fn0
 go_enter Tryz.func223, Tryz.ntmps223
 go_wp2
 refine bodyPost_ret (v := .agg #[f1 w.heap.size (w.heap.size + 1) (w.heap.size + 1 + 1), f2 w.heap.size, f3 w.heap.size, f4 (w.heap.size + 1 + 1 + 1) w.heap.size, f5 (w.heap.size + 1 + 1 + 1) w.heap.size])
  (by simp [results, Tryz.results223, go_sem, f1, f2, f3, f4, f5, P0]) rfl ⟨_, _, _, _, _, rfl, ⟨hk, _, _, _, _, ⟨?_, ?_, ?_, ⟨s, hs, ?_⟩, ?_, ?_, ?_, ?_⟩, rfl, rfl, rfl, rfl, rfl⟩, ?_⟩
 ·go_simp; rfl
 ·go_simp
 ·go_simp
 ·go_simp
 ·simp; omega
 ·simp
 ·simp
 ·simp
 ·exact (((((Below.refl _ _).alloc (Nat.le_refl _) _).alloc (by simp) _).alloc (by simp; omega) _).alloc (by simp; omega) _).alloc (by simp; omega) _

/-- the number that a field stands for -/
def get (k : Nat) (x : B.Ins) : Int := if k = 0 then x.a else if k = 1 then x.b else x.n

def valI (x : B.Ins) : Value := .agg #[.int .i64 x.op, .int .i64 x.a, .int .i64 x.b, .int .i64 x.n, .int .u64 x.imm]

def inB (lo v hi : Int) : Bool := decide (lo ≤ v) && decide (v ≤ hi)

set_option maxHeartbeats 1000000 in
theorem ok_small (k : Nat) (hk : k ≤ 2) (lo hi : Int) (b4 b5 b6 b7 : Nat) (x : B.Ins) (w : World) (hc : Caps w k lo hi b4 b5 b6 b7) :
    Calls Tryz.prog 251 #[valI x, P0 b4, P0 b5, P0 b6] w fun e w' => e = .returned (.bool (inB lo (get k x) hi)) ∧ Below w.heap.size w w' := by
 obtain ⟨c4, c5, c6, c7, l4, l5, l6, l7⟩ := hc
 clear c7 l7
 unfold valI P0
 rcases (show k = 0 ∨ k = 1 ∨ k = 2 by omega) with rfl | rfl | rfl
 ·have g : get 0 x = x.a := rfl
  rw [g]; clear g
  have e : fn0 (atFn 0) = .func (.func 224) #[] #[] := rfl
  rw [e] at c4; clear e
  by_cases h1 : lo ≤ x.a
  ·go_enter Tryz.func251, Tryz.ntmps251
   go_wp2_with fail
   go_quiet ((go_at_call 224; exact Calls.quiet_of_same (fieldA_any _ _ _)))
   go_wp2
   go_ret
   exact ⟨ret_bool (by unfold inB; simp [h1]), belowN ((Below.refl _ _).alloc (Nat.le_refl _) _) _⟩
  ·have hd : decide (lo ≤ x.a) = false := by simpa using h1
   go_enter Tryz.func251, Tryz.ntmps251
   go_wp2_with fail
   go_quiet ((go_at_call 224; exact Calls.quiet_of_same (fieldA_any _ _ _)))
   go_wp2
   go_ret
   exact ⟨ret_bool (by unfold inB; rw [hd]; rfl), belowN ((Below.refl _ _).alloc (Nat.le_refl _) _) _⟩
 ·have g : get 1 x = x.b := rfl
  rw [g]; clear g
  have e : fn0 (atFn 1) = .func (.func 225) #[] #[] := rfl
  rw [e] at c4; clear e
  by_cases h1 : lo ≤ x.b
  ·go_enter Tryz.func251, Tryz.ntmps251
   go_wp2_with fail
   go_quiet ((go_at_call 225; exact Calls.quiet_of_same (fieldB_any _ _ _)))
   go_wp2
   go_ret
   exact ⟨ret_bool (by unfold inB; simp [h1]), belowN ((Below.refl _ _).alloc (Nat.le_refl _) _) _⟩
  ·have hd : decide (lo ≤ x.b) = false := by simpa using h1
   go_enter Tryz.func251, Tryz.ntmps251
   go_wp2_with fail
   go_quiet ((go_at_call 225; exact Calls.quiet_of_same (fieldB_any _ _ _)))
   go_wp2
   go_ret
   exact ⟨ret_bool (by unfold inB; rw [hd]; rfl), belowN ((Below.refl _ _).alloc (Nat.le_refl _) _) _⟩
 ·have g : get 2 x = x.n := rfl
  rw [g]; clear g
  have e : fn0 (atFn 2) = .func (.func 269) #[] #[] := rfl
  rw [e] at c4; clear e
  by_cases h1 : lo ≤ x.n
  ·go_enter Tryz.func251, Tryz.ntmps251
   go_wp2_with fail
   go_quiet ((go_at_call 269; exact Calls.quiet_of_same (fieldN_any _ _ _)))
   go_wp2
   go_ret
   exact ⟨ret_bool (by unfold inB; simp [h1]), belowN ((Below.refl _ _).alloc (Nat.le_refl _) _) _⟩
  ·have hd : decide (lo ≤ x.n) = false := by simpa using h1
   go_enter Tryz.func251, Tryz.ntmps251
   go_wp2_with fail
   go_quiet ((go_at_call 269; exact Calls.quiet_of_same (fieldN_any _ _ _)))
   go_wp2
   go_ret
   exact ⟨ret_bool (by unfold inB; rw [hd]; rfl), belowN ((Below.refl _ _).alloc (Nat.le_refl _) _) _⟩

theorem ok_number (x : B.Ins) (w : World) : Calls Tryz.prog 260 #[valI x] w fun e w' => e = .returned (.bool true) ∧ Below w.heap.size w w' := by
 unfold valI
 go_enter Tryz.func260, Tryz.ntmps260
 go_wp2
 go_ret
 exact ⟨rfl, (Below.refl _ _).alloc (Nat.le_refl _) _⟩

theorem ok_sign (x : B.Ins) (w : World) : Calls Tryz.prog 293 #[valI x] w fun e w' => e = .returned (.bool (decide (x.imm ≤ 1))) ∧ Below w.heap.size w w' := by
 unfold valI
 go_enter Tryz.func293, Tryz.ntmps293
 go_wp2
 go_ret
 exact ⟨rfl, (Below.refl _ _).alloc (Nat.le_refl _) _⟩

def bytesOk (x : B.Ins) : Bool := decide (1 ≤ x.n) && decide (x.n ≤ 8) && decide (x.b + x.n ≤ 8)

theorem ok_bytes (x : B.Ins) (w : World) (hb : 0 ≤ x.b ∧ x.b ≤ 7) : Calls Tryz.prog 292 #[valI x] w fun e w' => e = .returned (.bool (bytesOk x)) ∧ Below w.heap.size w w' := by
 unfold valI
 obtain ⟨hb0, hb7⟩ := hb
 by_cases h1 : 1 ≤ x.n
 ·by_cases h2 : x.n ≤ 8
  ·go_enter Tryz.func292, Tryz.ntmps292
   go_wp2
   go_ret
   exact ⟨ret_bool (by unfold bytesOk; simp [h1, h2]), (Below.refl _ _).alloc (Nat.le_refl _) _⟩
  ·have hd : decide (x.n ≤ 8) = false := by simpa using h2
   go_enter Tryz.func292, Tryz.ntmps292
   go_wp2
   go_ret
   exact ⟨ret_bool (by unfold bytesOk; rw [hd]; simp), (Below.refl _ _).alloc (Nat.le_refl _) _⟩
 ·have hd : decide (1 ≤ x.n) = false := by simpa using h1
  go_enter Tryz.func292, Tryz.ntmps292
  go_wp2
  go_ret
  exact ⟨ret_bool (by unfold bytesOk; rw [hd]; rfl), (Below.refl _ _).alloc (Nat.le_refl _) _⟩

theorem number_any (w : World) : Calls Tryz.prog 226 #[] w fun e w' => ∃ v0 v1 v2 v3 v4, e = .returned (.agg #[v0, v1, v2, v3, v4]) ∧ FieldAt w' .number v0 v1 v2 v3 v4 ∧ Below w.heap.size w w' := by
 go_enter Tryz.func226, Tryz.ntmps226
 go_wp2
 refine bodyPost_ret (v := .agg #[fn0 260, fn0 261, fn0 263, fn0 265, fn0 267])
  (by simp [results, Tryz.results226, go_sem, fn0]) rfl ⟨_, _, _, _, _, rfl, ⟨rfl, rfl, rfl, rfl, rfl⟩, ?_⟩
 exact (Below.refl _ _).alloc (Nat.le_refl _) _

end Code
end Go.Proofs.YtegjeincncccaaaGreatDoor
