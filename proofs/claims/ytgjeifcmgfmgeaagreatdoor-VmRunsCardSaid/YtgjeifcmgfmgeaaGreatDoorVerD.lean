/- Package verify: the registers that are written on all ways: a row of states in memory; a way comes. -/
import Derived.Test.YtgjeifcmgfmgeaaGreatDoorVerA
import Derived.Laws.MakeOwn
namespace Go.Proofs.YtgjeifcmgfmgeaaGreatDoor
open Go.RowKit

namespace Code

attribute [local go_sem ↓] Go.wp_at_zero Go.wp_at_succ

/-- a row of states in memory -/
structure StRow (w : World) (L n : Nat) (st : Nat → Option Nat) : Prop where
 ex : ∃ C, w.heap[L]? = some (.cells C 222 (0, 0)) ∧ C.size = n * 2 ∧ ∀ j, j < n → C[j * 2]? = some (.bool (st j).isSome) ∧ C[j * 2 + 1]? = some (.int .u16 (((st j).getD 0 : Nat) : Int))
 lt : ∀ j, (st j).getD 0 < 65536

theorem StRow.blk {w : World} {L n : Nat} {st : Nat → Option Nat} (h : StRow w L n st) : L < w.heap.size := by
 obtain ⟨⟨C, h1, _⟩, _⟩ := h
 exact lt_of_block h1

theorem StRow.cells {w : World} {L n : Nat} {st : Nat → Option Nat} (h : StRow w L n st) (j : Nat) (hj : j < n) :
    w.cell? ⟨L, j * 2, none⟩ = some (.bool (st j).isSome) ∧ w.cell? ⟨L, j * 2 + 1, none⟩ = some (.int .u16 (((st j).getD 0 : Nat) : Int)) ∧ (∀ k, w.frozen? ⟨L, k, none⟩ = false) := by
 obtain ⟨⟨C, h1, h2, h3⟩, _⟩ := h
 obtain ⟨ha, hb⟩ := h3 j hj
 exact ⟨by rw [cell_of_row _ _ _ _ _ _ h1]; exact ha, by rw [cell_of_row _ _ _ _ _ _ h1]; exact hb, fun k => frozen_blk h1⟩

theorem StRow.below {w w' : World} {L n N : Nat} {st : Nat → Option Nat} (h : StRow w L n st) (hb : Below N w w') (hN : L < N) : StRow w' L n st := by
 obtain ⟨⟨C, h1, h2, h3⟩, h4⟩ := h
 exact ⟨⟨C, (hb.block L hN).trans h1, h2, h3⟩, h4⟩

/-- both cells of a place are written -/
theorem StRow.set {w : World} {L n : Nat} {st st' : Nat → Option Nat} (h : StRow w L n st) (j v : Nat) (hj : j < n) (hv : v < 65536) (hst : st' j = some v) (hne : ∀ k, k ≠ j → st' k = st k) :
    StRow ((w.setCell ⟨L, j * 2, none⟩ (.bool true)).setCell ⟨L, j * 2 + 1, none⟩ (.int .u16 ((v : Nat) : Int))) L n st' := by
 obtain ⟨⟨C, h1, h2, h3⟩, h4⟩ := h
 refine ⟨⟨_, blk_setCell (blk_setCell h1 _) _, by simp [h2], fun k hk => ?_⟩, fun k => ?_⟩
 ·by_cases e : k = j
  ·subst e
   rw [hst]
   constructor
   ·rw [Array.getElem?_setIfInBounds_ne (by omega), Array.getElem?_setIfInBounds_self_of_lt (by omega)]; rfl
   ·rw [Array.getElem?_setIfInBounds_self_of_lt (by simp; omega)]; rfl
  ·rw [hne k e]
   obtain ⟨ha, hb⟩ := h3 k hk
   constructor
   ·rw [Array.getElem?_setIfInBounds_ne (by omega), Array.getElem?_setIfInBounds_ne (by omega)]; exact ha
   ·rw [Array.getElem?_setIfInBounds_ne (by omega), Array.getElem?_setIfInBounds_ne (by omega)]; exact hb
 ·by_cases e : k = j
  ·subst e; rw [hst]; exact hv
  ·rw [hne k e]; exact h4 k

/-- one cell is written again -/
theorem StRow.again {w : World} {L n : Nat} {st st' : Nat → Option Nat} (h : StRow w L n st) (j v u : Nat) (hj : j < n) (hv : v < 65536) (hu : st j = some u) (hst : st' j = some v) (hne : ∀ k, k ≠ j → st' k = st k) :
    StRow (w.setCell ⟨L, j * 2 + 1, none⟩ (.int .u16 ((v : Nat) : Int))) L n st' := by
 obtain ⟨⟨C, h1, h2, h3⟩, h4⟩ := h
 refine ⟨⟨_, blk_setCell h1 _, by simp [h2], fun k hk => ?_⟩, fun k => ?_⟩
 ·by_cases e : k = j
  ·subst e
   obtain ⟨ha, hb⟩ := h3 k hk
   rw [hst]
   rw [hu] at ha
   constructor
   ·rw [Array.getElem?_setIfInBounds_ne (by omega)]; exact ha
   ·rw [Array.getElem?_setIfInBounds_self_of_lt (by omega)]; rfl
  ·rw [hne k e]
   obtain ⟨ha, hb⟩ := h3 k hk
   constructor
   ·rw [Array.getElem?_setIfInBounds_ne (by omega)]; exact ha
   ·rw [Array.getElem?_setIfInBounds_ne (by omega)]; exact hb
 ·by_cases e : k = j
  ·subst e; rw [hst]; exact hv
  ·rw [hne k e]; exact h4 k

theorem come_at {st : Nat → Option Nat} {j v : Nat} (h : st j = none) : B.come st j v j = some v := by unfold B.come; rw [if_pos rfl, h]
theorem come_at' {st : Nat → Option Nat} {j v u : Nat} (h : st j = some u) : B.come st j v j = some (u &&& v) := by unfold B.come; rw [if_pos rfl, h]
theorem come_ne {st : Nat → Option Nat} {j v : Nat} (k : Nat) (h : k ≠ j) : B.come st j v k = st k := by unfold B.come; rw [if_neg h]

/-- a way has come -/
def CameOut (L n : Nat) (st : Nat → Option Nat) (w : World) (e : Ending) (w' : World) : Prop := e = .returned (.tuple #[]) ∧ StRow w' L n st ∧ w.grownBy w' (some L)

theorem grownBy_set (w : World) (L o : Nat) (v : Value) : w.grownBy (w.setCell ⟨L, o, none⟩ v) (some L) :=
 ⟨rfl, rfl, rfl, by simp [World.setCell], fun k _ hk => Below.heap_setCell _ _ _ _ (fun e => hk (by rw [e]))⟩

set_option maxRecDepth 100000 in
set_option maxHeartbeats 1600000 in
theorem come_any (L n : Nat) (st : Nat → Option Nat) (j v : Nat) (w : World) (h : StRow w L n st) (hj : j < n) (hv : v < 65536) :
    Calls Tryz.prog 136 #[.pointer (some ⟨L, j * 2, none⟩), .int .u16 v] w (CameOut L n (B.come st j v) w) := by
 have hL := h.blk
 obtain ⟨c0, c1, hf⟩ := h.cells j hj
 have f0 := hf (j * 2)
 have f1 := hf (j * 2 + 1)
 clear hf
 have HS := Lib.hid h
 cases hs : st j with
 | none =>
  rw [hs] at c0 c1
  have c0' : w.cell? ⟨L, j * 2, none⟩ = some (.bool false) := c0
  have c1' : w.cell? ⟨L, j * 2 + 1, none⟩ = some (.int .u16 0) := c1
  have hand : bits .and .u16 (v : Int) (v : Int) = (v : Int) := by rw [u16_and_nat v v hv hv, Nat.and_self]
  have HN := Lib.hid hs
  clear c0 c1 h hs
  go_enter Tryz.func136, Tryz.ntmps136
  go_wp2
  go_end0
  exact ⟨rfl, (HS.out.set j v hj hv (come_at HN.out) come_ne).again j v v hj hv (come_at HN.out) (come_at HN.out) (fun _ _ => rfl), ((grownBy_set w L _ _).trans (grownBy_set _ L _ _)).trans (grownBy_set _ L _ _)⟩
 | some u =>
  rw [hs] at c0 c1
  have c0' : w.cell? ⟨L, j * 2, none⟩ = some (.bool true) := c0
  have c1' : w.cell? ⟨L, j * 2 + 1, none⟩ = some (.int .u16 (u : Nat)) := c1
  have hu : u < 65536 := by have := h.lt j; rw [hs] at this; exact this
  have hand : bits .and .u16 (u : Int) (v : Int) = ((u &&& v : Nat) : Int) := u16_and_nat u v hu hv
  have hle : u &&& v < 65536 := Nat.lt_of_le_of_lt Nat.and_le_left hu
  have HU := Lib.hid hs
  have HLE := Lib.hid hle
  clear c0 c1 h hs hle
  go_enter Tryz.func136, Tryz.ntmps136
  go_wp2
  go_end0
  exact ⟨rfl, HS.out.again j _ u hj HLE.out HU.out (come_at' HU.out) come_ne, grownBy_set _ L _ _⟩

/-- the row is made -/
theorem row_made (w : World) (len : Nat) (hl : len ≤ 16384) : ∃ C, (Instr.makeSlice 218 (.int .i64 ((len : Int) + 1)) (.int .i64 ((len : Int) + 1))).run Tryz.prog w = .ok (.slice (some ⟨w.heap.size, 0, none⟩) (len + 1) (len + 1)) (w.alloc (.cells C 222)) ∧
    StRow (w.alloc (.cells C 222)) w.heap.size (len + 1) (fun _ => none) := by
 have hinfo : (Tryz.prog.info? 222).map (fun i => (i.zero, i.size, i.bytes)) = some (some (.agg #[.bool false, .int .u16 0]), 2, 4) := by kernel_rfl
 obtain ⟨i, hi, hz0, hz1, hz2⟩ := info_parts hinfo
 have hr := run_make (P := Tryz.prog) w 218 222 i _ Tryz.underlying218 hi hz0 .i64 .i64 ((len : Int) + 1) ((len : Int) + 1) (by omega) (by omega) (by rw [hz2]; omega) (by omega)
 rw [show ((len : Int) + 1).toNat = len + 1 by omega, hz1] at hr
 refine ⟨_, hr, ⟨⟨_, heap_alloc_new w _, size_madeCells _ _, fun j hj => ?_⟩, fun j => by simp⟩⟩
 have hs : (Value.agg #[.bool false, .int .u16 0]).cells = #[.bool false, .int .u16 0] := rfl
 rw [hs]
 constructor
 ·rw [madeCells, Array.getElem?_map, Array.getElem?_range, if_pos (by omega)]
  have : j * 2 % 2 = 0 := by omega
  simp [this]
 ·rw [madeCells, Array.getElem?_map, Array.getElem?_range, if_pos (by omega)]
  have : (j * 2 + 1) % 2 = 1 := by omega
  simp [this]

end Code
end Go.Proofs.YtgjeifcmgfmgeaaGreatDoor
