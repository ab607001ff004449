/- busbarkit: is an error this one, at this place? -/
import Derived.Test.YtgjeifcmgfmgeaaGreatDoorErrF
namespace Go.Proofs.YtgjeifcmgfmgeaaGreatDoor
open Go.RowKit

namespace Code

attribute [local go_sem ↓] Go.wp_at_zero Go.wp_at_succ

theorem ErrVar.below {N : Nat} {w w' : World} (h : ErrVar w) (hb : Below N w w') (hN : w.heap.size ≤ N) : ErrVar w' :=
 (hb.cell (p := ⟨0, 0, none⟩) (Nat.lt_of_lt_of_le (World.block_lt_of_cell? w _ h) hN)).trans h

/-- a place is answered -/
def PlaceOut (e : Er) (w : World) (r : Ending) (w' : World) : Prop := r = .returned (.tuple #[.int .i64 0, .int .i64 e.place.1, .bool e.place.2]) ∧ Below w.heap.size w w'

set_option maxRecDepth 100000 in
set_option maxHeartbeats 3200000 in
theorem place_any (e : Er) (h : e.ok) (w : World) (hg : ErrVar w) : Calls Tryz.prog 107 #[e.val] w (PlaceOut e w) := by
 have HG := Lib.hid (hg.below ((Below.refl w.heap.size w).alloc (Nat.le_refl _) (.cells #[.int .i64 0, .int .i64 0, .int .i64 0] 146)) (Nat.le_refl _))
 have hB := heap_alloc_new w (.cells #[.int .i64 0, .int .i64 0, .int .i64 0] 146)
 have HBK := Lib.hid hB
 have HO := Lib.hid h
 clear hg hB h
 cases e with
 | nil =>
  unfold Er.val
  go_enter Tryz.func107, Tryz.ntmps107
  go_wp2_with fail
  go_ret3
  exact ⟨rfl, (Below.refl _ _).alloc (Nat.le_refl _) _⟩
 | plain n =>
  unfold Er.val
  go_enter Tryz.func107, Tryz.ntmps107
  go_wp2_with fail
  refine (as_any _ _ (.errno _) _ _ _ _ _ HBK.out HG.out).mono ?_
  rintro r w1 ⟨h1, _⟩
  obtain ⟨rfl, hb1⟩ := h1 _ rfl
  have HB1 := Lib.hid (((Below.refl w.heap.size w).alloc (Nat.le_refl _) (.cells #[.int .i64 0, .int .i64 0, .int .i64 0] 146)).trans (hb1.mono (by simp)))
  clear hb1 h1
  go_wp2_with fail
  go_ret3
  exact ⟨rfl, HB1.out⟩
 | fault n i =>
  unfold Er.val
  go_enter Tryz.func107, Tryz.ntmps107
  go_wp2_with fail
  refine (as_any _ _ (.fault _ _ _) _ _ _ _ _ HBK.out HG.out).mono ?_
  rintro r w1 ⟨_, h1⟩
  obtain ⟨rfl, hf1, hb1⟩ := h1 _ _ _ rfl
  have hc : ∀ j, w1.cell? ⟨w.heap.size, j, none⟩ = (#[.int .i64 (n : Int), .int .i64 0, .int .i64 i] : Array Value)[j]? := fun j => cell_of_row _ _ _ _ _ _ hf1
  have hBl : w.heap.size < w1.heap.size := lt_of_block hf1
  have d0 : w1.cell? ⟨w.heap.size, 0, none⟩ = some (.int .i64 (n : Int)) := (hc 0).trans rfl
  have d1 : w1.cell? ⟨w.heap.size, 1, none⟩ = some (.int .i64 0) := (hc 1).trans rfl
  have d2 : w1.cell? ⟨w.heap.size, 2, none⟩ = some (.int .i64 i) := (hc 2).trans rfl
  have HB1 := Lib.hid (((Below.refl w.heap.size w).alloc (Nat.le_refl _) (.cells #[.int .i64 0, .int .i64 0, .int .i64 0] 146)).trans hb1)
  clear hb1 h1 hf1 hc
  go_wp2_with fail
  go_region_held3 (fun w' => w'.cell? ⟨w.heap.size, 0, none⟩ = some (.int .i64 (n : Int)) ∧ w'.cell? ⟨w.heap.size, 1, none⟩ = some (.int .i64 0) ∧ w'.cell? ⟨w.heap.size, 2, none⟩ = some (.int .i64 i))
   (first
    | exact ⟨d0, d1, d2⟩
    | exact ⟨(hb2.cell (p := ⟨w.heap.size, 0, none⟩) hBl).trans d0, (hb2.cell (p := ⟨w.heap.size, 1, none⟩) hBl).trans d1, (hb2.cell (p := ⟨w.heap.size, 2, none⟩) hBl).trans d2⟩
    | assumption)
   ((go_at_call 105; refine (num_any (.fault n i) HO.out _).mono ?_; rintro r w2 ⟨rfl, hb2⟩))
  all_goals go_wp2
  all_goals go_ret3
  all_goals refine ⟨?_, HB1.out.trans ((Below.refl w.heap.size w1).drew.trans (hb2.mono (Nat.le_of_lt hBl)))⟩
  all_goals simp [Er.place, Er.num]

/-- is an error this one, told at this place? -/
def atB (e : Er) (n l i : Int) : Bool := if n = 0 then e.isNil else decide ((e.num : Int) = n) && e.place.2 && decide ((0 : Int) = l) && decide (e.place.1 = i)

/-- whether it is is answered -/
def BoolOut (b : Bool) (w : World) (r : Ending) (w' : World) : Prop := r = .returned (.bool b) ∧ Below w.heap.size w w'

set_option maxRecDepth 100000 in
set_option maxHeartbeats 3200000 in
theorem at_any (e : Er) (h : e.ok) (n l i : Int) (w : World) (hg : ErrVar w) : Calls Tryz.prog 45 #[e.val, .int .i64 n, .int .i64 l, .int .i64 i] w (BoolOut (atB e n l i) w) := by
 have HG := Lib.hid hg
 have HO := Lib.hid h
 clear hg h
 by_cases hn : n = 0
 ·subst hn
  cases e with
  | nil =>
   unfold Er.val
   go_enter Tryz.func45, Tryz.ntmps45
   go_wp2
   go_ret
   exact ⟨rfl, Below.refl _ _⟩
  | plain m =>
   unfold Er.val
   go_enter Tryz.func45, Tryz.ntmps45
   go_wp2
   go_ret
   exact ⟨rfl, Below.refl _ _⟩
  | fault m j =>
   unfold Er.val
   go_enter Tryz.func45, Tryz.ntmps45
   go_wp2
   go_ret
   exact ⟨rfl, Below.refl _ _⟩
 ·have hnb : (n == 0) = false := by simpa using hn
  have hat : atB e n l i = (decide ((e.num : Int) = n) && e.place.2 && decide ((0 : Int) = l) && decide (e.place.1 = i)) := by unfold atB; rw [if_neg hn]
  have HAT := Lib.hid hat
  clear hat hn
  go_enter Tryz.func45, Tryz.ntmps45
  go_wp2_with fail
  refine (place_any e HO.out _ HG.out).mono ?_
  rintro r w1 ⟨rfl, hb1⟩
  have HB1 := Lib.hid hb1
  have hs1 := hb1.size
  clear hb1
  go_wp2_with fail
  refine (num_any e HO.out _).mono ?_
  rintro r w2 ⟨rfl, hb2⟩
  have HB2 := Lib.hid (HB1.out.trans (hb2.mono hs1))
  clear hb2
  generalize e.place = pl at *
  obtain ⟨p1, p2⟩ := pl
  simp only at HAT
  generalize ((e.num : Nat) : Int) = m at *
  by_cases q1 : m = n
  ·have b1 : (m == n) = true := by simpa using q1
   have Q1 := Lib.hid q1
   clear q1
   cases p2 with
   | false =>
    go_wp2_with fail
    go_ret
    exact ⟨ret_bool (by rw [HAT.out]; simp), HB2.out⟩
   | true =>
    by_cases q2 : (0 : Int) = l
    ·have b2 : ((0 : Int) == l) = true := by simpa using q2
     have Q2 := Lib.hid q2
     clear q2
     by_cases q3 : p1 = i
     ·have b3 : (p1 == i) = true := by simpa using q3
      have Q3 := Lib.hid q3
      clear q3
      go_wp2_with fail
      go_ret
      exact ⟨ret_bool (by rw [HAT.out]; simp [Q1.out, Q2.out, Q3.out]), HB2.out⟩
     ·have b3 : (p1 == i) = false := by simpa using q3
      have Q3 := Lib.hid q3
      clear q3
      go_wp2_with fail
      go_ret
      exact ⟨ret_bool (by rw [HAT.out]; simp [Q3.out]), HB2.out⟩
    ·have b2 : ((0 : Int) == l) = false := by simpa using q2
     have Q2 := Lib.hid q2
     clear q2
     go_wp2_with fail
     go_ret
     exact ⟨ret_bool (by rw [HAT.out]; simp [Q2.out]), HB2.out⟩
  ·have b1 : (m == n) = false := by simpa using q1
   have Q1 := Lib.hid q1
   clear q1
   go_wp2_with fail
   go_ret
   exact ⟨ret_bool (by rw [HAT.out]; simp [Q1.out]), HB2.out⟩

/-- is an error this one, told at no place? -/
def plainB (e : Er) (n : Int) : Bool := decide ((e.num : Int) = n) && !e.place.2

theorem Er.place_nil {e : Er} (h : e.isNil = true) : e.place.2 = false := by cases e <;> simp [Er.isNil] at h <;> rfl

set_option maxRecDepth 100000 in
set_option maxHeartbeats 3200000 in
theorem plain_any (e : Er) (h : e.ok) (n : Int) (w : World) (hg : ErrVar w) : Calls Tryz.prog 44 #[e.val, .int .i64 n] w (BoolOut (plainB e n) w) := by
 have HO := Lib.hid h
 have HG := Lib.hid hg
 clear hg h
 go_enter Tryz.func44, Tryz.ntmps44
 go_wp2_with fail
 refine (num_any e HO.out _).mono ?_
 rintro r w1 ⟨rfl, hb1⟩
 have hs1 := hb1.size
 have hB : w1.heap[w.heap.size]? = some (.cells #[.int .i64 0, .int .i64 0, .int .i64 0] 146 (0, 0)) := (hb1.block w.heap.size (by simp)).trans (heap_alloc_new w _)
 have HB := Lib.hid hB
 have HB1 := Lib.hid (((Below.refl w.heap.size w).alloc (Nat.le_refl _) (.cells #[.int .i64 0, .int .i64 0, .int .i64 0] 146)).trans (hb1.mono (by simp)))
 have HG1 := Lib.hid ((HG.out.below HB1.out (Nat.le_refl _)))
 clear hb1 hB
 by_cases q1 : ((e.num : Nat) : Int) = n
 ·have b1 : (((e.num : Nat) : Int) == n) = true := by simpa using q1
  have Q1 := Lib.hid q1
  clear q1
  cases e with
  | nil =>
   unfold Er.val
   go_wp2_with fail
   go_ret
   exact ⟨ret_bool (by unfold plainB; simp [Q1.out, Er.place]), HB1.out⟩
  | plain m =>
   unfold Er.val
   go_wp2_with fail
   refine (as_any _ _ (.errno _) _ _ _ _ _ HB.out HG1.out).mono ?_
   rintro r w2 ⟨h1, _⟩
   obtain ⟨rfl, hb2⟩ := h1 _ rfl
   have HB2 := Lib.hid (HB1.out.trans (hb2.mono (by simp at hs1; omega)))
   clear hb2 h1
   go_wp2_with fail
   go_ret
   exact ⟨ret_bool (by unfold plainB; simp [Q1.out, Er.place]), HB2.out⟩
  | fault m j =>
   unfold Er.val
   go_wp2_with fail
   refine (as_any _ _ (.fault _ _ _) _ _ _ _ _ HB.out HG1.out).mono ?_
   rintro r w2 ⟨_, h1⟩
   obtain ⟨rfl, _, hb2⟩ := h1 _ _ _ rfl
   have HB2 := Lib.hid (HB1.out.trans hb2)
   clear hb2 h1
   go_wp2_with fail
   go_ret
   exact ⟨ret_bool (by unfold plainB; simp [Er.place]), HB2.out⟩
 ·have b1 : (((e.num : Nat) : Int) == n) = false := by simpa using q1
  have Q1 := Lib.hid q1
  clear q1
  go_wp2_with fail
  go_ret
  exact ⟨ret_bool (by unfold plainB; simp [Q1.out]), HB1.out⟩

end Code
end Go.Proofs.YtgjeifcmgfmgeaaGreatDoor
