/- Package verify: whether a program may be run. -/
import Derived.Test.YtgjeifcmgfmgeaaGreatDoorVerE
namespace Go.Proofs.YtgjeifcmgfmgeaaGreatDoor
open Go.RowKit

namespace Code

attribute [local go_sem ↓] Go.wp_at_zero Go.wp_at_succ

/-- an error with its place, if there is one -/
def progErr (r : Int × Option Nat) : Value :=
 if r.1 = 0 then .nilIface else match r.2 with
  | none => errno r.1
  | some i => fault r.1 i

/-- what Program answers -/
def ProgOut (ps : List B.Ins) (size slots : Int) (w : World) (e : Ending) (w' : World) : Prop := e = .returned (progErr (B.program ps size slots)) ∧ Below w.heap.size w w'

theorem firstTouch_ne {size slots : Int} {len : Nat} : ∀ (l : List B.Ins) (i : Nat) (e : Int) (j : Nat), B.firstTouch size slots len i l = some (e, j) → e ≠ 0
 | [], i, e, j, h => by simp [B.firstTouch] at h
 | x :: r, i, e, j, h => by
  rw [firstTouch_step] at h
  split at h
  ·simp at h; omega
  ·split at h
   ·rename_i hne
    simp at h
    rw [← h.1]
    exact hne
   ·exact firstTouch_ne r _ _ _ h

theorem program_arg {ps : List B.Ins} {size slots : Int} (h : size < 0 ∨ 8 < size ∨ slots < 0 ∨ 64 < slots) : progErr (B.program ps size slots) = errno 1 := by
 unfold B.program; rw [if_pos h]; rfl
theorem program_many {ps : List B.Ins} {size slots : Int} (h : ¬ (size < 0 ∨ 8 < size ∨ slots < 0 ∨ 64 < slots)) (hl : 16384 < ps.length) : progErr (B.program ps size slots) = errno 5 := by
 unfold B.program; rw [if_neg h, if_pos hl]; rfl
theorem program_touch {ps : List B.Ins} {size slots : Int} {e : Int} {i : Nat} (h : ¬ (size < 0 ∨ 8 < size ∨ slots < 0 ∨ 64 < slots)) (hl : ¬ 16384 < ps.length) (ht : B.firstTouch size slots ps.length 0 ps = some (e, i)) : progErr (B.program ps size slots) = fault e i := by
 unfold B.program; rw [if_neg h, if_neg hl, ht]
 have := firstTouch_ne _ _ _ _ ht
 unfold progErr
 rw [if_neg this]
theorem program_read {ps : List B.Ins} {size slots : Int} (h : ¬ (size < 0 ∨ 8 < size ∨ slots < 0 ∨ 64 < slots)) (hl : ¬ 16384 < ps.length) (ht : B.firstTouch size slots ps.length 0 ps = none) :
    progErr (B.program ps size slots) = readErr (B.firstRead ps) := by
 unfold B.program; rw [if_neg h, if_neg hl, ht]
 cases B.firstRead ps <;> rfl

set_option maxRecDepth 100000 in
set_option maxHeartbeats 3200000 in
theorem program_any (a : Option Addr) (len cap : Nat) (ps : List B.Ins) (size slots : Int) (w : World) (hp : ProgAt w a len ps) (hwf : ∀ y ∈ ps, y.Wf) (ht : Tabs w) (hr : len ≤ 9223372036854775807) :
    Calls Tryz.prog 36 #[.slice a len cap, .int .i64 size, .int .i64 slots] w (ProgOut ps size slots w) := by
 have HP := Lib.hid hp
 have HWF := Lib.hid hwf
 have HT := Lib.hid ht
 clear hp hwf ht
 by_cases q1 : size < 0
 ·have d1 : decide (size < 0) = true := by simpa using q1
  go_enter Tryz.func36, Tryz.ntmps36
  go_wp2_with fail
  go_ret
  exact ⟨by rw [program_arg (.inl q1)]; rfl, Below.refl _ _⟩
 ·have d1 : decide (size < 0) = false := by simpa using q1
  by_cases q2 : 8 < size
  ·have d2 : decide (8 < size) = true := by simpa using q2
   go_enter Tryz.func36, Tryz.ntmps36
   go_wp2_with fail
   go_ret
   exact ⟨by rw [program_arg (.inr (.inl q2))]; rfl, Below.refl _ _⟩
  ·have d2 : decide (8 < size) = false := by simpa using q2
   by_cases q3 : slots < 0
   ·have d3 : decide (slots < 0) = true := by simpa using q3
    go_enter Tryz.func36, Tryz.ntmps36
    go_wp2_with fail
    go_ret
    exact ⟨by rw [program_arg (.inr (.inr (.inl q3)))]; rfl, Below.refl _ _⟩
   ·have d3 : decide (slots < 0) = false := by simpa using q3
    by_cases q4 : 64 < slots
    ·have d4 : decide (64 < slots) = true := by simpa using q4
     go_enter Tryz.func36, Tryz.ntmps36
     go_wp2_with fail
     go_ret
     exact ⟨by rw [program_arg (.inr (.inr (.inr q4)))]; rfl, Below.refl _ _⟩
    ·have d4 : decide (64 < slots) = false := by simpa using q4
     have HA : Hid (¬ (size < 0 ∨ 8 < size ∨ slots < 0 ∨ 64 < slots)) := by show ¬ _; omega
     by_cases q5 : 16384 < len
     ·have d5 : decide ((16384 : Int) < (len : Int)) = true := by simp; omega
      go_enter Tryz.func36, Tryz.ntmps36
      go_wp2_with fail
      go_ret
      exact ⟨by rw [program_many HA.out (by have := HP.out.len; omega)]; rfl, Below.refl _ _⟩
     ·have d5 : decide ((16384 : Int) < (len : Int)) = false := by simp; omega
      have HL : Hid (¬ 16384 < ps.length) := by show ¬ _; have := HP.out.len; omega
      clear q1 q2 q3 q4
      go_enter Tryz.func36, Tryz.ntmps36
      go_wp2_with fail
      refine (touching_any a len cap ps size slots _ HP.out HWF.out HT.out (by omega)).mono ?_
      rintro e w1 ⟨rfl, hb1⟩
      have HB1 := Lib.hid hb1
      have hs1 := hb1.size
      clear hb1
      cases hft : B.firstTouch size slots ps.length 0 ps with
      | some p =>
       obtain ⟨e, i⟩ := p
       have HF := Lib.hid hft
       clear hft
       have ee : touchErr (some (e, i)) = .iface 146 (.agg #[.int .i64 e, .int .i64 0, .int .i64 i]) := rfl
       rw [ee]
       clear ee
       go_wp2_with fail
       go_ret
       exact ⟨by rw [program_touch HA.out HL.out HF.out]; rfl, HB1.out⟩
      | none =>
       have HF := Lib.hid hft
       have hok := Lib.hid ((B.okTouch_iff ps size slots).1 hft)
       clear hft
       have ee : touchErr none = .nilIface := rfl
       rw [ee]
       clear ee
       go_wp2_with fail
       refine (reading_any a len cap ps size slots _ (HP.out.below HB1.out (Nat.le_refl _)) hok.out (by omega)).mono ?_
       rintro e w2 ⟨rfl, hb2⟩
       have HB2 := Lib.hid (HB1.out.trans (hb2.mono hs1))
       clear hb2
       have HPR := Lib.hid (program_read HA.out HL.out HF.out)
       generalize readErr (B.firstRead ps) = v at *
       go_wp2_with fail
       go_ret
       exact ⟨by rw [HPR.out]; rfl, HB2.out⟩

end Code
end Go.Proofs.YtgjeifcmgfmgeaaGreatDoor
