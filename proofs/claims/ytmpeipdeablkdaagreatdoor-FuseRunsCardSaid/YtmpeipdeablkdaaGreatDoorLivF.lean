/- An error of a program that may not be run; two lists that are the same. -/
import Derived.Test.YtmpeipdeablkdaaGreatDoorErrQ
import Derived.Test.YtmpeipdeablkdaaGreatDoorMore2
import Derived.Deep.Cut
import Derived.Deep.DeepCutAuto
import Derived.Deep.CutBlock
import Derived.Deep.RegionHeld3
import Derived.StillTailTactics
import Derived.RegionTactic
import Derived.Deep.DrawnRows
namespace Go.Proofs.YtmpeipdeablkdaaGreatDoor
open Go.RowKit

namespace Code

attribute [local go_sem ↓] Go.wp_at_zero Go.wp_at_succ

/-- an error of a program that may not be run is there -/
theorem progEr_shape {ps : List B.Ins} {size slots : Int} (hm : ¬ B.MayRun ps size slots) : (progEr ps size slots).isNil = false := by
 cases h : (progEr ps size slots).isNil with
 | false => rfl
 | true =>
  exfalso
  apply hm
  rw [← B.program_ok]
  unfold progEr erOf at h
  have hr := program_range ps size slots
  generalize hq : B.program ps size slots = r at h hr
  obtain ⟨n, o⟩ := r
  by_cases h0 : n = 0
  ·subst h0
   cases o with
   | none => rfl
   | some i =>
    exfalso
    unfold B.program at hq
    split at hq
    ·simp at hq
    ·split at hq
     ·simp at hq
     ·cases hf : B.firstTouch size slots ps.length 0 ps with
      | some p =>
       obtain ⟨e, j⟩ := p
       rw [hf] at hq
       simp at hq
       exact firstTouch_ne _ _ _ _ hf hq.1
      | none =>
       rw [hf] at hq
       cases hfr : B.firstRead ps with
       | none => rw [hfr] at hq; simp at hq
       | some k => rw [hfr] at hq; simp at hq
  ·simp only [if_neg h0] at h
   cases o <;> simp [Er.isNil] at h

set_option maxHeartbeats 1600000 in
theorem sameInstrs_yes (a a' : Option Addr) (len cap len' cap' : Nat) (ps : List B.Ins) (w : World) (hp : ProgAt w a len ps) (hp' : ProgAt w a' len' ps) (hl : len ≤ 9223372036854775807) :
    Calls Tryz.prog 17 #[.slice a len cap, .slice a' len' cap'] w (BoolOut true w) := by
 obtain rfl : len' = len := by rw [hp.len, hp'.len]
 have HP := Lib.hid hp
 have HQ := Lib.hid hp'
 clear hp hp'
 go_enter Tryz.func17, Tryz.ntmps17
 go_wp2_with fail
 go_loopw [5] (fun i wr => ∃ (k : Nat), k ≤ len' ∧ i = .int .i64 k ∧ Below w.heap.size w wr) (fun i _ => len' - (intOf i).toNat)
 case atStart => exact ⟨0, Nat.zero_le _, rfl, Below.refl _ _⟩
 case round =>
  obtain ⟨k, hk, rfl, hb⟩ := hrel
  have HB := Lib.hid hb
  by_cases hlt : k < len'
  ·have hx : ps[k]? = some (ps[k]'(by have := HP.out.len; omega)) := List.getElem?_eq_getElem _
   generalize ps[k]'(by have := HP.out.len; omega) = x at hx
   obtain ⟨b, off, rfl, hbl, hat⟩ := HP.out.at_ k x hx
   obtain ⟨b', off', rfl, hbl', hat'⟩ := HQ.out.at_ k x hx
   obtain ⟨h0, h1, h2, h3, h4⟩ := hat.below hb hbl
   obtain ⟨g0, g1, g2, g3, g4⟩ := hat'.below hb hbl'
   have k0 : (0 : Int) ≤ (k : Int) := by omega
   have k1 : (k : Int) < (len' : Int) := by omega
   clear hx hat hat' hb
   go_wp2_with fail
   go_quiet (fail)
   go_wp2_with fail
   go_roundw
   case rel => exact ⟨k + 1, by omega, by go_num, belowN HB.out _⟩
   case measure => simp [intOf]; omega
  ·obtain rfl : k = len' := by omega
   clear hb
   go_wp2_with fail
   go_ret
   exact ⟨rfl, HB.out⟩

end Code
end Go.Proofs.YtmpeipdeablkdaaGreatDoor
