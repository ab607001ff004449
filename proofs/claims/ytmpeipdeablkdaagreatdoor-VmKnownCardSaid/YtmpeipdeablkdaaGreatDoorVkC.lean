/- busbarlaw14: knownWays: one program, cut anywhere, over twenty values; by the laws as contracts. -/
import Derived.Test.YtmpeipdeablkdaaGreatDoorVkB
namespace Go.Proofs.YtmpeipdeablkdaaGreatDoor
open Go.RowKit

namespace Code
open Go.Proofs.YtmpeipdeablkdaaGreatDoor.Code.One

attribute [local go_sem ↓] Go.wp_at_zero Go.wp_at_succ

def BehindLaw : Prop := ∀ (a0 : Option Addr) (len0 cap0 : Nat) (ps0 : List B.Ins) (pa0 : Option Addr) (pn0 pc0 : Nat) (pay0 : List Nat) (ia0 : Option Addr) (im0 ic0 : Nat) (inp0 : List Nat) (a1 : Option Addr) (len1 cap1 : Nat) (ps1 : List B.Ins) (w : World), ProgAt w a0 len0 ps0 → (∀ y ∈ ps0, y.Wf) → (a0 = none → cap0 = 0) → len0 ≤ 9223372036854775807 →
 ListAt w pa0 pn0 (pay0.map u8V) → B.Bytes pay0 → pn0 ≤ 9223372036854775807 → ListAt w ia0 im0 (inp0.map u64V) → B.Words inp0 → im0 ≤ 9223372036854775807 → ProgAt w a1 len1 ps1 → (∀ y ∈ ps1, y.Wf) → len1 * 40 ≤ 140737488351232 → (a1 = none → cap1 = 0) → Tabs w →
 Calls Tryz.prog 36 #[.agg #[.slice a0 len0 cap0, .slice pa0 pn0 pc0, .slice ia0 im0 ic0], .slice a1 len1 cap1] w (BoolOut true w)
def SkipsLaw : Prop := ∀ (a0 : Option Addr) (len0 cap0 : Nat) (ps0 : List B.Ins) (pa0 : Option Addr) (pn0 pc0 : Nat) (pay0 : List Nat) (ia0 : Option Addr) (im0 ic0 : Nat) (inp0 : List Nat) (a1 : Option Addr) (len1 cap1 : Nat) (ps1 : List B.Ins) (w : World), ProgAt w a0 len0 ps0 → (∀ y ∈ ps0, y.Wf) → (a0 = none → cap0 = 0) → len0 ≤ 9223372036854775807 →
 ListAt w pa0 pn0 (pay0.map u8V) → B.Bytes pay0 → pn0 ≤ 9223372036854775807 → ListAt w ia0 im0 (inp0.map u64V) → B.Words inp0 → im0 ≤ 9223372036854775807 → ProgAt w a1 len1 ps1 → (∀ y ∈ ps1, y.Wf) → len1 * 40 ≤ 140737488351232 → (a1 = none → cap1 = 0) → Tabs w →
 Calls Tryz.prog 37 #[.agg #[.slice a0 len0 cap0, .slice pa0 pn0 pc0, .slice ia0 im0 ic0], .slice a1 len1 cap1] w (BoolOut true w)
def NamedLaw : Prop := ∀ (a0 : Option Addr) (len0 cap0 : Nat) (ps0 : List B.Ins) (pa0 : Option Addr) (pn0 pc0 : Nat) (pay0 : List Nat) (ia0 : Option Addr) (im0 ic0 : Nat) (inp0 : List Nat) (n1 : Int) (n2 : Int) (w : World), ProgAt w a0 len0 ps0 → (∀ y ∈ ps0, y.Wf) → (a0 = none → cap0 = 0) → len0 ≤ 9223372036854775807 →
 ListAt w pa0 pn0 (pay0.map u8V) → B.Bytes pay0 → pn0 ≤ 9223372036854775807 → ListAt w ia0 im0 (inp0.map u64V) → B.Words inp0 → im0 ≤ 9223372036854775807 → Tabs w → B.In64 n1 → B.In64 n2 →
 Calls Tryz.prog 38 #[.agg #[.slice a0 len0 cap0, .slice pa0 pn0 pc0, .slice ia0 im0 ic0], .int .i64 n1, .int .i64 n2] w (BoolOut true w)

def way7 : List B.Ins := [⟨15, 0, 0, 0, 0⟩, ⟨19, 0, 0, 2, 5⟩, ⟨16, 0, 1, 0, 0⟩, ⟨18, 0, 0, 1, 0⟩, ⟨16, 0, 0, 0, 0⟩, ⟨17, 0, 1, 3, 1⟩, ⟨11, 0, 0, 1, 0⟩]
theorem way7_wf : ∀ y ∈ way7, y.Wf := wf_V (by decide +kernel)
theorem way7_take (n : Nat) : ∀ y ∈ way7.take n, y.Wf := fun y hy => way7_wf y (List.mem_of_mem_take hy)
theorem progAt_takeV {w : World} {a : Option Addr} {len n : Nat} {ps : List B.Ins} (h : ProgAt w a len ps) (hn : n ≤ len) : ProgAt w a n (ps.take n) := by
 refine ⟨by rw [List.length_take, ← h.len]; omega, fun i x hx => ?_⟩
 rw [List.getElem?_take] at hx
 split at hx
 ·exact h.at_ i x hx
 ·cases hx
theorem seven_bytes : B.Bytes [7] := by unfold B.Bytes; decide
theorem words_two {v : Nat} (h : v < 20) : B.Words [v, 1] := by
 intro b hb
 simp at hb
 omega
/-- one byte in a block of its own -/
theorem seven_new (w : World) : ListAt (w.alloc (.cells #[.int .u8 7] 5)) (some ⟨w.heap.size, 0, none⟩) 1 (([7] : List Nat).map u8V) := listAt_new _ _ 1 _ _ _ rfl rfl rfl
theorem alloc_below (w : World) (o : Obj) : Below w.heap.size w (w.alloc o) := (Below.refl _ _).alloc (Nat.le_refl _) _

set_option maxRecDepth 100000 in
set_option maxHeartbeats 12800000 in
theorem knownWays14_any (hL : RunsLaw) (hBe : BehindLaw) (hSk : SkipsLaw) (hNa : NamedLaw) (w : World) (hR : Ready w) : Calls Tryz.prog 13 #[] w (BoolOut true w) := by
 have HR := Lib.hid hR
 have HL := Lib.hid hL
 have HBE := Lib.hid hBe
 have HSK := Lib.hid hSk
 have HNA := Lib.hid hNa
 clear hR hL hBe hSk hNa
 obtain ⟨w0, hw0⟩ : ∃ w0, w.alloc (.cells #[.int .i64 15, .int .i64 0, .int .i64 0, .int .i64 0, .int .u64 0, .int .i64 19, .int .i64 0, .int .i64 0, .int .i64 2, .int .u64 5, .int .i64 16, .int .i64 0, .int .i64 1, .int .i64 0, .int .u64 0, .int .i64 18, .int .i64 0, .int .i64 0, .int .i64 1, .int .u64 0, .int .i64 16, .int .i64 0, .int .i64 0, .int .i64 0, .int .u64 0, .int .i64 17, .int .i64 0, .int .i64 1, .int .i64 3, .int .u64 1, .int .i64 11, .int .i64 0, .int .i64 0, .int .i64 1, .int .u64 0] 24) = w0 := ⟨_, rfl⟩
 have HB0 : Hid (Below w.heap.size w w0) := Lib.hid (by rw [← hw0]; exact alloc_below _ _)
 have HP0 : Hid (ProgAt w0 (some ⟨w.heap.size, 0, none⟩) 7 way7) := Lib.hid (by rw [← hw0]; exact progAt_newV way7 _ 7 _ _ rfl rfl rfl)
 have hs0 : w.heap.size < w0.heap.size := by rw [← hw0]; simp
 go_enter Tryz.func13, Tryz.ntmps13
 go_wp2_with fail
 try rw [hw0]
 clear hw0
 go_loopw [2] (fun i wr => ∃ v : Nat, v ≤ 20 ∧ i = .int .u64 v ∧ Below w0.heap.size w0 wr) (fun i _ => 20 - (intOf i).toNat)
 case atStart => exact ⟨0, by omega, rfl, Below.refl _ _⟩
 case round =>
  obtain ⟨v, hv20, rfl, hbv⟩ := hrel
  have HBv := Lib.hid hbv
  clear hbv
  by_cases hv : v < 20
  ·have v0 : (0 : Int) ≤ (v : Int) := by omega
   have v1 : (v : Int) < 20 := by omega
   go_wp2_with fail
   obtain ⟨wi, hwi⟩ : ∃ wi, wr.alloc (.cells #[.int .u64 (v : Int), .int .u64 1] 22) = wi := ⟨_, rfl⟩
   try rw [hwi]
   have hbi : Below wr.heap.size wr wi := by rw [← hwi]; exact alloc_below _ _
   have HBI := Lib.hid (HBv.out.trans (hbi.mono HBv.out.size))
   have HU : Hid (ListAt wi (some ⟨wr.heap.size, 0, none⟩) 2 (([v, 1] : List Nat).map u64V)) := Lib.hid (by rw [← hwi]; exact listAt_new _ _ 2 _ _ _ rfl rfl rfl)
   have hsi : wr.heap.size < wi.heap.size := by rw [← hwi]; simp
   have hzi := HBv.out.size
   clear hwi hbi
   generalize wr.heap.size = Y at *
   go_loopw [4] (fun i wr => ∃ n : Nat, n ≤ 8 ∧ i = .int .i64 n ∧ Below wi.heap.size wi wr) (fun i _ => 8 - (intOf i).toNat)
   case atStart => exact ⟨0, by omega, rfl, Below.refl _ _⟩
   case round =>
    obtain ⟨n, hn8, rfl, hbn⟩ := hrel
    have HBn := Lib.hid hbn
    clear hbn
    by_cases hn : n ≤ 7
    ·have n0 : (0 : Int) ≤ (n : Int) := by omega
     have n1 : (n : Int) ≤ 7 := by omega
     have HX : Hid (∀ wz : World, Below wi.heap.size wi wz → Ready wz ∧ ProgAt wz (some ⟨w.heap.size, 0, none⟩) 7 way7 ∧ ProgAt wz (some ⟨w.heap.size, 0, none⟩) n (way7.take n) ∧ ListAt wz (some ⟨Y, 0, none⟩) 2 (([v, 1] : List Nat).map u64V)) := Lib.hid (fun wz hb => by
      have h1 := HBI.out.trans (hb.mono HBI.out.size)
      have h2 := HP0.out.below h1 (Nat.le_refl _)
      exact ⟨HR.out.below (HB0.out.trans (h1.mono (by omega))) (Nat.le_refl _), h2, progAt_takeV h2 hn, HU.out.below hb (Nat.le_refl _)⟩)
     have HW := Lib.hid (words_two hv)
     go_wp2_with fail
     obtain ⟨w1, hw1⟩ : ∃ w1, wr.alloc (.cells #[.int .u8 7] 5) = w1 := ⟨_, rfl⟩
     have hl1 := seven_new wr
     have hb1 := alloc_below wr (.cells #[.int .u8 7] 5)
     rw [hw1] at hl1 hb1
     try rw [hw1]
     have HB1 := Lib.hid (HBn.out.trans (hb1.mono HBn.out.size))
     refine (runs_v HL.out (HX.out _ HB1.out).2.2.1 (way7_take n) hl1 seven_bytes (HX.out _ HB1.out).2.2.2 HW.out (by omega) ⟨fun h => (by cases h), fun h => (by cases h), fun h => (by cases h)⟩ (HX.out _ HB1.out).1).mono ?_
     rintro e w2 ⟨rfl, hb2⟩
     have HB2 := Lib.hid (HB1.out.trans (hb2.mono HB1.out.size))
     clear hb1 hb2 hw1 hl1 HB1
     go_wp2_with fail
     obtain ⟨w3, hw3⟩ : ∃ w3, w2.alloc (.cells #[.int .u8 7] 5) = w3 := ⟨_, rfl⟩
     have hl1 := seven_new w2
     have hb1 := alloc_below w2 (.cells #[.int .u8 7] 5)
     rw [hw3] at hl1 hb1
     try rw [hw3]
     have HB3 := Lib.hid (HB2.out.trans (hb1.mono HB2.out.size))
     refine (HBE.out (some ⟨w.heap.size, 0, none⟩) n 7 (way7.take n) _ 1 1 [7] (some ⟨Y, 0, none⟩) 2 2 [v, 1] (some ⟨w.heap.size, 0, none⟩) 7 7 way7 _ (HX.out _ HB3.out).2.2.1 (way7_take n) (fun h => by cases h) (by omega) hl1 seven_bytes (by omega) (HX.out _ HB3.out).2.2.2 HW.out (by omega) (HX.out _ HB3.out).2.1 way7_wf (by omega) (fun h => by cases h) (HX.out _ HB3.out).1.tabs).mono ?_
     rintro e w4 ⟨rfl, hb2⟩
     have HB4 := Lib.hid (HB3.out.trans (hb2.mono HB3.out.size))
     clear hb1 hb2 hw3 hl1 HB2 HB3
     go_wp2_with fail
     obtain ⟨w5, hw5⟩ : ∃ w5, w4.alloc (.cells #[.int .u8 7] 5) = w5 := ⟨_, rfl⟩
     have hl1 := seven_new w4
     have hb1 := alloc_below w4 (.cells #[.int .u8 7] 5)
     rw [hw5] at hl1 hb1
     try rw [hw5]
     have HB5 := Lib.hid (HB4.out.trans (hb1.mono HB4.out.size))
     refine (HSK.out (some ⟨w.heap.size, 0, none⟩) 7 7 way7 _ 1 1 [7] (some ⟨Y, 0, none⟩) 2 2 [v, 1] (some ⟨w.heap.size, 0, none⟩) n 7 (way7.take n) _ (HX.out _ HB5.out).2.1 way7_wf (fun h => by cases h) (by omega) hl1 seven_bytes (by omega) (HX.out _ HB5.out).2.2.2 HW.out (by omega) (HX.out _ HB5.out).2.2.1 (way7_take n) (by omega) (fun h => by cases h) (HX.out _ HB5.out).1.tabs).mono ?_
     rintro e w6 ⟨rfl, hb2⟩
     have HB6 := Lib.hid (HB5.out.trans (hb2.mono HB5.out.size))
     clear hb1 hb2 hw5 hl1 HB4 HB5
     go_wp2_with fail
     obtain ⟨w7, hw7⟩ : ∃ w7, w6.alloc (.cells #[.int .u8 7] 5) = w7 := ⟨_, rfl⟩
     have hl1 := seven_new w6
     have hb1 := alloc_below w6 (.cells #[.int .u8 7] 5)
     rw [hw7] at hl1 hb1
     try rw [hw7]
     have HB7 := Lib.hid (HB6.out.trans (hb1.mono HB6.out.size))
     refine (HNA.out (some ⟨w.heap.size, 0, none⟩) 7 7 way7 _ 1 1 [7] (some ⟨Y, 0, none⟩) 2 2 [v, 1] n n _ (HX.out _ HB7.out).2.1 way7_wf (fun h => by cases h) (by omega) hl1 seven_bytes (by omega) (HX.out _ HB7.out).2.2.2 HW.out (by omega) (HX.out _ HB7.out).1.tabs (in64_nat (by omega)) (in64_nat (by omega))).mono ?_
     rintro e w8 ⟨rfl, hb2⟩
     have HB8 := Lib.hid (HB7.out.trans (hb2.mono HB7.out.size))
     clear hb1 hb2 hw7 hl1 HB6 HB7
     go_wp2_with fail
     go_roundw
     case rel => exact ⟨n + 1, by omega, by go_num, HB8.out⟩
     case measure => simp [intOf]; omega
    ·obtain rfl : n = 8 := by omega
     have HBz := Lib.hid (HBI.out.trans (HBn.out.mono HBI.out.size))
     go_wp2_with fail
     go_roundw
     case rel => exact ⟨v + 1, by omega, by go_num, HBz.out⟩
     case measure => simp [intOf]; omega
  ·obtain rfl : v = 20 := by omega
   go_wp2_with fail
   go_ret
   exact ⟨rfl, HB0.out.trans (HBv.out.mono (by omega))⟩

end Code
end Go.Proofs.YtmpeipdeablkdaaGreatDoor
