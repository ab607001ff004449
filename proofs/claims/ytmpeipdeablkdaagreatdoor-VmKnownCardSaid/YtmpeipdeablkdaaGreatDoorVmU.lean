/- Package busbarlaw14: each statement's first question is answered by yes. -/
/- busbarlaw14: an instruction with its registers named otherwise. -/
import Derived.Test.YtmpeipdeablkdaaGreatDoorVmQ
namespace Go.Proofs.YtmpeipdeablkdaaGreatDoor
open Go.RowKit

namespace Code

attribute [local go_sem ↓] Go.wp_at_zero Go.wp_at_succ

def pay0 : List Nat := [1, 2]
def inp0 : List Nat := [300]
def st0 : B.St := { (B.start pay0 1).set 0 300 with pay := [44, 1] }

theorem works_run : B.run p0 inp0 0 (B.start pay0 1) = ⟨none, st0, 2⟩ := by
 have h0 := B.RunTo.zero p0 inp0 (B.start pay0 1)
 have h1 := h0.step (x := ⟨15, (0 : Nat), (0 : Nat), (0 : Nat), (0 : Nat)⟩) rfl B.exec_15
 have h2 := h1.step (x := ⟨11, (0 : Nat), (0 : Nat), (2 : Nat), (0 : Nat)⟩) rfl B.exec_11
 exact h2.done (by decide)

/-- each statement's first question is answered by yes -/
theorem works14_any (w : World) (h : Tabs w) : Calls Tryz.prog 32 #[] w (BoolOut true w) := by
 have HR := Lib.hid h
 clear h
 go_enter Tryz.func32, Tryz.ntmps32
 go_wp2_with fail
 have hp := progAt_new p0 #[.int .i64 15, .int .i64 0, .int .i64 0, .int .i64 0, .int .u64 0, .int .i64 11, .int .i64 0, .int .i64 0, .int .i64 2, .int .u64 0] 2 24 w rfl rfl
 obtain ⟨w1, hw1⟩ : ∃ w1, w.alloc (.cells #[.int .i64 15, .int .i64 0, .int .i64 0, .int .i64 0, .int .u64 0, .int .i64 11, .int .i64 0, .int .i64 0, .int .i64 2, .int .u64 0] 24) = w1 := ⟨_, rfl⟩
 have hb1 : Below w.heap.size w w1 := by rw [← hw1]; exact (Below.refl _ _).alloc (Nat.le_refl _) _
 have hs1 : w1.heap.size = w.heap.size + 1 := by rw [← hw1]; simp
 rw [hw1] at hp
 rw [hw1]
 have hy := listAt_new (pay0.map u8V) #[.int .u8 1, .int .u8 2] 2 (w.heap.size + 1) 5 w1 rfl rfl hs1.symm
 have hb2 : Below w.heap.size w (w1.alloc (.cells #[.int .u8 1, .int .u8 2] 5)) := hb1.alloc (by omega) _
 have hb2' : Below w1.heap.size w1 (w1.alloc (.cells #[.int .u8 1, .int .u8 2] 5)) := (Below.refl _ _).alloc (Nat.le_refl _) _
 have hu := listAt_new (inp0.map u64V) #[.int .u64 300] 1 (w.heap.size + 1 + 1) 22 (w1.alloc (.cells #[.int .u8 1, .int .u8 2] 5)) rfl rfl (by simp [hs1])
 have hb3' : Below (w1.heap.size + 1) (w1.alloc (.cells #[.int .u8 1, .int .u8 2] 5)) ((w1.alloc (.cells #[.int .u8 1, .int .u8 2] 5)).alloc (.cells #[.int .u64 300] 22)) := (Below.refl _ _).alloc (by simp) _
 obtain ⟨w3, hw3⟩ : ∃ w3, (w1.alloc (.cells #[.int .u8 1, .int .u8 2] 5)).alloc (.cells #[.int .u64 300] 22) = w3 := ⟨_, rfl⟩
 rw [hw3] at hu hb3'
 rw [hw3]
 have HB3 := Lib.hid (show Below w.heap.size w w3 from hb2.trans (hb3'.mono (by omega)))
 have HP := Lib.hid ((hp.below hb2' (Nat.le_refl _)).below hb3' (by simp))
 have HY := Lib.hid (hy.below hb3' (by simp))
 have HU := Lib.hid hu
 have HT := Lib.hid (HR.out.below HB3.out (Nat.le_refl _))
 clear hp hb1 hs1 hy hb2 hb2' hu hb3' hw1 hw3
 refine (run_go_any _ _ _ 2 _ 2 _ 1 _ p0 pay0 inp0 _ HP.out p0_wf HT.out (by omega) ((B.program_ok _ _ _).1 p0_run) HY.out HU.out (by unfold B.Bytes; decide) (by unfold B.Words; decide) works_run rfl).mono ?_
 rintro e w4 ⟨pa, pc, oa, oc, ha, hc, rfl, _, l1, l2, l3, hb4⟩
 have L1 : Hid (ListAt w4 pa 2 (([44, 1] : List Nat).map u8V)) := l1
 have HB4 := Lib.hid (HB3.out.trans (hb4.mono HB3.out.size))
 have hs4 := HB4.out.size
 clear l1 l2 l3 hb4
 have hbA := (Below.refl w4.heap.size w4).alloc (Nat.le_refl _) (.cells #[.bool false, .int .i64 0, .slice pa 2 pc, .slice oa 1 oc, .slice ha 1 hc, .int .i64 2] 52)
 have HBA := Lib.hid (hbA.alloc (by simp) (.cells #[.int .u8 44, .int .u8 1] 5))
 have HL := Lib.hid (listAt_new (([44, 1] : List Nat).map u8V) #[.int .u8 44, .int .u8 1] 2 (w4.heap.size + 1) 5 (w4.alloc (.cells #[.bool false, .int .i64 0, .slice pa 2 pc, .slice oa 1 oc, .slice ha 1 hc, .int .i64 2] 52)) rfl rfl (by simp))
 have HK : Hid (∀ j : Nat, ((w4.alloc (.cells #[.bool false, .int .i64 0, .slice pa 2 pc, .slice oa 1 oc, .slice ha 1 hc, .int .i64 2] 52)).alloc (.cells #[.int .u8 44, .int .u8 1] 5)).cell? ⟨w4.heap.size, j, none⟩ = (#[.bool false, .int .i64 0, .slice pa 2 pc, .slice oa 1 oc, .slice ha 1 hc, .int .i64 2] : Array Value)[j]?) := fun j => two_old _ _ _ _ j
 clear hbA
 go_wp2_with fail
 refine (sameBytes_any pa _ 2 pc 2 2 [44, 1] [44, 1] _ (L1.out.below HBA.out (Nat.le_refl _)) HL.out (by omega)).mono ?_
 rintro e w5 ⟨rfl, hb5⟩
 have hk := fun j : Nat => (hb5.cell (p := ⟨w4.heap.size, j, none⟩) (by simp; omega)).trans (HK.out j)
 have x3 := (hk 3).trans rfl
 have x5 := (hk 5).trans rfl
 have HB5 := Lib.hid (HB4.out.trans ((HBA.out.trans (hb5.mono (by simp; omega))).mono hs4))
 clear hb5 hk
 have e1 : decide (([44, 1] : List Nat) = [44, 1]) = true := by decide
 rw [e1]
 clear e1
 go_wp2_with fail
 go_ret
 exact ⟨rfl, HB5.out⟩

end Code
end Go.Proofs.YtmpeipdeablkdaaGreatDoor

namespace Go.Proofs.YtmpeipdeablkdaaGreatDoor
open Go.RowKit

namespace Code

attribute [local go_sem ↓] Go.wp_at_zero Go.wp_at_succ

def renT (k t r : Int) : Int := (r * t + k) % 16

theorem odd8 {t : Int} (h : ∃ m : Int, 0 ≤ m ∧ m < 8 ∧ t = 2 * m + 1) : t = 1 ∨ t = 3 ∨ t = 5 ∨ t = 7 ∨ t = 9 ∨ t = 11 ∨ t = 13 ∨ t = 15 := by
 obtain ⟨m, h0, h1, rfl⟩ := h
 omega

theorem renT_ok {k t : Int} (_h0 : 0 ≤ k) (_h1 : k < 16) (ht : ∃ m : Int, 0 ≤ m ∧ m < 8 ∧ t = 2 * m + 1) : B.Renames (renT k t) := by
 refine ⟨fun r _ _ => by unfold renT; omega, fun r _ _ => by unfold renT; omega, fun r s _ _ _ _ h => ?_⟩
 unfold renT at h
 rcases odd8 ht with rfl | rfl | rfl | rfl | rfl | rfl | rfl | rfl <;> omega

theorem mul_bd {a t : Int} (a0 : 0 ≤ a) (a1 : a ≤ 63) (t0 : 0 ≤ t) (t1 : t ≤ 15) : 0 ≤ a * t ∧ a * t ≤ 945 :=
 ⟨Int.mul_nonneg a0 t0, Int.le_trans (Int.mul_le_mul a1 t1 t0 (by omega)) (by omega)⟩

/-- an instruction's values -/
def insV' (x : B.Ins) : Value := .agg #[.int .i64 x.op, .int .i64 x.a, .int .i64 x.b, .int .i64 x.n, .int .u64 x.imm]

/-- it is answered with its registers named otherwise -/
def NamedOutT (x : B.Ins) (k t : Int) (w : World) (e : Ending) (w' : World) : Prop := e = .returned (insV' (x.ren (renT k t))) ∧ Below w.heap.size w w'

theorem ret_agg5T {o a b n m o' a' b' n' m' : Int} (h : (⟨o, a, b, n, m⟩ : B.Ins) = ⟨o', a', b', n', m'⟩) : Ending.returned (.agg #[.int .i64 o, .int .i64 a, .int .i64 b, .int .i64 n, .int .u64 m]) = .returned (insV' ⟨o', a', b', n', m'⟩) := by
 cases h; rfl

set_option maxRecDepth 100000 in
set_option maxHeartbeats 3200000 in
theorem named14_any (x : B.Ins) (k t : Int) (hr : x.right = true) (hk0 : 0 ≤ k) (hk1 : k < 16) (ht0 : 0 ≤ t) (ht1 : t ≤ 15) (w : World) :
    Calls Tryz.prog 80 #[.agg #[.int .i64 x.op, .int .i64 x.a, .int .i64 x.b, .int .i64 x.n, .int .u64 x.imm], .int .i64 k, .int .i64 t] w (NamedOutT x k t w) := by
 have hb := B.right_bounds hr
 obtain ⟨o, a, b, n, m⟩ := x
 obtain ⟨⟨o0, o1⟩, ⟨a0, a1⟩, ⟨b0, b1⟩, _⟩ := hb
 simp only at o0 o1 a0 a1 b0 b1
 obtain ⟨ma0, ma1⟩ := mul_bd a0 (by omega) ht0 ht1
 obtain ⟨mb0, mb1⟩ := mul_bd b0 b1 ht0 ht1
 have hwa : IntKind.i64.wrap (a * t) = a * t := IntWalk.i64_in _ (by omega)
 have hwa2 : IntKind.i64.wrap (a * t + k) = a * t + k := IntWalk.i64_in _ (by omega)
 have hta : (a * t + k).tmod 16 = renT k t a := by rw [Int.tmod_eq_emod_of_nonneg (by omega)]; rfl
 have hwa3 : IntKind.i64.wrap (renT k t a) = renT k t a := IntWalk.i64_in _ (by unfold renT; omega)
 have hwb : IntKind.i64.wrap (b * t) = b * t := IntWalk.i64_in _ (by omega)
 have hwb2 : IntKind.i64.wrap (b * t + k) = b * t + k := IntWalk.i64_in _ (by omega)
 have htb : (b * t + k).tmod 16 = renT k t b := by rw [Int.tmod_eq_emod_of_nonneg (by omega)]; rfl
 have hwb3 : IntKind.i64.wrap (renT k t b) = renT k t b := IntWalk.i64_in _ (by unfold renT; omega)
 by_cases h0 : o = 0 ∨ o = 18
 ·have hren : B.Ins.ren (renT k t) ⟨o, a, b, n, m⟩ = ⟨o, a, b, n, m⟩ := by unfold B.Ins.ren; rw [if_pos h0]
  have HREN := Lib.hid hren
  clear hren hr
  rcases h0 with rfl | rfl
  ·go_enter Tryz.func80, Tryz.ntmps80
   go_wp2_with fail
   exact bodyPost_ret (v := .agg #[.int .i64 0, .int .i64 (a), .int .i64 (b), .int .i64 n, .int .u64 m]) (by simp [results, Tryz.results80, go_sem]) rfl ⟨by rw [HREN.out]; rfl, ((Below.refl _ _).alloc (Nat.le_refl _) _).alloc (by simp) _⟩
  ·go_enter Tryz.func80, Tryz.ntmps80
   go_wp2_with fail
   exact bodyPost_ret (v := .agg #[.int .i64 18, .int .i64 (a), .int .i64 (b), .int .i64 n, .int .u64 m]) (by simp [results, Tryz.results80, go_sem]) rfl ⟨by rw [HREN.out]; rfl, ((Below.refl _ _).alloc (Nat.le_refl _) _).alloc (by simp) _⟩
 ·have hren : B.Ins.ren (renT k t) ⟨o, a, b, n, m⟩ = ⟨o, renT k t a, if 2 ≤ o ∧ o ≤ 5 then renT k t b else b, n, m⟩ := by unfold B.Ins.ren; rw [if_neg h0]
  have q0 : (o == 0) = false := by simp; omega
  have q18 : (o == 18) = false := by simp; omega
  have HREN := Lib.hid hren
  clear hren hr
  by_cases h2 : 2 ≤ o ∧ o ≤ 5
  ·rw [if_pos h2] at HREN
   have h25 : o = 2 ∨ o = 3 ∨ o = 4 ∨ o = 5 := by omega
   clear h2 h0
   rcases h25 with rfl | rfl | rfl | rfl
   ·go_enter Tryz.func80, Tryz.ntmps80
    go_wp2_with fail
    exact bodyPost_ret (v := .agg #[.int .i64 2, .int .i64 (renT k t a), .int .i64 (renT k t b), .int .i64 n, .int .u64 m]) (by simp [results, Tryz.results80, go_sem]) rfl ⟨by rw [HREN.out]; rfl, ((Below.refl _ _).alloc (Nat.le_refl _) _).alloc (by simp) _⟩
   ·go_enter Tryz.func80, Tryz.ntmps80
    go_wp2_with fail
    exact bodyPost_ret (v := .agg #[.int .i64 3, .int .i64 (renT k t a), .int .i64 (renT k t b), .int .i64 n, .int .u64 m]) (by simp [results, Tryz.results80, go_sem]) rfl ⟨by rw [HREN.out]; rfl, ((Below.refl _ _).alloc (Nat.le_refl _) _).alloc (by simp) _⟩
   ·go_enter Tryz.func80, Tryz.ntmps80
    go_wp2_with fail
    exact bodyPost_ret (v := .agg #[.int .i64 4, .int .i64 (renT k t a), .int .i64 (renT k t b), .int .i64 n, .int .u64 m]) (by simp [results, Tryz.results80, go_sem]) rfl ⟨by rw [HREN.out]; rfl, ((Below.refl _ _).alloc (Nat.le_refl _) _).alloc (by simp) _⟩
   ·go_enter Tryz.func80, Tryz.ntmps80
    go_wp2_with fail
    exact bodyPost_ret (v := .agg #[.int .i64 5, .int .i64 (renT k t a), .int .i64 (renT k t b), .int .i64 n, .int .u64 m]) (by simp [results, Tryz.results80, go_sem]) rfl ⟨by rw [HREN.out]; rfl, ((Below.refl _ _).alloc (Nat.le_refl _) _).alloc (by simp) _⟩
  ·rw [if_neg h2] at HREN
   have q2 : (o == 2) = false := by simp; omega
   have q3 : (o == 3) = false := by simp; omega
   have q4 : (o == 4) = false := by simp; omega
   have q5 : (o == 5) = false := by simp; omega
   clear h2 h0
   go_enter Tryz.func80, Tryz.ntmps80
   go_wp2_with fail
   exact bodyPost_ret (v := .agg #[.int .i64 o, .int .i64 (renT k t a), .int .i64 (b), .int .i64 n, .int .u64 m]) (by simp [results, Tryz.results80, go_sem]) rfl ⟨by rw [HREN.out]; rfl, ((Below.refl _ _).alloc (Nat.le_refl _) _).alloc (by simp) _⟩

theorem renT_wf {k t : Int} (h0 : 0 ≤ k) (h1 : k < 16) (ht : ∃ m : Int, 0 ≤ m ∧ m < 8 ∧ t = 2 * m + 1) {x : B.Ins} (hr : x.right = true) : (x.ren (renT k t)).Wf := by
 have hb := B.right_bounds (B.ren_right (renT_ok h0 h1 ht) hr)
 refine ⟨⟨?_, ?_⟩, ⟨?_, ?_⟩, ⟨?_, ?_⟩, ⟨?_, ?_⟩, ⟨?_, ?_⟩⟩ <;> omega

end Code
end Go.Proofs.YtmpeipdeablkdaaGreatDoor
