/- busbarlaw16: what stays of a program is told; the chapter's examples. -/
/- busbarlaw16: all programs of at most four instructions out of some. -/
/- busbarlaw16: sizes and slots out of bounds. -/
/- LiveIdle, as a contract: the law of every input, without card. -/
/- LiveSame, as a contract: the law of every input, without card. -/
import Derived.Test.YtmpeipdeablkdaaGreatDoorLivX
import Derived.Test.YtmpeipdeablkdaaGreatDoorMore2
import Derived.Test.YtmpeipdeablkdaaGreatDoorVmQ
import Derived.StillTailTactics
import Derived.Test.YtmpeipdeablkdaaGreatDoorVmP
import Derived.Deep.RegionHeld3
import Derived.Test.YtmpeipdeablkdaaGreatDoorMore
import Derived.Deep.Cut
namespace Go.Proofs.YtmpeipdeablkdaaGreatDoor
open Go.RowKit

namespace Code

attribute [local go_sem ↓] Go.wp_at_zero Go.wp_at_succ

def wfK (x : B.Ins) : Bool := decide (B.In64 x.op) && decide (B.In64 x.a) && decide (B.In64 x.b) && decide (B.In64 x.n) && decide (B.InU64 x.imm)
theorem wf_K {ps : List B.Ins} (h : ps.all wfK = true) : ∀ y ∈ ps, y.Wf := by
 intro y hy
 have := List.all_eq_true.1 h y hy
 simp only [wfK, Bool.and_eq_true, decide_eq_true_eq] at this
 exact ⟨this.1.1.1.1, this.1.1.1.2, this.1.1.2, this.1.2, this.2⟩

theorem progAt_newK (ps : List B.Ins) (C : Array Value) (n : Nat) (t : TypeId) (w : World) {X : Nat} (hX : X = w.heap.size) (hC : C.toList = cellsP ps) (hn : n = ps.length) : ProgAt (w.alloc (.cells C t)) (some ⟨X, 0, none⟩) n ps := by
 subst hX
 exact progAt_new ps C n t w hC hn

/-- an instruction in a block of its own -/
def BoxK (o a b n m : Int) (X : Nat) (w : World) : Prop :=
 w.cell? ⟨X, 0, none⟩ = some (.int .i64 o) ∧ w.cell? ⟨X, 1, none⟩ = some (.int .i64 a) ∧ w.cell? ⟨X, 2, none⟩ = some (.int .i64 b) ∧ w.cell? ⟨X, 3, none⟩ = some (.int .i64 n) ∧ w.cell? ⟨X, 4, none⟩ = some (.int .u64 m)
theorem BoxK.lt {o a b n m : Int} {X : Nat} {w : World} (h : BoxK o a b n m X w) : X < w.heap.size := World.block_lt_of_cell? w _ h.1
theorem BoxK.kept {o a b n m : Int} {X : Nat} {w w' : World} (h : BoxK o a b n m X w) (hb : Below w.heap.size w w') : BoxK o a b n m X w' :=
 ⟨(hb.cell (p := ⟨X, 0, none⟩) h.lt).trans h.1, (hb.cell (p := ⟨X, 1, none⟩) h.lt).trans h.2.1, (hb.cell (p := ⟨X, 2, none⟩) h.lt).trans h.2.2.1, (hb.cell (p := ⟨X, 3, none⟩) h.lt).trans h.2.2.2.1, (hb.cell (p := ⟨X, 4, none⟩) h.lt).trans h.2.2.2.2⟩
theorem boxK_new (o a b n m : Int) (w : World) (t : TypeId) (X : Nat) (hX : X = w.heap.size) : BoxK o a b n m X (w.alloc (.cells #[.int .i64 o, .int .i64 a, .int .i64 b, .int .i64 n, .int .u64 m] t)) := by
 subst hX
 have hb := heap_alloc_new w (.cells #[.int .i64 o, .int .i64 a, .int .i64 b, .int .i64 n, .int .u64 m] t)
 refine ⟨?_, ?_, ?_, ?_, ?_⟩ <;> (rw [cell_of_row _ _ _ _ _ _ hb]; rfl)

def StableK (S : World → Prop) : Prop := ∀ w w', S w → Below w.heap.size w w' → S w'

set_option maxHeartbeats 3200000 in
theorem is_any (a a' : Option Addr) (len cap len' cap' : Nat) (ps qs : List B.Ins) (w : World) (hp : ProgAt w a len ps) (hq : ProgAt w a' len' qs) (hwf : ∀ y ∈ ps, y.Wf) (ht : Tabs w) (hm : B.MayRun ps 2 2) (hd : B.drop ps = qs) :
    Calls Tryz.prog 52 #[.slice a len cap, .slice a' len' cap'] w (BoolOut true w) := by
 have HQ := Lib.hid hq
 have HC := Lib.hid (drop_yes a len cap ps 2 2 w hp hwf ht hm)
 have hlen : (B.drop ps).length ≤ 16384 := by rw [B.drop_length]; have := B.idx_le ps ps.length; have := hm.len; omega
 unfold DropOut at HC
 rw [hd] at HC hlen
 clear hp hq hwf ht hm hd
 go_enter Tryz.func52, Tryz.ntmps52
 go_wp2_with fail
 refine HC.out.mono ?_
 rintro e w1 ⟨ao, cp, rfl, hown, hb1⟩
 have HO := Lib.hid hown
 have HB1 := Lib.hid hb1
 have hs1 := hb1.size
 clear hown hb1 HC
 go_wp2_with fail
 refine (sameInstrs_yes ao a' qs.length cp len' cap' qs w1 HO.out.progAt (HQ.out.below HB1.out (Nat.le_refl _)) (by omega)).mono ?_
 rintro e w2 ⟨rfl, hb2⟩
 have HB2 := Lib.hid (HB1.out.trans (hb2.mono hs1))
 clear hb2
 go_wp2_with fail
 go_ret
 exact ⟨rfl, HB2.out⟩

def KeepOut (S : World → Prop) (w : World) (e : Ending) (w' : World) : Prop := e = .returned (.bool true) ∧ Below w.heap.size w w' ∧ S w'

theorem is_old (S : World → Prop) (hS : StableK S) (ps qs : List B.Ins) {a a' : Option Addr} {len cap len' cap' : Nat} {w : World} (hT : Tabs w) (h3 : S w) (hp : ProgAt w a len ps) (hq : ProgAt w a' len' qs) (hwf : ps.all wfK = true) (hm : B.program ps 2 2 = (0, none)) (hd : B.drop ps = qs) :
    Calls Tryz.prog 52 #[.slice a len cap, .slice a' len' cap'] w (KeepOut S w) := by
 refine (is_any a a' len cap len' cap' ps qs w hp hq (wf_K hwf) hT ((B.program_ok _ _ _).1 hm) hd).mono ?_
 rintro e w' ⟨rfl, hb⟩
 exact ⟨rfl, hb, hS _ _ h3 hb⟩

theorem is_new (S : World → Prop) (hS : StableK S) (ps qs : List B.Ins) {a' : Option Addr} {len' cap' : Nat} {w : World} {C : Array Value} {n X : Nat} (hX : X = w.heap.size) (hT : Tabs w) (h3 : S w) (hC : C.toList = cellsP ps) (hn : n = ps.length) (hq : ProgAt w a' len' qs) (hwf : ps.all wfK = true) (hm : B.program ps 2 2 = (0, none)) (hd : B.drop ps = qs) :
    Calls Tryz.prog 52 #[.slice (some ⟨X, 0, none⟩) n n, .slice a' len' cap'] (w.alloc (.cells C 24)) (KeepOut S w) := by
 have hb : Below w.heap.size w (w.alloc (.cells C 24)) := (Below.refl _ _).alloc (Nat.le_refl _) _
 refine (is_old S hS ps qs (hT.below hb (Nat.le_refl _)) (hS _ _ h3 hb) (progAt_newK ps C n _ w hX hC hn) (hq.below hb (Nat.le_refl _)) hwf hm hd).mono ?_
 rintro e w' ⟨rfl, hb2, h4⟩
 exact ⟨rfl, hb.trans (hb2.mono (by simp)), h4⟩

theorem is_newR (S : World → Prop) (hS : StableK S) (ps qs : List B.Ins) {a : Option Addr} {len cap : Nat} {w : World} {C : Array Value} {n X : Nat} (hX : X = w.heap.size) (hT : Tabs w) (h3 : S w) (hp : ProgAt w a len ps) (hC : C.toList = cellsP qs) (hn : n = qs.length) (hwf : ps.all wfK = true) (hm : B.program ps 2 2 = (0, none)) (hd : B.drop ps = qs) :
    Calls Tryz.prog 52 #[.slice a len cap, .slice (some ⟨X, 0, none⟩) n n] (w.alloc (.cells C 24)) (KeepOut S w) := by
 have hb : Below w.heap.size w (w.alloc (.cells C 24)) := (Below.refl _ _).alloc (Nat.le_refl _) _
 refine (is_old S hS ps qs (hT.below hb (Nat.le_refl _)) (hS _ _ h3 hb) (hp.below hb (Nat.le_refl _)) (progAt_newK qs C n _ w hX hC hn) hwf hm hd).mono ?_
 rintro e w' ⟨rfl, hb2, h4⟩
 exact ⟨rfl, hb.trans (hb2.mono (by simp)), h4⟩

/-- and a program in a block of its own -/
def SaidB (S : World → Prop) (Y : Nat) (ps : List B.Ins) (w : World) : Prop := S w ∧ ProgAt w (some ⟨Y, 0, none⟩) ps.length ps
theorem saidB_stable {S : World → Prop} (hS : StableK S) (Y : Nat) (ps : List B.Ins) : StableK (SaidB S Y ps) := fun _ _ h hb => ⟨hS _ _ h.1 hb, h.2.below hb (Nat.le_refl _)⟩

def lTwo : List B.Ins := [⟨15, 0, 0, 0, 0⟩, ⟨16, 0, 0, 0, 0⟩]
def lAll : List B.Ins := [⟨15, 0, 0, 0, 0⟩, ⟨19, 0, 0, 1, 5⟩, ⟨1, 0, 0, 0, 7⟩, ⟨16, 0, 0, 0, 0⟩]

/-- the examples' instructions -/
def SaidS (X : Nat) (w : World) : Prop := BoxK 15 0 0 0 0 X w ∧ BoxK 16 0 0 0 0 (X + 1) w ∧ ProgAt w (some ⟨X + 1 + 1, 0, none⟩) 2 lTwo ∧ BoxK 19 0 0 1 5 (X + 1 + 1 + 1) w
theorem saidS_stable (X : Nat) : StableK (SaidS X) := fun _ _ h hb => ⟨h.1.kept hb, h.2.1.kept hb, h.2.2.1.below hb (Nat.le_refl _), h.2.2.2.kept hb⟩
def SaidA (X Y : Nat) (w : World) : Prop := SaidS X w ∧ ProgAt w (some ⟨Y, 0, none⟩) 4 lAll
theorem saidA_stable (X Y : Nat) : StableK (SaidA X Y) := fun _ _ h hb => ⟨saidS_stable X _ _ h.1 hb, h.2.below hb (Nat.le_refl _)⟩

theorem lTwo_eq : lTwo = [⟨15, 0, 0, 0, 0⟩, ⟨16, 0, 0, 0, 0⟩] := rfl

set_option maxRecDepth 100000 in
set_option maxHeartbeats 12800000 in
theorem knownSaid16_any (w : World) (hT : Tabs w) : Calls Tryz.prog 21 #[] w (BoolOut true w) := by
 have HT := Lib.hid hT
 clear hT
 obtain ⟨w0, hw0⟩ : ∃ w0, (((w.alloc (.cells #[.int .i64 15, .int .i64 0, .int .i64 0, .int .i64 0, .int .u64 0] 24)).alloc (.cells #[.int .i64 16, .int .i64 0, .int .i64 0, .int .i64 0, .int .u64 0] 24)).alloc (.cells #[.int .i64 15, .int .i64 0, .int .i64 0, .int .i64 0, .int .u64 0, .int .i64 16, .int .i64 0, .int .i64 0, .int .i64 0, .int .u64 0] 24)).alloc (.cells #[.int .i64 19, .int .i64 0, .int .i64 0, .int .i64 1, .int .u64 5] 24) = w0 := ⟨_, rfl⟩
 have HB0 : Hid (Below w.heap.size w w0) := by rw [← hw0]; exact Lib.hid (((((Below.refl w.heap.size w).alloc (Nat.le_refl _) _).alloc (by simp) _).alloc (by simp; omega) _).alloc (by simp; omega) _)
 have HS0 : Hid (SaidS w.heap.size w0) := by
  rw [← hw0]
  have k : ∀ (v : World) (o : Obj), Below v.heap.size v (v.alloc o) := fun v o => (Below.refl _ _).alloc (Nat.le_refl _) _
  exact Lib.hid ⟨(((boxK_new 15 0 0 0 0 w _ _ rfl).kept (k _ _)).kept (k _ _)).kept (k _ _), ((boxK_new 16 0 0 0 0 _ _ _ (by simp)).kept (k _ _)).kept (k _ _), (progAt_newK lTwo _ 2 _ _ (by simp) rfl rfl).below (k _ _) (Nat.le_refl _), boxK_new 19 0 0 1 5 _ _ _ (by simp)⟩
 go_enter Tryz.func21, Tryz.ntmps21
 go_wp2_with fail
 try rw [hw0]
 clear hw0
 refine (is_old (SaidS w.heap.size) (saidS_stable w.heap.size) [] [] (HT.out.below HB0.out (Nat.le_refl _)) HS0.out (progAt_nil _) (progAt_nil _) (by decide +kernel) (by decide +kernel) (by decide +kernel)).mono ?_
 rintro e w1 ⟨rfl, hb, hs⟩
 have HB1 := Lib.hid (HB0.out.trans (hb.mono HB0.out.size))
 have HS1 := Lib.hid hs
 clear hb hs
 obtain ⟨⟨x0, x1, x2, x3, x4⟩, ⟨y0, y1, y2, y3, y4⟩, ptwo, ⟨z0, z1, z2, z3, z4⟩⟩ := HS1.out
 have HPT := Lib.hid ptwo
 clear ptwo
 go_wp2_with fail
 refine (is_new (SaidS w.heap.size) (saidS_stable w.heap.size) [⟨0, 0, 0, 0, 0⟩] [] (by rfl) (HT.out.below HB1.out (Nat.le_refl _)) HS1.out (by rfl) rfl (progAt_nil _) (by decide +kernel) (by decide +kernel) (by decide +kernel)).mono ?_
 rintro e w2 ⟨rfl, hb, hs⟩
 have HB2 := Lib.hid (HB1.out.trans (hb.mono HB1.out.size))
 have HS2 := Lib.hid hs
 clear hb hs
 clear x0 x1 x2 x3 x4 y0 y1 y2 y3 y4 z0 z1 z2 z3 z4 HPT
 obtain ⟨⟨x0, x1, x2, x3, x4⟩, ⟨y0, y1, y2, y3, y4⟩, ptwo, ⟨z0, z1, z2, z3, z4⟩⟩ := HS2.out
 have HPT := Lib.hid ptwo
 clear ptwo
 go_wp2_with fail
 refine (is_new (SaidS w.heap.size) (saidS_stable w.heap.size) [⟨18, 0, 0, 0, 0⟩] [] (by rfl) (HT.out.below HB2.out (Nat.le_refl _)) HS2.out (by rfl) rfl (progAt_nil _) (by decide +kernel) (by decide +kernel) (by decide +kernel)).mono ?_
 rintro e w3 ⟨rfl, hb, hs⟩
 have HB3 := Lib.hid (HB2.out.trans (hb.mono HB2.out.size))
 have HS3 := Lib.hid hs
 clear hb hs
 clear x0 x1 x2 x3 x4 y0 y1 y2 y3 y4 z0 z1 z2 z3 z4 HPT
 obtain ⟨⟨x0, x1, x2, x3, x4⟩, ⟨y0, y1, y2, y3, y4⟩, ptwo, ⟨z0, z1, z2, z3, z4⟩⟩ := HS3.out
 have HPT := Lib.hid ptwo
 clear ptwo
 go_wp2_with fail
 refine (is_new (SaidS w.heap.size) (saidS_stable w.heap.size) [⟨1, 1, 0, 0, 5⟩] [] (by rfl) (HT.out.below HB3.out (Nat.le_refl _)) HS3.out (by rfl) rfl (progAt_nil _) (by decide +kernel) (by decide +kernel) (by decide +kernel)).mono ?_
 rintro e w4 ⟨rfl, hb, hs⟩
 have HB4 := Lib.hid (HB3.out.trans (hb.mono HB3.out.size))
 have HS4 := Lib.hid hs
 clear hb hs
 clear x0 x1 x2 x3 x4 y0 y1 y2 y3 y4 z0 z1 z2 z3 z4 HPT
 obtain ⟨⟨x0, x1, x2, x3, x4⟩, ⟨y0, y1, y2, y3, y4⟩, ptwo, ⟨z0, z1, z2, z3, z4⟩⟩ := HS4.out
 have HPT := Lib.hid ptwo
 clear ptwo
 go_wp2_with fail
 refine (is_new (SaidS w.heap.size) (saidS_stable w.heap.size) [⟨15, 0, 0, 0, 0⟩, ⟨2, 1, 0, 0, 0⟩, ⟨6, 1, 0, 3, 0⟩, ⟨5, 1, 1, 0, 0⟩, ⟨16, 0, 0, 0, 0⟩] lTwo (by rfl) (HT.out.below HB4.out (Nat.le_refl _)) HS4.out (by rfl) rfl HPT.out (by decide +kernel) (by decide +kernel) (by decide +kernel)).mono ?_
 rintro e w5 ⟨rfl, hb, hs⟩
 have HB5 := Lib.hid (HB4.out.trans (hb.mono HB4.out.size))
 have HS5 := Lib.hid hs
 clear hb hs
 clear x0 x1 x2 x3 x4 y0 y1 y2 y3 y4 z0 z1 z2 z3 z4 HPT
 obtain ⟨⟨x0, x1, x2, x3, x4⟩, ⟨y0, y1, y2, y3, y4⟩, ptwo, ⟨z0, z1, z2, z3, z4⟩⟩ := HS5.out
 have HPT := Lib.hid ptwo
 clear ptwo
 obtain ⟨wa, hwa⟩ : ∃ wa, w5.alloc (.cells #[.int .i64 15, .int .i64 0, .int .i64 0, .int .i64 0, .int .u64 0, .int .i64 15, .int .i64 0, .int .i64 1, .int .i64 0, .int .u64 0, .int .i64 16, .int .i64 0, .int .i64 0, .int .i64 0, .int .u64 0] 24) = wa := ⟨_, rfl⟩
 have hba : Below w5.heap.size w5 wa := by rw [← hwa]; exact (Below.refl _ _).alloc (Nat.le_refl _) _
 obtain ⟨Y6, hY⟩ : ∃ Y, w5.heap.size = Y := ⟨_, rfl⟩
 have HSa : Hid (SaidB (SaidS w.heap.size) Y6 [⟨15, 0, 0, 0, 0⟩, ⟨15, 0, 1, 0, 0⟩, ⟨16, 0, 0, 0, 0⟩] wa) := Lib.hid ⟨saidS_stable w.heap.size _ _ HS5.out hba, by rw [← hwa]; exact progAt_newK [⟨15, 0, 0, 0, 0⟩, ⟨15, 0, 1, 0, 0⟩, ⟨16, 0, 0, 0, 0⟩] _ 3 _ _ hY.symm rfl rfl⟩
 have HBa := Lib.hid (HB5.out.trans (hba.mono HB5.out.size))
 obtain ⟨⟨a0, a1, a2, a3, a4⟩, ⟨b0, b1, b2, b3, b4⟩, ptwa, ⟨c0, c1, c2, c3, c4⟩⟩ := HSa.out.1
 clear ptwa
 rw [← hwa] at a0 a1 a2 a3 a4 b0 b1 b2 b3 b4 c0 c1 c2 c3 c4
 have HQa : Hid (Y6 + 1 = wa.heap.size) := Lib.hid (by rw [← hwa, ← hY]; simp)
 have HWa := Lib.hid hwa
 have HYa := Lib.hid hY
 clear hwa hba hY
 go_wp2_with fail
 rw [HWa.out]
 try rw [HYa.out]
 clear HWa HYa a0 a1 a2 a3 a4 b0 b1 b2 b3 b4 c0 c1 c2 c3 c4
 refine (is_newR (SaidB (SaidS w.heap.size) Y6 [⟨15, 0, 0, 0, 0⟩, ⟨15, 0, 1, 0, 0⟩, ⟨16, 0, 0, 0, 0⟩]) (saidB_stable (saidS_stable w.heap.size) Y6 [⟨15, 0, 0, 0, 0⟩, ⟨15, 0, 1, 0, 0⟩, ⟨16, 0, 0, 0, 0⟩]) [⟨15, 0, 0, 0, 0⟩, ⟨15, 0, 1, 0, 0⟩, ⟨16, 0, 0, 0, 0⟩] [⟨15, 0, 1, 0, 0⟩, ⟨16, 0, 0, 0, 0⟩] HQa.out (HT.out.below HBa.out (Nat.le_refl _)) HSa.out HSa.out.2 (by rfl) rfl (by decide +kernel) (by decide +kernel) (by decide +kernel)).mono ?_
 rintro e w6 ⟨rfl, hb, hs⟩
 have HB6 := Lib.hid (HBa.out.trans (hb.mono HBa.out.size))
 have HS6 := Lib.hid hs.1
 clear hb hs HSa HBa HQa
 clear x0 x1 x2 x3 x4 y0 y1 y2 y3 y4 z0 z1 z2 z3 z4 HPT
 obtain ⟨⟨x0, x1, x2, x3, x4⟩, ⟨y0, y1, y2, y3, y4⟩, ptwo, ⟨z0, z1, z2, z3, z4⟩⟩ := HS6.out
 have HPT := Lib.hid ptwo
 clear ptwo
 go_wp2_with fail
 obtain ⟨wa, hwa⟩ : ∃ wa, w6.alloc (.cells #[.int .i64 15, .int .i64 0, .int .i64 0, .int .i64 0, .int .u64 0, .int .i64 19, .int .i64 0, .int .i64 0, .int .i64 1, .int .u64 5, .int .i64 1, .int .i64 0, .int .i64 0, .int .i64 0, .int .u64 7, .int .i64 16, .int .i64 0, .int .i64 0, .int .i64 0, .int .u64 0] 24) = wa := ⟨_, rfl⟩
 have hba : Below w6.heap.size w6 wa := by rw [← hwa]; exact (Below.refl _ _).alloc (Nat.le_refl _) _
 obtain ⟨Y, hY⟩ : ∃ Y, w6.heap.size = Y := ⟨_, rfl⟩
 have HSa : Hid (SaidA w.heap.size Y wa) := Lib.hid ⟨saidS_stable w.heap.size _ _ HS6.out hba, by rw [← hwa]; exact progAt_newK lAll _ 4 _ _ hY.symm rfl rfl⟩
 have HBa := Lib.hid (HB6.out.trans (hba.mono HB6.out.size))
 try rw [hwa]
 try rw [hY]
 clear hwa hba hY
 clear x0 x1 x2 x3 x4 y0 y1 y2 y3 y4 z0 z1 z2 z3 z4 HPT
 have HSx := HSa
 refine (is_old (SaidA w.heap.size Y) (saidA_stable w.heap.size Y) lAll lAll (HT.out.below HBa.out (Nat.le_refl _)) HSa.out HSa.out.2 HSa.out.2 (by decide +kernel) (by decide +kernel) (by decide +kernel)).mono ?_
 rintro e w7 ⟨rfl, hb, hs⟩
 have HB7 := Lib.hid (HBa.out.trans (hb.mono HBa.out.size))
 have HS7 := Lib.hid hs
 clear hb hs HSx HSa
 obtain ⟨⟨x0, x1, x2, x3, x4⟩, ⟨y0, y1, y2, y3, y4⟩, ptwo, ⟨z0, z1, z2, z3, z4⟩⟩ := HS7.out.1
 have HPT := Lib.hid ptwo
 clear ptwo
 go_wp2_with fail
 refine (is_new (SaidA w.heap.size Y) (saidA_stable w.heap.size Y) [⟨15, 0, 0, 0, 0⟩, ⟨19, 0, 0, 1, 5⟩, ⟨1, 1, 0, 0, 7⟩, ⟨16, 0, 0, 0, 0⟩] lTwo (by rfl) (HT.out.below HB7.out (Nat.le_refl _)) HS7.out (by rfl) rfl HPT.out (by decide +kernel) (by decide +kernel) (by decide +kernel)).mono ?_
 rintro e w8 ⟨rfl, hb, hs⟩
 have HB8 := Lib.hid (HB7.out.trans (hb.mono HB7.out.size))
 have HS8 := Lib.hid hs
 clear hb hs
 clear x0 x1 x2 x3 x4 y0 y1 y2 y3 y4 z0 z1 z2 z3 z4 HPT
 obtain ⟨⟨x0, x1, x2, x3, x4⟩, ⟨y0, y1, y2, y3, y4⟩, ptwo, ⟨z0, z1, z2, z3, z4⟩⟩ := HS8.out.1
 have HPT := Lib.hid ptwo
 clear ptwo
 go_wp2_with fail
 refine (is_new (SaidA w.heap.size Y) (saidA_stable w.heap.size Y) [⟨15, 0, 0, 0, 0⟩, ⟨18, 0, 0, 2, 0⟩, ⟨1, 0, 0, 0, 1⟩, ⟨16, 0, 1, 0, 0⟩, ⟨16, 0, 0, 0, 0⟩] lTwo (by rfl) (HT.out.below HB8.out (Nat.le_refl _)) HS8.out (by rfl) rfl HPT.out (by decide +kernel) (by decide +kernel) (by decide +kernel)).mono ?_
 rintro e w9 ⟨rfl, hb, hs⟩
 have HB9 := Lib.hid (HB8.out.trans (hb.mono HB8.out.size))
 have HS9 := Lib.hid hs
 clear hb hs
 clear x0 x1 x2 x3 x4 y0 y1 y2 y3 y4 z0 z1 z2 z3 z4 HPT
 obtain ⟨⟨x0, x1, x2, x3, x4⟩, ⟨y0, y1, y2, y3, y4⟩, ptwo, ⟨z0, z1, z2, z3, z4⟩⟩ := HS9.out.1
 have HPT := Lib.hid ptwo
 clear ptwo
 go_wp2_with fail
 refine (is_new (SaidA w.heap.size Y) (saidA_stable w.heap.size Y) [⟨15, 0, 0, 0, 0⟩, ⟨16, 0, 0, 0, 0⟩, ⟨0, 0, 0, 0, 0⟩, ⟨16, 0, 1, 0, 0⟩] lTwo (by rfl) (HT.out.below HB9.out (Nat.le_refl _)) HS9.out (by rfl) rfl HPT.out (by decide +kernel) (by decide +kernel) (by decide +kernel)).mono ?_
 rintro e w10 ⟨rfl, hb, hs⟩
 have HB10 := Lib.hid (HB9.out.trans (hb.mono HB9.out.size))
 have HS10 := Lib.hid hs
 clear hb hs
 clear x0 x1 x2 x3 x4 y0 y1 y2 y3 y4 z0 z1 z2 z3 z4 HPT
 obtain ⟨⟨x0, x1, x2, x3, x4⟩, ⟨y0, y1, y2, y3, y4⟩, ptwo, ⟨z0, z1, z2, z3, z4⟩⟩ := HS10.out.1
 have HPT := Lib.hid ptwo
 clear ptwo
 go_wp2_with fail
 refine (works16_any w10 (HT.out.below HB10.out (Nat.le_refl _))).mono ?_
 rintro e w11 ⟨rfl, hb⟩
 have HB11 := Lib.hid (HB10.out.trans (hb.mono HB10.out.size))
 have HS11 := Lib.hid (saidA_stable w.heap.size Y _ _ HS10.out hb)
 clear x0 x1 x2 x3 x4 y0 y1 y2 y3 y4 z0 z1 z2 z3 z4 HPT
 clear hb
 obtain ⟨⟨x0, x1, x2, x3, x4⟩, ⟨y0, y1, y2, y3, y4⟩, ptwo, ⟨z0, z1, z2, z3, z4⟩⟩ := HS11.out.1
 have HPT := Lib.hid ptwo
 clear ptwo
 obtain ⟨wa, hwa⟩ : ∃ wa, w11.alloc (.cells #[.int .i64 15, .int .i64 0, .int .i64 0, .int .i64 0, .int .u64 0, .int .i64 19, .int .i64 0, .int .i64 0, .int .i64 2, .int .u64 5, .int .i64 1, .int .i64 1, .int .i64 0, .int .i64 0, .int .u64 1, .int .i64 0, .int .i64 0, .int .i64 0, .int .i64 0, .int .u64 0, .int .i64 16, .int .i64 0, .int .i64 0, .int .i64 0, .int .u64 0] 24) = wa := ⟨_, rfl⟩
 have hba : Below w11.heap.size w11 wa := by rw [← hwa]; exact (Below.refl _ _).alloc (Nat.le_refl _) _
 obtain ⟨Y12, hY⟩ : ∃ Y, w11.heap.size = Y := ⟨_, rfl⟩
 have HSa : Hid (SaidB (SaidA w.heap.size Y) Y12 [⟨15, 0, 0, 0, 0⟩, ⟨19, 0, 0, 2, 5⟩, ⟨1, 1, 0, 0, 1⟩, ⟨0, 0, 0, 0, 0⟩, ⟨16, 0, 0, 0, 0⟩] wa) := Lib.hid ⟨saidA_stable w.heap.size Y _ _ HS11.out hba, by rw [← hwa]; exact progAt_newK [⟨15, 0, 0, 0, 0⟩, ⟨19, 0, 0, 2, 5⟩, ⟨1, 1, 0, 0, 1⟩, ⟨0, 0, 0, 0, 0⟩, ⟨16, 0, 0, 0, 0⟩] _ 5 _ _ hY.symm rfl rfl⟩
 have HBa := Lib.hid (HB11.out.trans (hba.mono HB11.out.size))
 obtain ⟨⟨a0, a1, a2, a3, a4⟩, ⟨b0, b1, b2, b3, b4⟩, ptwa, ⟨c0, c1, c2, c3, c4⟩⟩ := HSa.out.1.1
 clear ptwa
 rw [← hwa] at a0 a1 a2 a3 a4 b0 b1 b2 b3 b4 c0 c1 c2 c3 c4
 have HQa : Hid (Y12 + 1 = wa.heap.size) := Lib.hid (by rw [← hwa, ← hY]; simp)
 have HWa := Lib.hid hwa
 have HYa := Lib.hid hY
 clear hwa hba hY
 go_wp2_with fail
 rw [HWa.out]
 try rw [HYa.out]
 clear HWa HYa a0 a1 a2 a3 a4 b0 b1 b2 b3 b4 c0 c1 c2 c3 c4
 refine (is_newR (SaidB (SaidA w.heap.size Y) Y12 [⟨15, 0, 0, 0, 0⟩, ⟨19, 0, 0, 2, 5⟩, ⟨1, 1, 0, 0, 1⟩, ⟨0, 0, 0, 0, 0⟩, ⟨16, 0, 0, 0, 0⟩]) (saidB_stable (saidA_stable w.heap.size Y) Y12 [⟨15, 0, 0, 0, 0⟩, ⟨19, 0, 0, 2, 5⟩, ⟨1, 1, 0, 0, 1⟩, ⟨0, 0, 0, 0, 0⟩, ⟨16, 0, 0, 0, 0⟩]) [⟨15, 0, 0, 0, 0⟩, ⟨19, 0, 0, 2, 5⟩, ⟨1, 1, 0, 0, 1⟩, ⟨0, 0, 0, 0, 0⟩, ⟨16, 0, 0, 0, 0⟩] [⟨15, 0, 0, 0, 0⟩, ⟨19, 0, 0, 1, 5⟩, ⟨0, 0, 0, 0, 0⟩, ⟨16, 0, 0, 0, 0⟩] HQa.out (HT.out.below HBa.out (Nat.le_refl _)) HSa.out HSa.out.2 (by rfl) rfl (by decide +kernel) (by decide +kernel) (by decide +kernel)).mono ?_
 rintro e w12 ⟨rfl, hb, hs⟩
 have HB12 := Lib.hid (HBa.out.trans (hb.mono HBa.out.size))
 have HS12 := Lib.hid hs.1
 clear hb hs HSa HBa HQa
 clear x0 x1 x2 x3 x4 y0 y1 y2 y3 y4 z0 z1 z2 z3 z4 HPT
 obtain ⟨⟨x0, x1, x2, x3, x4⟩, ⟨y0, y1, y2, y3, y4⟩, ptwo, ⟨z0, z1, z2, z3, z4⟩⟩ := HS12.out.1
 have HPT := Lib.hid ptwo
 clear ptwo
 go_wp2_with fail
 go_ret
 exact ⟨rfl, HB12.out⟩

end Code
end Go.Proofs.YtmpeipdeablkdaaGreatDoor

namespace Go.Proofs.YtmpeipdeablkdaaGreatDoor
open Go.RowKit

namespace Code

attribute [local go_sem ↓] Go.wp_at_zero Go.wp_at_succ

/-- an instruction's cells -/
def arrI (x : B.Ins) : Array Value := #[.int .i64 x.op, .int .i64 x.a, .int .i64 x.b, .int .i64 x.n, .int .u64 x.imm]
theorem insK {w : World} {b off : Nat} {x : B.Ins} (h : InsAt w b off x) : w.rangeAt b off (arrI x).toList := by
 intro j v hv
 match j, hv with
 | 0, hv => cases hv; exact h.c0
 | 1, hv => cases hv; exact h.c1
 | 2, hv => cases hv; exact h.c2
 | 3, hv => cases hv; exact h.c3
 | 4, hv => cases hv; exact h.c4

theorem still_midK {op : Oper} {a : Act} {w : World} {K : Act → Prop} (ty : TypeId) (x : Operand) (ho : op.op = .load ty x) (b o : Nat) (hx : a.eval x = .pointer (some ⟨b, o, none⟩)) (cs : Array Value) (d : TypeDesc) (hc : w.rangeAt b o cs.toList)
    (hu : Tryz.prog.underlying ty = some d) (hd : d.isRow = true) (hi : (Tryz.prog.info? ty).map (·.size) = some cs.toList.length) (h : K (a.put op.dst (.agg cs))) : op.still Tryz.prog a w K := by
 unfold Oper.still
 have e : (execOp a.eval op).run Tryz.prog w = .ok (.value (.agg cs)) w := by
  unfold execOp
  simp only [ho, hx, Instr.loadAt, Instr.sureAddr, Sem.run_bind, Sem.run_pure, Result.andThen_ok, run_loadVar_mid w b o ty cs.toList d hc hu hd hi]
 rw [e, Oper.stillUpon_value]
 exact h

def lK : List B.Ins := [⟨0, 0, 0, 0, 0⟩, ⟨2, 1, 0, 0, 0⟩, ⟨5, 0, 1, 0, 0⟩, ⟨16, 0, 0, 0, 0⟩, ⟨18, 0, 0, 1, 0⟩, ⟨19, 0, 0, 2, 5⟩, ⟨17, 0, 0, 3, 0⟩]
theorem lK_wf : ∀ y ∈ lK, y.Wf := wf_K (by decide +kernel)

theorem progAt_takeK {w : World} {a : Option Addr} {len n : Nat} {ps : List B.Ins} (h : ProgAt w a len ps) (hn : n ≤ len) : ProgAt w a n (ps.take n) := by
 refine ⟨by rw [List.length_take, ← h.len]; omega, fun i x hx => ?_⟩
 rw [List.getElem?_take] at hx
 split at hx
 ·exact h.at_ i x hx
 ·cases hx

def DropsLaw : Prop := ∀ (a0 : Option Addr) (len0 cap0 : Nat) (ps0 : List B.Ins) (n1 : Int) (n2 : Int) (w : World), ProgAt w a0 len0 ps0 → (∀ y ∈ ps0, y.Wf) → len0 * 40 ≤ 140737488351232 → (a0 = none → cap0 = 0) → Ready w → B.In64 n1 → B.In64 n2 → Calls Tryz.prog 54 #[.slice a0 len0 cap0, .int .i64 n1, .int .i64 n2] w (BoolOut true w)
def IdleLaw : Prop := ∀ (a0 : Option Addr) (len0 cap0 : Nat) (ps0 : List B.Ins) (n1 : Int) (n2 : Int) (w : World), ProgAt w a0 len0 ps0 → (∀ y ∈ ps0, y.Wf) → len0 * 40 ≤ 140737488351232 → (a0 = none → cap0 = 0) → Tabs w → B.In64 n1 → B.In64 n2 → Calls Tryz.prog 56 #[.slice a0 len0 cap0, .int .i64 n1, .int .i64 n2] w (BoolOut true w)
def SameLaw : Prop := ∀ (a0 : Option Addr) (len0 cap0 : Nat) (ps0 : List B.Ins) (pa1 : Option Addr) (pn1 pc1 : Nat) (pay1 : List Nat) (ia2 : Option Addr) (im2 ic2 : Nat) (inp2 : List Nat) (w : World), ProgAt w a0 len0 ps0 → (∀ y ∈ ps0, y.Wf) → len0 * 40 ≤ 140737488351232 → (a0 = none → cap0 = 0) → ListAt w pa1 pn1 (pay1.map u8V) → B.Bytes pay1 → (pa1 = none → pc1 = 0) → pn1 ≤ 9223372036854775807 → ListAt w ia2 im2 (inp2.map u64V) → B.Words inp2 → (ia2 = none → ic2 = 0) → im2 ≤ 9223372036854775807 → Tabs w → Calls Tryz.prog 55 #[.slice a0 len0 cap0, .slice pa1 pn1 pc1, .slice ia2 im2 ic2] w (BoolOut true w)

/-- what one round of the loops asks -/
theorem drops_new (hD : DropsLaw) (ps : List B.Ins) {w : World} {a : Option Addr} {n c : Nat} (hp : ProgAt w a n ps) (hwf : ∀ y ∈ ps, y.Wf) (hn : n ≤ 6) (ha : a ≠ none) (hR : Ready w) :
    Calls Tryz.prog 54 #[.slice a n c, .int .i64 2, .int .i64 2] w (BoolOut true w) :=
 hD a n c ps 2 2 w hp hwf (by omega) (fun h => absurd h ha) hR (by decide) (by decide)

theorem wf_six {a b c d : B.Ins} (ha : a.Wf) (hb : b.Wf) (hc : c.Wf) (hd : d.Wf) : ∀ y ∈ ([⟨15, 0, 0, 0, 0⟩, a, b, c, d, ⟨16, 0, 1, 0, 0⟩] : List B.Ins), y.Wf := by
 intro y hy
 simp only [List.mem_cons, List.not_mem_nil, or_false] at hy
 rcases hy with rfl | rfl | rfl | rfl | rfl | rfl
 ·exact wf_K (ps := [⟨15, 0, 0, 0, 0⟩]) (by decide) _ (by simp)
 ·exact ha
 ·exact hb
 ·exact hc
 ·exact hd
 ·exact wf_K (ps := [⟨16, 0, 1, 0, 0⟩]) (by decide) _ (by simp)

set_option maxRecDepth 100000 in
set_option maxHeartbeats 12800000 in
theorem knownAll16_any (hD : DropsLaw) (hI : IdleLaw) (hS : SameLaw) (w : World) (hR : Ready w) : Calls Tryz.prog 22 #[] w (BoolOut true w) := by
 have HR := Lib.hid hR
 have HD := Lib.hid hD
 have HI := Lib.hid hI
 have HS := Lib.hid hS
 clear hR hD hI hS
 obtain ⟨w0, hw0⟩ : ∃ w0, (w.alloc (.cells #[.int .i64 0, .int .i64 0, .int .i64 0, .int .i64 0, .int .u64 0, .int .i64 2, .int .i64 1, .int .i64 0, .int .i64 0, .int .u64 0, .int .i64 5, .int .i64 0, .int .i64 1, .int .i64 0, .int .u64 0, .int .i64 16, .int .i64 0, .int .i64 0, .int .i64 0, .int .u64 0, .int .i64 18, .int .i64 0, .int .i64 0, .int .i64 1, .int .u64 0, .int .i64 19, .int .i64 0, .int .i64 0, .int .i64 2, .int .u64 5, .int .i64 17, .int .i64 0, .int .i64 0, .int .i64 3, .int .u64 0] 24)).alloc (.cells #[.int .u8 5, .int .u8 6] 5) = w0 := ⟨_, rfl⟩
 have k : ∀ (v : World) (o : Obj), Below v.heap.size v (v.alloc o) := fun v o => (Below.refl _ _).alloc (Nat.le_refl _) _
 have HB0 : Hid (Below w.heap.size w w0) := Lib.hid (by rw [← hw0]; exact (k _ _).trans ((k _ _).mono (by simp)))
 have HL0 : Hid (ProgAt w0 (some ⟨w.heap.size, 0, none⟩) 7 lK) := Lib.hid (by rw [← hw0]; exact (progAt_newK lK _ 7 _ _ rfl rfl rfl).below (k _ _) (Nat.le_refl _))
 have HY0 : Hid (ListAt w0 (some ⟨w.heap.size + 1, 0, none⟩) 2 (([5, 6] : List Nat).map u8V)) := Lib.hid (by rw [← hw0]; exact listAt_new _ _ 2 _ _ _ rfl rfl (by simp))
 have hs0 : w.heap.size < w0.heap.size := by rw [← hw0]; simp; omega
 clear k
 go_enter Tryz.func22, Tryz.ntmps22
 go_wp2_with fail
 try rw [hw0]
 clear hw0
 go_loopw [3] (fun i wr => ∃ a : Nat, a ≤ 7 ∧ i = .int .i64 a ∧ Below w0.heap.size w0 wr) (fun i _ => 7 - (intOf i).toNat)
 case atStart => exact ⟨0, by omega, rfl, Below.refl _ _⟩
 case round =>
  obtain ⟨a, ha, rfl, hba⟩ := hrel
  have HBa := Lib.hid hba
  clear hba
  by_cases hlta : a < 7
  ·have ia0 : (0 : Int) ≤ (a : Int) := by omega
   have ia1 : (a : Int) < 7 := by omega
   go_wp2_with fail
   go_loopw [4] (fun i wr => ∃ b : Nat, b ≤ 7 ∧ i = .int .i64 b ∧ Below w0.heap.size w0 wr) (fun i _ => 7 - (intOf i).toNat)
   case atStart => exact ⟨0, by omega, rfl, HBa.out⟩
   case round =>
    obtain ⟨b, hb, rfl, hbb⟩ := hrel
    have HBb := Lib.hid hbb
    clear hbb
    by_cases hltb : b < 7
    ·have ib0 : (0 : Int) ≤ (b : Int) := by omega
     have ib1 : (b : Int) < 7 := by omega
     go_wp2_with fail
     go_loopw [5] (fun i wr => ∃ c : Nat, c ≤ 7 ∧ i = .int .i64 c ∧ Below w0.heap.size w0 wr) (fun i _ => 7 - (intOf i).toNat)
     case atStart => exact ⟨0, by omega, rfl, HBb.out⟩
     case round =>
      obtain ⟨c, hc, rfl, hbc⟩ := hrel
      have HBc := Lib.hid hbc
      clear hbc
      by_cases hltc : c < 7
      ·have ic0 : (0 : Int) ≤ (c : Int) := by omega
       have ic1 : (c : Int) < 7 := by omega
       go_wp2_with fail
       go_loopw [6] (fun i wr => ∃ d : Nat, d ≤ 7 ∧ i = .int .i64 d ∧ Below w0.heap.size w0 wr) (fun i _ => 7 - (intOf i).toNat)
       case atStart => exact ⟨0, by omega, rfl, HBc.out⟩
       case round =>
        obtain ⟨d, hd, rfl, hbd⟩ := hrel
        have HBd := Lib.hid hbd
        clear hbd
        by_cases hltd : d < 7
        ·have X0 : ∀ (k : Nat), k < 7 → ∃ y : B.Ins, lK[k]? = some y ∧ y.Wf := fun k hk => ⟨lK[k]'(by simpa [lK] using hk), List.getElem?_eq_getElem _, lK_wf _ (List.getElem_mem _)⟩
         obtain ⟨ya, hya, hwa⟩ := X0 a hlta
         obtain ⟨ba, oa, hea, hbla, hata⟩ := HL0.out.at_ a ya hya
         simp only [Option.some.injEq, Addr.mk.injEq] at hea
         obtain ⟨rfl, rfl, _⟩ := hea
         have HRa : Hid (wr.rangeAt w.heap.size (a * 5) (arrI ya).toList) := Lib.hid (by have := insK (hata.below HBd.out hbla); rwa [Nat.zero_add] at this)
         clear hata hbla hya
         obtain ⟨yb, hyb, hwb⟩ := X0 b hltb
         obtain ⟨bb, ob, heb, hblb, hatb⟩ := HL0.out.at_ b yb hyb
         simp only [Option.some.injEq, Addr.mk.injEq] at heb
         obtain ⟨rfl, rfl, _⟩ := heb
         have HRb : Hid (wr.rangeAt w.heap.size (b * 5) (arrI yb).toList) := Lib.hid (by have := insK (hatb.below HBd.out hblb); rwa [Nat.zero_add] at this)
         clear hatb hblb hyb
         obtain ⟨yc, hyc, hwc⟩ := X0 c hltc
         obtain ⟨bc, oc, hec, hblc, hatc⟩ := HL0.out.at_ c yc hyc
         simp only [Option.some.injEq, Addr.mk.injEq] at hec
         obtain ⟨rfl, rfl, _⟩ := hec
         have HRc : Hid (wr.rangeAt w.heap.size (c * 5) (arrI yc).toList) := Lib.hid (by have := insK (hatc.below HBd.out hblc); rwa [Nat.zero_add] at this)
         clear hatc hblc hyc
         obtain ⟨yd, hyd, hwd⟩ := X0 d hltd
         obtain ⟨bd, od, hed, hbld, hatd⟩ := HL0.out.at_ d yd hyd
         simp only [Option.some.injEq, Addr.mk.injEq] at hed
         obtain ⟨rfl, rfl, _⟩ := hed
         have HRd : Hid (wr.rangeAt w.heap.size (d * 5) (arrI yd).toList) := Lib.hid (by have := insK (hatd.below HBd.out hbld); rwa [Nat.zero_add] at this)
         clear hatd hbld hyd
         have id0 : (0 : Int) ≤ (d : Int) := by omega
         have id1 : (d : Int) < 7 := by omega
         have HWF := Lib.hid (wf_six hwa hwb hwc hwd)
         clear X0 hwa hwb hwc hwd
         go_wp2_with fail
         refine wp_region_still_tail 18 (by kernel_rfl) (by kernel_rfl) ?_
         simp only [List.take_succ_cons, List.take_zero, List.drop_succ_cons, List.drop_zero]
         still_step
         still_step
         still_step
         still_step
         refine wpStill_step (fun K hK => ?_)
         rw [if_pos (by rfl)]
         refine still_midK 24 _ rfl w.heap.size (a * 5) rfl _ _ HRa.out Tryz.underlying24 rfl (by kernel_rfl) ?_
         refine hK _ ?_
         clear hK K
         still_step
         still_step
         still_step
         refine wpStill_step (fun K hK => ?_)
         rw [if_pos (by rfl)]
         refine still_midK 24 _ rfl w.heap.size (b * 5) rfl _ _ HRb.out Tryz.underlying24 rfl (by kernel_rfl) ?_
         refine hK _ ?_
         clear hK K
         still_step
         still_step
         still_step
         refine wpStill_step (fun K hK => ?_)
         rw [if_pos (by rfl)]
         refine still_midK 24 _ rfl w.heap.size (c * 5) rfl _ _ HRc.out Tryz.underlying24 rfl (by kernel_rfl) ?_
         refine hK _ ?_
         clear hK K
         still_step
         still_step
         still_step
         refine wpStill_step (fun K hK => ?_)
         rw [if_pos (by rfl)]
         refine still_midK 24 _ rfl w.heap.size (d * 5) rfl _ _ HRd.out Tryz.underlying24 rfl (by kernel_rfl) ?_
         refine hK _ ?_
         clear hK K
         still_step
         refine wpStill_nil ?_
         change wpList _ _ _ _ _ wr.drew
         unfold arrI
         go_wp2_with fail
         obtain ⟨w1, hw1⟩ : ∃ w1, (wr.alloc (.cells #[.int .i64 15, .int .i64 0, .int .i64 0, .int .i64 0, .int .u64 0, .int .i64 ya.op, .int .i64 ya.a, .int .i64 ya.b, .int .i64 ya.n, .int .u64 ya.imm, .int .i64 yb.op, .int .i64 yb.a, .int .i64 yb.b, .int .i64 yb.n, .int .u64 yb.imm, .int .i64 yc.op, .int .i64 yc.a, .int .i64 yc.b, .int .i64 yc.n, .int .u64 yc.imm, .int .i64 yd.op, .int .i64 yd.a, .int .i64 yd.b, .int .i64 yd.n, .int .u64 yd.imm, .int .i64 16, .int .i64 0, .int .i64 1, .int .i64 0, .int .u64 0] 24)).drew = w1 := ⟨_, rfl⟩
         rw [hw1]
         have HB1 : Hid (Below w0.heap.size w0 w1) := Lib.hid (by rw [← hw1]; exact (HBd.out.alloc HBd.out.size _).drew)
         have HP1 : Hid (ProgAt w1 (some ⟨wr.heap.size, 0, none⟩) 6 [⟨15, 0, 0, 0, 0⟩, ya, yb, yc, yd, ⟨16, 0, 1, 0, 0⟩]) := Lib.hid (by rw [← hw1]; exact (progAt_newK [⟨15, 0, 0, 0, 0⟩, ya, yb, yc, yd, ⟨16, 0, 1, 0, 0⟩] _ 6 _ wr rfl rfl rfl).below ((Below.refl _ _).drew) (Nat.le_refl _))
         generalize wr.heap.size = Y at HP1 ⊢
         clear hw1 HRa HRb HRc HRd
         refine (drops_new HD.out _ (progAt_takeK HP1.out (show 5 ≤ 6 by omega)) (fun y hy => HWF.out y (List.mem_of_mem_take hy)) (by omega) (by simp) (HR.out.below (HB0.out.trans (HB1.out.mono (by omega))) (Nat.le_refl _))).mono ?_
         rintro e w2 ⟨rfl, hb2⟩
         have HB2 := Lib.hid (HB1.out.trans (hb2.mono HB1.out.size))
         have HP2 : Hid (ProgAt w2 (some ⟨Y, 0, none⟩) 6 [⟨15, 0, 0, 0, 0⟩, ya, yb, yc, yd, ⟨16, 0, 1, 0, 0⟩]) := Lib.hid (HP1.out.below hb2 (Nat.le_refl _))
         clear hb2 HB1 HP1
         have s1 : IntKind.i64.wrap ((a : Int) + (b : Int)) = (a : Int) + (b : Int) := IntWalk.i64_in _ (by omega)
         have s2 : IntKind.i64.wrap ((a : Int) + (b : Int) + (c : Int)) = (a : Int) + (b : Int) + (c : Int) := IntWalk.i64_in _ (by omega)
         have s3 : IntKind.i64.wrap ((a : Int) + (b : Int) + (c : Int) + (d : Int)) = (a : Int) + (b : Int) + (c : Int) + (d : Int) := IntWalk.i64_in _ (by omega)
         go_wp2_with fail
         ·refine (drops_new HD.out _ HP2.out HWF.out (by omega) (by simp) (HR.out.below (HB0.out.trans (HB2.out.mono (by omega))) (Nat.le_refl _))).mono ?_
          rintro e w3 ⟨rfl, hb3⟩
          have HB3 := Lib.hid (HB2.out.trans (hb3.mono HB2.out.size))
          have HP3 : Hid (ProgAt w3 (some ⟨Y, 0, none⟩) 6 [⟨15, 0, 0, 0, 0⟩, ya, yb, yc, yd, ⟨16, 0, 1, 0, 0⟩]) := Lib.hid (HP2.out.below hb3 (Nat.le_refl _))
          clear hb3 HB2 HP2
          go_wp2_with fail
          have hb4 : Below w3.heap.size w3 (w3.alloc (.cells #[.int .u64 5, .int .u64 0] 22)) := (Below.refl _ _).alloc (Nat.le_refl _) _
          have HB4 := Lib.hid (HB3.out.trans (hb4.mono HB3.out.size))
          refine (HS.out (some ⟨Y, 0, none⟩) 6 6 [⟨15, 0, 0, 0, 0⟩, ya, yb, yc, yd, ⟨16, 0, 1, 0, 0⟩] (some ⟨w.heap.size + 1, 0, none⟩) 2 2 [5, 6] (some ⟨w3.heap.size, 0, none⟩) 2 2 [5, 0] _ (HP3.out.below hb4 (Nat.le_refl _)) HWF.out (by omega) (fun h => by cases h) (HY0.out.below HB4.out (Nat.le_refl _)) (by unfold B.Bytes; decide) (fun h => by cases h) (by omega) (listAt_new _ _ 2 _ _ w3 rfl rfl rfl) (by unfold B.Words; decide) (fun h => by cases h) (by omega) (HR.out.below (HB0.out.trans (HB4.out.mono (by omega))) (Nat.le_refl _)).tabs).mono ?_
          rintro e w5 ⟨rfl, hb5⟩
          have HB5 := Lib.hid (HB4.out.trans (hb5.mono HB4.out.size))
          have HP5 : Hid (ProgAt w5 (some ⟨Y, 0, none⟩) 6 [⟨15, 0, 0, 0, 0⟩, ya, yb, yc, yd, ⟨16, 0, 1, 0, 0⟩]) := Lib.hid ((HP3.out.below hb4 (Nat.le_refl _)).below hb5 (Nat.le_refl _))
          clear hb4 hb5 HB3 HP3 HB4
          go_wp2_with fail
          refine (HI.out (some ⟨Y, 0, none⟩) 6 6 [⟨15, 0, 0, 0, 0⟩, ya, yb, yc, yd, ⟨16, 0, 1, 0, 0⟩] 2 2 _ HP5.out HWF.out (by omega) (fun h => by cases h) (HR.out.below (HB0.out.trans (HB5.out.mono (by omega))) (Nat.le_refl _)).tabs (by decide) (by decide)).mono ?_
          rintro e w6 ⟨rfl, hb6⟩
          have HB6 := Lib.hid (HB5.out.trans (hb6.mono HB5.out.size))
          clear hb6 HB5 HP5
          go_wp2_with fail
          go_roundw
          case rel => exact ⟨d + 1, by omega, by go_num, HB6.out⟩
          case measure => simp [intOf]; omega
         ·go_roundw
          case rel => exact ⟨d + 1, by omega, by go_num, HB2.out⟩
          case measure => simp [intOf]; omega
        ·obtain rfl : d = 7 := by omega
         go_wp2_with fail
         go_roundw
         case rel => exact ⟨c + 1, by omega, by go_num, HBd.out⟩
         case measure => simp [intOf]; omega
      ·obtain rfl : c = 7 := by omega
       go_wp2_with fail
       go_roundw
       case rel => exact ⟨b + 1, by omega, by go_num, HBc.out⟩
       case measure => simp [intOf]; omega
    ·obtain rfl : b = 7 := by omega
     go_wp2_with fail
     go_roundw
     case rel => exact ⟨a + 1, by omega, by go_num, HBb.out⟩
     case measure => simp [intOf]; omega
  ·obtain rfl : a = 7 := by omega
   go_wp2_with fail
   go_ret
   exact ⟨rfl, HB0.out.trans (HBa.out.mono (by omega))⟩

end Code
end Go.Proofs.YtmpeipdeablkdaaGreatDoor

namespace Go.Proofs.YtmpeipdeablkdaaGreatDoor
open Go.RowKit

namespace Code

attribute [local go_sem ↓] Go.wp_at_zero Go.wp_at_succ

def szK : List Int := [-1, 0, 1, 8, 9]
def slK : List Int := [-1, 0, 1, 64, 65]
theorem szK_in : ∀ y ∈ szK, B.In64 y := by unfold szK; decide
theorem slK_in : ∀ y ∈ slK, B.In64 y := by unfold slK; decide
theorem wf_store : ∀ y ∈ ([⟨11, 0, 0, 2, 0⟩] : List B.Ins), y.Wf := wf_K (by decide)
theorem wf_20 : ∀ y ∈ ([⟨20, 0, 0, 0, 0⟩] : List B.Ins), y.Wf := wf_K (by decide)

set_option maxRecDepth 100000 in
set_option maxHeartbeats 12800000 in
theorem knownWrong16_any (hD : DropsLaw) (w : World) (hR : Ready w) : Calls Tryz.prog 23 #[] w (BoolOut true w) := by
 have HR := Lib.hid hR
 have HD := Lib.hid hD
 clear hR hD
 obtain ⟨w0, hw0⟩ : ∃ w0, ((w.alloc (.cells #[.int .i64 (-1), .int .i64 0, .int .i64 1, .int .i64 8, .int .i64 9] 3)).alloc (.cells #[.int .i64 (-1), .int .i64 0, .int .i64 1, .int .i64 64, .int .i64 65] 3)).alloc (.cells #[.int .i64 11, .int .i64 0, .int .i64 0, .int .i64 2, .int .u64 0] 24) = w0 := ⟨_, rfl⟩
 have k : ∀ (v : World) (o : Obj), Below v.heap.size v (v.alloc o) := fun v o => (Below.refl _ _).alloc (Nat.le_refl _) _
 have HB0 : Hid (Below w.heap.size w w0) := Lib.hid (by rw [← hw0]; exact ((k _ _).trans ((k _ _).mono (by simp))).trans ((k _ _).mono (by simp; omega)))
 have HX0 : Hid (ListAt w0 (some ⟨w.heap.size, 0, none⟩) 5 (szK.map (Value.int .i64))) := Lib.hid (by rw [← hw0]; exact ((listAt_new _ _ 5 _ _ w rfl rfl rfl).below (k _ _) (Nat.le_refl _)).below (k _ _) (Nat.le_refl _))
 have HY0 : Hid (ListAt w0 (some ⟨w.heap.size + 1, 0, none⟩) 5 (slK.map (Value.int .i64))) := Lib.hid (by rw [← hw0]; exact (listAt_new _ _ 5 _ _ _ rfl rfl (by simp)).below (k _ _) (Nat.le_refl _))
 have HP0 : Hid (ProgAt w0 (some ⟨w.heap.size + 1 + 1, 0, none⟩) 1 [⟨11, 0, 0, 2, 0⟩]) := Lib.hid (by rw [← hw0]; exact progAt_newK _ _ 1 _ _ (by simp) rfl rfl)
 have hs0 : w.heap.size + 2 < w0.heap.size := by rw [← hw0]; simp
 clear k
 go_enter Tryz.func23, Tryz.ntmps23
 go_wp2_with fail
 try rw [hw0]
 clear hw0
 go_loopw [4] (fun i wr => ∃ a : Nat, a ≤ 5 ∧ i = .int .i64 a ∧ Below w0.heap.size w0 wr) (fun i _ => 5 - (intOf i).toNat)
 case atStart => exact ⟨0, by omega, rfl, Below.refl _ _⟩
 case round =>
  obtain ⟨a, ha, rfl, hba⟩ := hrel
  have HBa := Lib.hid hba
  clear hba
  by_cases hlta : a < 5
  ·have ia0 : (0 : Int) ≤ (a : Int) := by omega
   have ia1 : (a : Int) < 5 := by omega
   go_wp2_with fail
   go_loopw [5] (fun i wr => ∃ b : Nat, b ≤ 5 ∧ i = .int .i64 b ∧ Below w0.heap.size w0 wr) (fun i _ => 5 - (intOf i).toNat)
   case atStart => exact ⟨0, by omega, rfl, HBa.out⟩
   case round =>
    obtain ⟨b, hb, rfl, hbb⟩ := hrel
    have HBb := Lib.hid hbb
    clear hbb
    by_cases hltb : b < 5
    ·have ib0 : (0 : Int) ≤ (b : Int) := by omega
     have ib1 : (b : Int) < 5 := by omega
     have hsa : szK[a]? = some (szK[a]'(by simpa [szK] using hlta)) := List.getElem?_eq_getElem _
     generalize szK[a]'(by simpa [szK] using hlta) = s at hsa
     have hsb : slK[b]? = some (slK[b]'(by simpa [slK] using hltb)) := List.getElem?_eq_getElem _
     generalize slK[b]'(by simpa [slK] using hltb) = t at hsb
     have HSI := Lib.hid (szK_in s (List.mem_of_getElem? hsa))
     have HTI := Lib.hid (slK_in t (List.mem_of_getElem? hsb))
     have HC : Hid (w0.cell? ⟨w.heap.size, a, none⟩ = some (.int .i64 s)) := Lib.hid (by have := HX0.out.news a (.int .i64 s) (by rw [List.getElem?_map, hsa]; rfl); cases a <;> simpa [Addr.add] using this)
     have HE : Hid (w0.cell? ⟨w.heap.size + 1, b, none⟩ = some (.int .i64 t)) := Lib.hid (by have := HY0.out.news b (.int .i64 t) (by rw [List.getElem?_map, hsb]; rfl); cases b <;> simpa [Addr.add] using this)
     clear hsa hsb
     go_wp2_with fail
     refine wp_region_held_drew (S := Below w0.heap.size w0) (by kernel_rfl) HBb.out.drew (fun hS1 => ?_)
     refine take_slot (i := 0) (d := 22) (v := .slice (some ⟨w.heap.size + 1 + 1, 0, none⟩) 1 1) rfl rfl (by kernel_rfl) (by kernel_rfl) (by kernel_rfl) (fun _ _ _ h => h) (Or.inl ⟨by rfl, fun w' _ => by go_simp⟩) hS1 ?_
     simp only [Act.put, List.setIfInBounds_toArray, List.set_cons_zero, List.set_cons_succ]
     refine take_slot (i := 1) (d := 23) (v := .slice (some ⟨w.heap.size, 0, none⟩) 5 5) rfl rfl (by kernel_rfl) (by kernel_rfl) (by kernel_rfl) (fun _ _ _ h => h) (Or.inl ⟨by rfl, fun w' _ => by go_simp⟩) hS1 ?_
     simp only [Act.put, List.setIfInBounds_toArray, List.set_cons_zero, List.set_cons_succ]
     refine take_slot (i := 2) (d := 24) (v := .int .i64 (a : Int)) rfl rfl (by kernel_rfl) (by kernel_rfl) (by kernel_rfl) (fun _ _ _ h => h) (Or.inl ⟨by rfl, fun w' _ => by go_simp⟩) hS1 ?_
     simp only [Act.put, List.setIfInBounds_toArray, List.set_cons_zero, List.set_cons_succ]
     refine take_slot (i := 3) (d := 25) (v := .pointer (some ⟨w.heap.size, a, none⟩)) rfl rfl (by kernel_rfl) (by kernel_rfl) (by kernel_rfl) (fun _ _ _ h => h) (Or.inl ⟨by rfl, fun w' _ => by go_simp⟩) hS1 ?_
     simp only [Act.put, List.setIfInBounds_toArray, List.set_cons_zero, List.set_cons_succ]
     refine take_slot (i := 4) (d := 26) (v := .int .i64 s) rfl rfl (by kernel_rfl) (by kernel_rfl) (by kernel_rfl) (fun _ _ _ h => h) (Or.inl ⟨by rfl, fun w' h => by have e := (h.cell (p := ⟨w.heap.size, a, none⟩) (by show w.heap.size < _; omega)).trans HC.out; go_simp⟩) hS1 ?_
     simp only [Act.put, List.setIfInBounds_toArray, List.set_cons_zero, List.set_cons_succ]
     refine take_slot (i := 5) (d := 27) (v := .slice (some ⟨w.heap.size + 1, 0, none⟩) 5 5) rfl rfl (by kernel_rfl) (by kernel_rfl) (by kernel_rfl) (fun _ _ _ h => h) (Or.inl ⟨by rfl, fun w' _ => by go_simp⟩) hS1 ?_
     simp only [Act.put, List.setIfInBounds_toArray, List.set_cons_zero, List.set_cons_succ]
     refine take_slot (i := 6) (d := 28) (v := .int .i64 (b : Int)) rfl rfl (by kernel_rfl) (by kernel_rfl) (by kernel_rfl) (fun _ _ _ h => h) (Or.inl ⟨by rfl, fun w' _ => by go_simp⟩) hS1 ?_
     simp only [Act.put, List.setIfInBounds_toArray, List.set_cons_zero, List.set_cons_succ]
     refine take_slot (i := 7) (d := 29) (v := .pointer (some ⟨w.heap.size + 1, b, none⟩)) rfl rfl (by kernel_rfl) (by kernel_rfl) (by kernel_rfl) (fun _ _ _ h => h) (Or.inl ⟨by rfl, fun w' _ => by go_simp⟩) hS1 ?_
     simp only [Act.put, List.setIfInBounds_toArray, List.set_cons_zero, List.set_cons_succ]
     refine take_slot (i := 8) (d := 30) (v := .int .i64 t) rfl rfl (by kernel_rfl) (by kernel_rfl) (by kernel_rfl) (fun _ _ _ h => h) (Or.inl ⟨by rfl, fun w' h => by have e := (h.cell (p := ⟨w.heap.size + 1, b, none⟩) (by show w.heap.size + 1 < _; omega)).trans HE.out; go_simp⟩) hS1 ?_
     simp only [Act.put, List.setIfInBounds_toArray, List.set_cons_zero, List.set_cons_succ]
     refine wpAnyH_ready (rs := [9]) (by kernel_rfl) (by simp) ?_
     refine AllReadyH.cons rfl (fun K hK => ?_) AllReadyH.nil
     go_simp
     refine (HD.out (some ⟨w.heap.size + 1 + 1, 0, none⟩) 1 1 [⟨11, 0, 0, 2, 0⟩] s t _ (HP0.out.below hS1 (Nat.le_refl _)) wf_store (by omega) (fun h => by first | rfl | cases h) (HR.out.below (HB0.out.trans (hS1.mono (by omega))) (Nat.le_refl _)) HSI.out HTI.out).mono ?_
     rintro e w1 ⟨rfl, hbw1⟩
     refine hK.out _ _ (hS1.trans (hbw1.mono hS1.size)) (fun hS2 => ?_)
     clear hK K
     refine take_slot (i := 10) (d := 32) (v := .bool false) rfl rfl (by kernel_rfl) (by kernel_rfl) (by kernel_rfl) (fun _ _ _ h => h) (Or.inl ⟨by rfl, fun w' _ => by go_simp⟩) hS2 ?_
     simp only [Act.put, List.setIfInBounds_toArray, List.set_cons_zero, List.set_cons_succ]
     refine take_slot (i := 11) (d := 33) (v := .bool false) rfl rfl (by kernel_rfl) (by kernel_rfl) (by kernel_rfl) (fun _ _ _ h => h) (Or.inl ⟨by rfl, fun w' _ => by go_simp⟩) hS2 ?_
     simp only [Act.put, List.setIfInBounds_toArray, List.set_cons_zero, List.set_cons_succ]
     refine take_slot (i := 12) (d := 34) (v := .slice (some ⟨w.heap.size, 0, none⟩) 5 5) rfl rfl (by kernel_rfl) (by kernel_rfl) (by kernel_rfl) (fun _ _ _ h => h) (Or.inl ⟨by rfl, fun w' _ => by go_simp⟩) hS2 ?_
     simp only [Act.put, List.setIfInBounds_toArray, List.set_cons_zero, List.set_cons_succ]
     refine take_slot (i := 13) (d := 35) (v := .int .i64 (a : Int)) rfl rfl (by kernel_rfl) (by kernel_rfl) (by kernel_rfl) (fun _ _ _ h => h) (Or.inl ⟨by rfl, fun w' _ => by go_simp⟩) hS2 ?_
     simp only [Act.put, List.setIfInBounds_toArray, List.set_cons_zero, List.set_cons_succ]
     refine take_slot (i := 14) (d := 36) (v := .pointer (some ⟨w.heap.size, a, none⟩)) rfl rfl (by kernel_rfl) (by kernel_rfl) (by kernel_rfl) (fun _ _ _ h => h) (Or.inl ⟨by rfl, fun w' _ => by go_simp⟩) hS2 ?_
     simp only [Act.put, List.setIfInBounds_toArray, List.set_cons_zero, List.set_cons_succ]
     refine take_slot (i := 15) (d := 37) (v := .int .i64 s) rfl rfl (by kernel_rfl) (by kernel_rfl) (by kernel_rfl) (fun _ _ _ h => h) (Or.inl ⟨by rfl, fun w' h => by have e := (h.cell (p := ⟨w.heap.size, a, none⟩) (by show w.heap.size < _; omega)).trans HC.out; go_simp⟩) hS2 ?_
     simp only [Act.put, List.setIfInBounds_toArray, List.set_cons_zero, List.set_cons_succ]
     refine take_slot (i := 16) (d := 38) (v := .slice (some ⟨w.heap.size + 1, 0, none⟩) 5 5) rfl rfl (by kernel_rfl) (by kernel_rfl) (by kernel_rfl) (fun _ _ _ h => h) (Or.inl ⟨by rfl, fun w' _ => by go_simp⟩) hS2 ?_
     simp only [Act.put, List.setIfInBounds_toArray, List.set_cons_zero, List.set_cons_succ]
     refine take_slot (i := 17) (d := 39) (v := .int .i64 (b : Int)) rfl rfl (by kernel_rfl) (by kernel_rfl) (by kernel_rfl) (fun _ _ _ h => h) (Or.inl ⟨by rfl, fun w' _ => by go_simp⟩) hS2 ?_
     simp only [Act.put, List.setIfInBounds_toArray, List.set_cons_zero, List.set_cons_succ]
     refine take_slot (i := 18) (d := 40) (v := .pointer (some ⟨w.heap.size + 1, b, none⟩)) rfl rfl (by kernel_rfl) (by kernel_rfl) (by kernel_rfl) (fun _ _ _ h => h) (Or.inl ⟨by rfl, fun w' _ => by go_simp⟩) hS2 ?_
     simp only [Act.put, List.setIfInBounds_toArray, List.set_cons_zero, List.set_cons_succ]
     refine take_slot (i := 19) (d := 41) (v := .int .i64 t) rfl rfl (by kernel_rfl) (by kernel_rfl) (by kernel_rfl) (fun _ _ _ h => h) (Or.inl ⟨by rfl, fun w' h => by have e := (h.cell (p := ⟨w.heap.size + 1, b, none⟩) (by show w.heap.size + 1 < _; omega)).trans HE.out; go_simp⟩) hS2 ?_
     simp only [Act.put, List.setIfInBounds_toArray, List.set_cons_zero, List.set_cons_succ]
     refine wpAnyH_ready (rs := [20]) (by kernel_rfl) (by simp) ?_
     refine AllReadyH.cons rfl (fun K hK => ?_) AllReadyH.nil
     go_simp
     refine (HD.out none 0 0 [] s t _ (progAt_nil _) (fun y hy => by cases hy) (by omega) (fun h => by first | rfl | cases h) (HR.out.below (HB0.out.trans (hS2.mono (by omega))) (Nat.le_refl _)) HSI.out HTI.out).mono ?_
     rintro e w2 ⟨rfl, hbw2⟩
     refine hK.out _ _ (hS2.trans (hbw2.mono hS2.size)) (fun hS3 => ?_)
     clear hK K
     refine take_slot (i := 21) (d := 43) (v := .bool false) rfl rfl (by kernel_rfl) (by kernel_rfl) (by kernel_rfl) (fun _ _ _ h => h) (Or.inl ⟨by rfl, fun w' _ => by go_simp⟩) hS3 ?_
     simp only [Act.put, List.setIfInBounds_toArray, List.set_cons_zero, List.set_cons_succ]
     refine take_slot (i := 22) (d := 44) (v := .bool false) rfl rfl (by kernel_rfl) (by kernel_rfl) (by kernel_rfl) (fun _ _ _ h => h) (Or.inl ⟨by rfl, fun w' _ => by go_simp⟩) hS3 ?_
     simp only [Act.put, List.setIfInBounds_toArray, List.set_cons_zero, List.set_cons_succ]
     refine take_slot (i := 23) (d := 45) (v := .bool false) rfl rfl (by kernel_rfl) (by kernel_rfl) (by kernel_rfl) (fun _ _ _ h => h) (Or.inl ⟨by rfl, fun w' _ => by go_simp⟩) hS3 ?_
     simp only [Act.put, List.setIfInBounds_toArray, List.set_cons_zero, List.set_cons_succ]
     refine take_slot (i := 24) (d := 46) (v := .agg #[.int .i64 20, .int .i64 0, .int .i64 0, .int .i64 0, .int .u64 0]) rfl rfl (by kernel_rfl) (by kernel_rfl) (by kernel_rfl) (fun _ _ _ h => h) (Or.inl ⟨by rfl, fun w' _ => by go_simp⟩) hS3 ?_
     simp only [Act.put, List.setIfInBounds_toArray, List.set_cons_zero, List.set_cons_succ]
     refine take_slot (i := 26) (d := 48) (v := .slice (some ⟨w.heap.size, 0, none⟩) 5 5) rfl rfl (by kernel_rfl) (by kernel_rfl) (by kernel_rfl) (fun _ _ _ h => h) (Or.inl ⟨by rfl, fun w' _ => by go_simp⟩) hS3 ?_
     simp only [Act.put, List.setIfInBounds_toArray, List.set_cons_zero, List.set_cons_succ]
     refine take_slot (i := 27) (d := 49) (v := .int .i64 (a : Int)) rfl rfl (by kernel_rfl) (by kernel_rfl) (by kernel_rfl) (fun _ _ _ h => h) (Or.inl ⟨by rfl, fun w' _ => by go_simp⟩) hS3 ?_
     simp only [Act.put, List.setIfInBounds_toArray, List.set_cons_zero, List.set_cons_succ]
     refine take_slot (i := 28) (d := 50) (v := .pointer (some ⟨w.heap.size, a, none⟩)) rfl rfl (by kernel_rfl) (by kernel_rfl) (by kernel_rfl) (fun _ _ _ h => h) (Or.inl ⟨by rfl, fun w' _ => by go_simp⟩) hS3 ?_
     simp only [Act.put, List.setIfInBounds_toArray, List.set_cons_zero, List.set_cons_succ]
     refine take_slot (i := 29) (d := 51) (v := .int .i64 s) rfl rfl (by kernel_rfl) (by kernel_rfl) (by kernel_rfl) (fun _ _ _ h => h) (Or.inl ⟨by rfl, fun w' h => by have e := (h.cell (p := ⟨w.heap.size, a, none⟩) (by show w.heap.size < _; omega)).trans HC.out; go_simp⟩) hS3 ?_
     simp only [Act.put, List.setIfInBounds_toArray, List.set_cons_zero, List.set_cons_succ]
     refine take_slot (i := 30) (d := 52) (v := .slice (some ⟨w.heap.size + 1, 0, none⟩) 5 5) rfl rfl (by kernel_rfl) (by kernel_rfl) (by kernel_rfl) (fun _ _ _ h => h) (Or.inl ⟨by rfl, fun w' _ => by go_simp⟩) hS3 ?_
     simp only [Act.put, List.setIfInBounds_toArray, List.set_cons_zero, List.set_cons_succ]
     refine take_slot (i := 31) (d := 53) (v := .int .i64 (b : Int)) rfl rfl (by kernel_rfl) (by kernel_rfl) (by kernel_rfl) (fun _ _ _ h => h) (Or.inl ⟨by rfl, fun w' _ => by go_simp⟩) hS3 ?_
     simp only [Act.put, List.setIfInBounds_toArray, List.set_cons_zero, List.set_cons_succ]
     refine take_slot (i := 32) (d := 54) (v := .pointer (some ⟨w.heap.size + 1, b, none⟩)) rfl rfl (by kernel_rfl) (by kernel_rfl) (by kernel_rfl) (fun _ _ _ h => h) (Or.inl ⟨by rfl, fun w' _ => by go_simp⟩) hS3 ?_
     simp only [Act.put, List.setIfInBounds_toArray, List.set_cons_zero, List.set_cons_succ]
     refine take_slot (i := 33) (d := 55) (v := .int .i64 t) rfl rfl (by kernel_rfl) (by kernel_rfl) (by kernel_rfl) (fun _ _ _ h => h) (Or.inl ⟨by rfl, fun w' h => by have e := (h.cell (p := ⟨w.heap.size + 1, b, none⟩) (by show w.heap.size + 1 < _; omega)).trans HE.out; go_simp⟩) hS3 ?_
     simp only [Act.put, List.setIfInBounds_toArray, List.set_cons_zero, List.set_cons_succ]
     refine wpAnyH_ready (rs := [25]) (by kernel_rfl) (by simp) ?_
     refine AllReadyH.cons rfl (fun K hK => ?_) AllReadyH.nil
     go_simp
     refine hK.out _ _ (hS3.alloc hS3.size _) (fun hS4 => ?_)
     clear hK K
     refine wpAnyH_ready (rs := [34]) (by kernel_rfl) (by simp) ?_
     refine AllReadyH.cons rfl (fun K hK => ?_) AllReadyH.nil
     go_simp
     refine (HD.out (some ⟨w2.heap.size, 0, none⟩) 1 1 [⟨20, 0, 0, 0, 0⟩] s t _ (progAt_newK [⟨20, 0, 0, 0, 0⟩] _ 1 _ w2 rfl rfl rfl) wf_20 (by omega) (fun h => by first | rfl | cases h) (HR.out.below (HB0.out.trans (hS4.mono (by omega))) (Nat.le_refl _)) HSI.out HTI.out).mono ?_
     rintro e w3 ⟨rfl, hbw3⟩
     refine hK.out _ _ (hS4.trans (hbw3.mono hS4.size)) (fun hS5 => ?_)
     clear hK K
     refine take_slot (i := 35) (d := 57) (v := .bool false) rfl rfl (by kernel_rfl) (by kernel_rfl) (by kernel_rfl) (fun _ _ _ h => h) (Or.inl ⟨by rfl, fun w' _ => by go_simp⟩) hS5 ?_
     simp only [Act.put, List.setIfInBounds_toArray, List.set_cons_zero, List.set_cons_succ]
     refine take_slot (i := 36) (d := 58) (v := .bool false) rfl rfl (by kernel_rfl) (by kernel_rfl) (by kernel_rfl) (fun _ _ _ h => h) (Or.inl ⟨by rfl, fun w' _ => by go_simp⟩) hS5 ?_
     simp only [Act.put, List.setIfInBounds_toArray, List.set_cons_zero, List.set_cons_succ]
     refine wpAnyH_done (by kernel_rfl) ?_ _
     have HB5 := Lib.hid hS5
     clear hS1 hS2 hS3 hS4 hS5 hbw1 hbw2 hbw3
     go_wp2_with fail
     go_roundw
     case rel => exact ⟨b + 1, by omega, by go_num, HB5.out⟩
     case measure => simp [intOf]; omega
    ·obtain rfl : b = 5 := by omega
     go_wp2_with fail
     go_roundw
     case rel => exact ⟨a + 1, by omega, by go_num, HBb.out⟩
     case measure => simp [intOf]; omega
  ·obtain rfl : a = 5 := by omega
   go_wp2_with fail
   go_ret
   exact ⟨rfl, HB0.out.trans (HBa.out.mono (by omega))⟩

set_option maxRecDepth 100000 in
set_option maxHeartbeats 3200000 in
theorem liveKnown16_any (hD : DropsLaw) (hI : IdleLaw) (hS : SameLaw) (w : World) (hR : Ready w) : Calls Tryz.prog 6 #[] w (BoolOut true w) := by
 have HR := Lib.hid hR
 have HD := Lib.hid hD
 have HI := Lib.hid hI
 have HS := Lib.hid hS
 clear hR hD hI hS
 go_enter Tryz.func6, Tryz.ntmps6
 go_wp2_with fail
 refine (knownSaid16_any w HR.out.tabs).mono ?_
 rintro e w1 ⟨rfl, hb1⟩
 have HB1 := Lib.hid hb1
 clear hb1
 go_wp2_with fail
 refine (knownAll16_any HD.out HI.out HS.out w1 (HR.out.below HB1.out (Nat.le_refl _))).mono ?_
 rintro e w2 ⟨rfl, hb2⟩
 have HB2 := Lib.hid (HB1.out.trans (hb2.mono HB1.out.size))
 clear hb2
 go_wp2_with fail
 refine (knownWrong16_any HD.out w2 (HR.out.below HB2.out (Nat.le_refl _))).mono ?_
 rintro e w3 ⟨rfl, hb3⟩
 have HB3 := Lib.hid (HB2.out.trans (hb3.mono HB2.out.size))
 clear hb3
 go_wp2_with fail
 go_ret
 exact ⟨rfl, HB3.out⟩

end Code
end Go.Proofs.YtmpeipdeablkdaaGreatDoor

namespace Go.Proofs.YtmpeipdeablkdaaGreatDoor
open Go.RowKit Go.Proofs.YtmpeipdeablkdaaGreatDoor.Code

namespace LawLiveIdle

attribute [local go_sem ↓] Go.wp_at_zero Go.wp_at_succ

theorem writes16_any (x : B.Ins) (hr : x.right = true) (w : World) :
    Calls Tryz.prog 97 #[.agg #[.int .i64 x.op, .int .i64 x.a, .int .i64 x.b, .int .i64 x.n, .int .u64 x.imm]] w (BoolOut x.isW w) := by
 have ho := B.op_cases hr
 clear hr
 obtain ⟨o, a, c, n, m⟩ := x
 simp only at ho
 rcases ho with rfl | rfl | rfl | rfl | rfl | rfl | rfl | rfl | rfl | rfl | rfl | rfl | rfl | rfl | rfl | rfl | rfl | rfl | rfl | rfl
 all_goals go_enter Tryz.func97, Tryz.ntmps97
 all_goals go_wp2_with fail
 all_goals go_ret
 all_goals refine ⟨ret_bool ?_, (Below.refl _ _).alloc (Nat.le_refl _) _⟩
 all_goals simp [B.Ins.isW]

set_option maxRecDepth 100000 in
set_option maxHeartbeats 6400000 in
theorem reads16_any (x : B.Ins) (hr : x.right = true) (r : Nat) (w : World) :
    Calls Tryz.prog 98 #[.agg #[.int .i64 x.op, .int .i64 x.a, .int .i64 x.b, .int .i64 x.n, .int .u64 x.imm], .int .i64 (r : Int)] w (BoolOut (x.reads r) w) := by
 have ho := B.op_cases hr
 clear hr
 obtain ⟨o, a, c, n, m⟩ := x
 simp only at ho
 rcases ho with rfl | rfl | rfl | rfl | rfl | rfl | rfl | rfl | rfl | rfl | rfl | rfl | rfl | rfl | rfl | rfl | rfl | rfl | rfl | rfl
 ·go_enter Tryz.func98, Tryz.ntmps98
  go_wp2_with fail
  go_ret
  refine ⟨ret_bool ?_, (Below.refl _ _).alloc (Nat.le_refl _) _⟩
  simp [B.Ins.reads]
 ·go_enter Tryz.func98, Tryz.ntmps98
  go_wp2_with fail
  go_ret
  refine ⟨ret_bool ?_, (Below.refl _ _).alloc (Nat.le_refl _) _⟩
  simp [B.Ins.reads]
 ·cases hc : (c == (r : Int))
  all_goals go_enter Tryz.func98, Tryz.ntmps98
  all_goals go_wp2_with fail
  all_goals go_ret
  all_goals refine ⟨ret_bool ?_, (Below.refl _ _).alloc (Nat.le_refl _) _⟩
  all_goals simp [B.Ins.reads, hc]
 ·cases hc : (c == (r : Int))
  all_goals go_enter Tryz.func98, Tryz.ntmps98
  all_goals go_wp2_with fail
  all_goals go_ret
  all_goals refine ⟨ret_bool ?_, (Below.refl _ _).alloc (Nat.le_refl _) _⟩
  all_goals simp [B.Ins.reads, hc]
 ·cases hc : (c == (r : Int))
  all_goals go_enter Tryz.func98, Tryz.ntmps98
  all_goals go_wp2_with fail
  all_goals go_ret
  all_goals refine ⟨ret_bool ?_, (Below.refl _ _).alloc (Nat.le_refl _) _⟩
  all_goals simp [B.Ins.reads, hc]
 ·cases hc : (c == (r : Int))
  all_goals go_enter Tryz.func98, Tryz.ntmps98
  all_goals go_wp2_with fail
  all_goals go_ret
  all_goals refine ⟨ret_bool ?_, (Below.refl _ _).alloc (Nat.le_refl _) _⟩
  all_goals simp [B.Ins.reads, hc]
 ·go_enter Tryz.func98, Tryz.ntmps98
  go_wp2_with fail
  go_ret
  refine ⟨ret_bool ?_, (Below.refl _ _).alloc (Nat.le_refl _) _⟩
  simp [B.Ins.reads]
 ·go_enter Tryz.func98, Tryz.ntmps98
  go_wp2_with fail
  go_ret
  refine ⟨ret_bool ?_, (Below.refl _ _).alloc (Nat.le_refl _) _⟩
  simp [B.Ins.reads]
 ·go_enter Tryz.func98, Tryz.ntmps98
  go_wp2_with fail
  go_ret
  refine ⟨ret_bool ?_, (Below.refl _ _).alloc (Nat.le_refl _) _⟩
  simp [B.Ins.reads]
 ·go_enter Tryz.func98, Tryz.ntmps98
  go_wp2_with fail
  go_ret
  refine ⟨ret_bool ?_, (Below.refl _ _).alloc (Nat.le_refl _) _⟩
  simp [B.Ins.reads]
 ·go_enter Tryz.func98, Tryz.ntmps98
  go_wp2_with fail
  go_ret
  refine ⟨ret_bool ?_, (Below.refl _ _).alloc (Nat.le_refl _) _⟩
  simp [B.Ins.reads]
 ·go_enter Tryz.func98, Tryz.ntmps98
  go_wp2_with fail
  go_ret
  refine ⟨ret_bool ?_, (Below.refl _ _).alloc (Nat.le_refl _) _⟩
  simp [B.Ins.reads]
 ·go_enter Tryz.func98, Tryz.ntmps98
  go_wp2_with fail
  go_ret
  refine ⟨ret_bool ?_, (Below.refl _ _).alloc (Nat.le_refl _) _⟩
  simp [B.Ins.reads]
 ·go_enter Tryz.func98, Tryz.ntmps98
  go_wp2_with fail
  go_ret
  refine ⟨ret_bool ?_, (Below.refl _ _).alloc (Nat.le_refl _) _⟩
  simp [B.Ins.reads]
 ·go_enter Tryz.func98, Tryz.ntmps98
  go_wp2_with fail
  go_ret
  refine ⟨ret_bool ?_, (Below.refl _ _).alloc (Nat.le_refl _) _⟩
  simp [B.Ins.reads]
 ·go_enter Tryz.func98, Tryz.ntmps98
  go_wp2_with fail
  go_ret
  refine ⟨ret_bool ?_, (Below.refl _ _).alloc (Nat.le_refl _) _⟩
  simp [B.Ins.reads]
 ·go_enter Tryz.func98, Tryz.ntmps98
  go_wp2_with fail
  go_ret
  refine ⟨ret_bool ?_, (Below.refl _ _).alloc (Nat.le_refl _) _⟩
  simp [B.Ins.reads]
 ·go_enter Tryz.func98, Tryz.ntmps98
  go_wp2_with fail
  go_ret
  refine ⟨ret_bool ?_, (Below.refl _ _).alloc (Nat.le_refl _) _⟩
  simp [B.Ins.reads]
 ·go_enter Tryz.func98, Tryz.ntmps98
  go_wp2_with fail
  go_ret
  refine ⟨ret_bool ?_, (Below.refl _ _).alloc (Nat.le_refl _) _⟩
  simp [B.Ins.reads]
 ·go_enter Tryz.func98, Tryz.ntmps98
  go_wp2_with fail
  go_ret
  refine ⟨ret_bool ?_, (Below.refl _ _).alloc (Nat.le_refl _) _⟩
  simp [B.Ins.reads]

/-- a register is read by one of the instructions up to a place -/
def rdTo (q : List B.Ins) (k r j : Nat) : Bool := (List.range j).any fun t => decide (k < t) && match q[t]? with | some y => y.reads r | none => false

theorem rdTo_start (q : List B.Ins) (k r : Nat) : rdTo q k r (k + 1) = false := by
 unfold rdTo
 rw [List.any_eq_false]
 intro t ht
 have := List.mem_range.1 ht
 simp; omega

theorem rdTo_next {q : List B.Ins} {k r j : Nat} {y : B.Ins} (hj : k < j) (hy : q[j]? = some y) : rdTo q k r (j + 1) = (rdTo q k r j || y.reads r) := by
 unfold rdTo
 rw [List.range_succ, List.any_append]
 simp [hy, hj]

theorem rdTo_yes {q : List B.Ins} {k r j : Nat} {y : B.Ins} (hj : k < j) (hy : q[j]? = some y) (hr : y.reads r = true) : rdTo q k r q.length = true := by
 unfold rdTo
 rw [List.any_eq_true]
 exact ⟨j, List.mem_range.2 (List.getElem?_eq_some_iff.1 hy).1, by simp [hy, hj, hr]⟩
set_option maxRecDepth 100000 in
set_option maxHeartbeats 3200000 in
theorem law (a0 : Option Addr) (len0 cap0 : Nat) (ps0 : List B.Ins) (n1 : Int) (n2 : Int) (w : World) (hp0 : ProgAt w a0 len0 ps0) (hwf0 : ∀ y ∈ ps0, y.Wf) (hl0 : len0 * 40 ≤ 140737488351232) (hn0 : a0 = none → cap0 = 0) (hR : Tabs w) (hi1 : B.In64 n1) (hi2 : B.In64 n2) :
    Calls Tryz.prog 56 #[.slice a0 len0 cap0, .int .i64 n1, .int .i64 n2] w (BoolOut true w) := by
 have _U0 := Lib.hid hn0
 have _U1 := Lib.hid hi1
 have _U2 := Lib.hid hi2
 have HP := Lib.hid hp0
 have HWF := Lib.hid hwf0
 have HR := Lib.hid hR
 have hlw : len0 ≤ 3518437208780 := by omega
 clear hp0 hwf0 hn0 hR hi1 hi2 hl0
 by_cases hm : B.MayRun ps0 n1 n2
 ·have HM := Lib.hid hm
  have hlen : len0 ≤ 16384 := by rw [HP.out.len]; exact hm.len
  have HMQ := Lib.hid hm.drop
  have HDD := Lib.hid (B.drop_drop hm)
  have HALL : Hid (∀ k, k < (B.drop ps0).length → B.stay (B.drop ps0) k = true) := fun k hk => B.drop_all hm hk
  clear hm
  go_enter Tryz.func56, Tryz.ntmps56
  go_wp2_with fail
  refine (drop_yes a0 len0 cap0 ps0 n1 n2 _ HP.out HWF.out HR.out HM.out).mono ?_
  rintro e w1 ⟨ao, cp, rfl, hown, hb1⟩
  generalize B.drop ps0 = q at *
  have HO := Lib.hid hown
  have HB1 := Lib.hid hb1
  have hs1 := hb1.size
  have hql : q.length ≤ 16384 := HMQ.out.len
  have HQWF : Hid (∀ y ∈ q, y.Wf) := fun y hy => wf_right (HMQ.out.ok.mem y hy)
  clear hown hb1
  go_wp2_with fail
  refine (works16_any _ (HR.out.below HB1.out (Nat.le_refl _))).mono ?_
  rintro e w2 ⟨rfl, hb2⟩
  have HB2 := Lib.hid (HB1.out.trans (hb2.mono hs1))
  have HP2 : Hid (ProgAt w2 ao q.length q) := HO.out.progAt.below hb2 (Nat.le_refl _)
  have hs2 := HB2.out.size
  clear hb2
  by_cases hbig : 2000 < len0
  ·have q1 : decide ((2000 : Int) < (len0 : Int)) = true := by simp; omega
   go_wp2_with fail
   refine (works16_any _ (HR.out.below HB2.out (Nat.le_refl _))).mono ?_
   rintro e w3 ⟨rfl, hb3⟩
   have HB3 := Lib.hid (HB2.out.trans (hb3.mono hs2))
   clear hb3
   go_wp2_with fail
   go_ret
   exact ⟨rfl, HB3.out⟩
  ·have q1 : decide ((2000 : Int) < (len0 : Int)) = false := by simp; omega
   go_wp2_with fail
   refine (drop_yes ao q.length cp q n1 n2 _ HP2.out HQWF.out (HR.out.below HB2.out (Nat.le_refl _)) HMQ.out).mono ?_
   rintro e w3 ⟨ao3, cp3, rfl, hown3, hb3⟩
   rw [HDD.out] at hown3 ⊢
   have HO3 := Lib.hid hown3
   have HB3 := Lib.hid (HB2.out.trans (hb3.mono hs2))
   have HP3 : Hid (ProgAt w3 ao q.length q) := HP2.out.below hb3 (Nat.le_refl _)
   have hs3 := HB3.out.size
   clear hown3 hb3 q1
   go_wp2_with fail
   refine (sameInstrs_yes ao3 ao q.length cp3 q.length cp q _ HO3.out.progAt HP3.out (by omega)).mono ?_
   rintro e w4 ⟨rfl, hb4⟩
   have HB4 := Lib.hid (HB3.out.trans (hb4.mono hs3))
   have HP4 : Hid (ProgAt w4 ao q.length q) := HP3.out.below hb4 (Nat.le_refl _)
   have hs4 := HB4.out.size
   clear hb4
   go_wp2_with fail
   refine (program_yes ao q.length cp q n1 n2 _ HP4.out HQWF.out (HR.out.below HB4.out (Nat.le_refl _)) (by omega) HMQ.out).mono ?_
   rintro e w5 ⟨rfl, hb5⟩
   have HB5 := Lib.hid (HB4.out.trans (hb5.mono hs4))
   have HP5 : Hid (ProgAt w5 ao q.length q) := HP4.out.below hb5 (Nat.le_refl _)
   have hs5 := HB5.out.size
   clear hb5
   go_wp2_with fail
   go_loopw [11] (fun i wr => ∃ k : Nat, k ≤ q.length ∧ i = .int .i64 k ∧ Below w5.heap.size w5 wr) (fun i _ => q.length - (intOf i).toNat)
   case atStart => exact ⟨0, Nat.zero_le _, rfl, Below.refl _ _⟩
   case round =>
    obtain ⟨k, hk, rfl, hb⟩ := hrel
    have HB := Lib.hid hb
    have hszr := hb.size
    clear hb
    by_cases hlt : k < q.length
    ·have hx : q[k]? = some q[k] := List.getElem?_eq_getElem _
     generalize q[k] = x at hx
     have hst := HALL.out k hlt
     have hr := HMQ.out.ok.right k x hx
     have hbx := B.right_bounds hr
     obtain ⟨A, hA⟩ : ∃ A : Nat, x.a = A := ⟨x.a.toNat, by omega⟩
     have HFIN : Hid ((!x.isW || rdTo q k A q.length) = true) := by
      show _ = _
      cases hw : x.isW with
      | false => rfl
      | true =>
       obtain ⟨j, y, h1, h2, h3⟩ := B.all_ahead hx hst hw
       rw [hA] at h3
       have := rdTo_yes h1 h2 (by simpa using h3)
       rw [this]; rfl
     have HSK : Hid (x.skips = true → 1 ≤ x.n) := fun h => B.all_skips hx hst h
     have HX := Lib.hid hx
     have HRT := Lib.hid hr
     have HAA := Lib.hid hA
     obtain ⟨b, off, rfl, hbl, hat⟩ := HP5.out.at_ k x hx
     obtain ⟨h0, h1, h2, h3, h4⟩ := hat.below HB.out hbl
     clear hx hst hr hbx hat hbl hA
     go_wp2_with fail
     refine (writes16_any x HRT.out _).mono ?_
     rintro e w6 ⟨rfl, hb6⟩
     have HB6 := Lib.hid (HB.out.trans (hb6.mono hszr))
     clear hb6 h0 h1 h2 h3 h4 HB hszr
     go_wp2_with fail
     obtain ⟨wo, hwo⟩ : ∃ wo : World, wo = wr := ⟨_, rfl⟩
     subst hwo
     go_loopw [12, 13] (fun v j wr => ∃ J : Nat, k + 1 ≤ J ∧ J ≤ q.length ∧ j = .int .i64 J ∧ v = .bool (!x.isW || rdTo q k A J) ∧ Below w5.heap.size w5 wr) (fun _ j _ => q.length - (intOf j).toNat)
     case atStart => exact ⟨k + 1, Nat.le_refl _, by omega, by go_num, by rw [rdTo_start]; simp, HB6.out⟩
     case round =>
      obtain ⟨J, hJ1, hJ2, rfl, rfl, hbJ⟩ := hrel
      have HBJ := Lib.hid hbJ
      have hszJ := hbJ.size
      clear HB6
      obtain ⟨b2, off2, he2, hbl2, hat2⟩ := HP5.out.at_ k x HX.out
      simp only [Option.some.injEq, Addr.mk.injEq] at he2
      obtain ⟨rfl, rfl, _⟩ := he2
      obtain ⟨x0, x1, x2, x3, x4⟩ := hat2.below hbJ hbl2
      rw [HAA.out] at x1
      by_cases hltJ : J < q.length
      ·have hy : q[J]? = some q[J] := List.getElem?_eq_getElem _
       generalize q[J] = y at hy
       have HNX := Lib.hid (rdTo_next (r := A) (show k < J by omega) hy)
       obtain ⟨b3, off3, he3, hbl3, hat3⟩ := HP5.out.at_ J y hy
       simp only [Option.some.injEq, Addr.mk.injEq] at he3
       obtain ⟨rfl, rfl, _⟩ := he3
       obtain ⟨y0, y1, y2, y3, y4⟩ := hat3.below hbJ hbl3
       have HRY := Lib.hid (HMQ.out.ok.right J y hy)
       have j0 : (0 : Int) ≤ (J : Int) := by omega
       have j1 : (J : Int) < (q.length : Int) := by omega
       have k0 : (0 : Int) ≤ (k : Int) := by omega
       have k1 : (k : Int) < (q.length : Int) := by omega
       have hj2 : IntKind.i64.wrap ((J : Int) + 1) = (J : Int) + 1 := IntWalk.i64_in _ (by omega)
       clear hy hat2 hat3 hbl2 hbl3 hbJ
       cases hbb : (!x.isW || rdTo q k A J) with
       | true =>
        have HBB := Lib.hid hbb
        clear hbb
        go_wp2_with fail
        go_quiet (fail)
        go_wp2_with fail
        go_roundw
        case rel =>
         refine ⟨J + 1, by omega, by omega, by go_num, ?_, belowN HBJ.out _⟩
         rw [HNX.out, ← Bool.or_assoc, HBB.out]; rfl
        case measure => simp [intOf]; omega
       | false =>
        have HBB := Lib.hid hbb
        clear hbb
        go_wp2_with fail
        go_still_tail 11, (by kernel_rfl)
        go_wp2_with fail
        refine (reads16_any y HRY.out A _).mono ?_
        rintro e w7 ⟨rfl, hb7⟩
        have HB7 := Lib.hid (HBJ.out.drew.trans (hb7.mono HBJ.out.drew.size))
        clear hb7
        go_wp2_with fail
        go_roundw
        case rel =>
         refine ⟨J + 1, by omega, by omega, by go_num, ?_, HB7.out⟩
         rw [HNX.out, ← Bool.or_assoc, HBB.out]; rfl
        case measure => simp [intOf]; omega
      ·obtain rfl : J = q.length := by omega
       rw [HFIN.out]
       have k0 : (0 : Int) ≤ (k : Int) := by omega
       clear hat2 hbl2 hbJ
       by_cases e18 : x.op = 18
       ·have q1 : (x.op == 18) = true := by simpa using e18
        have hn1 : decide (x.n < 1) = false := by have := HSK.out (by unfold B.Ins.skips; simp [e18]); simp; omega
        clear e18
        go_wp2_with fail
        go_roundw
        case rel => exact ⟨k + 1, by omega, by go_num, HBJ.out⟩
        case measure => simp [intOf]; omega
       ·by_cases e19 : x.op = 19
        ·have q1 : (x.op == 18) = false := by simpa using e18
         have q2 : (x.op == 19) = true := by simpa using e19
         have hn1 : decide (x.n < 1) = false := by have := HSK.out (by unfold B.Ins.skips; simp [e19]); simp; omega
         clear e18 e19
         go_wp2_with fail
         go_roundw
         case rel => exact ⟨k + 1, by omega, by go_num, HBJ.out⟩
         case measure => simp [intOf]; omega
        ·have q1 : (x.op == 18) = false := by simpa using e18
         have q2 : (x.op == 19) = false := by simpa using e19
         clear e18 e19
         go_wp2_with fail
         go_roundw
         case rel => exact ⟨k + 1, by omega, by go_num, HBJ.out⟩
         case measure => simp [intOf]; omega
    ·obtain rfl : k = q.length := by omega
     have HBE := Lib.hid (HB5.out.trans (HB.out.mono hs5))
     by_cases h00 : q.length = 0
     ·have q0 : ((q.length : Int) == 0) = true := by simp [h00]
      clear h00
      go_wp2_with fail
      go_ret
      exact ⟨rfl, HBE.out⟩
     ·obtain ⟨m, hqm⟩ : ∃ m, q.length = m + 1 := ⟨q.length - 1, by omega⟩
      have hx : q[m]? = some (q[m]'(by omega)) := List.getElem?_eq_getElem _
      generalize q[m]'(by omega) = x at hx
      have hlast := B.all_last HMQ.out (x := x) (by rw [hqm]; exact hx) (by rw [hqm]; exact HALL.out m (by omega))
      obtain ⟨b, off, rfl, hbl, hat⟩ := HP5.out.at_ m x hx
      obtain ⟨h0, h1, h2, h3, h4⟩ := hat.below HB.out hbl
      have q0 : ((q.length : Int) == 0) = false := beq_eq_false_iff_ne.2 (by omega)
      have hw1 : IntKind.i64.wrap ((q.length : Int) - 1) = (m : Int) := by rw [hqm]; have := IntWalk.i64_in ((m : Int)) (by omega); rw [show (((m + 1 : Nat) : Int) - 1) = (m : Int) by omega]; exact this
      have m0 : (0 : Int) ≤ (m : Int) := by omega
      have m1 : (m : Int) < (q.length : Int) := by omega
      have HQM := Lib.hid hqm
      clear hx hat hbl h00 hqm
      have hl5 : x.op = 11 ∨ x.op = 12 ∨ x.op = 13 ∨ x.op = 16 ∨ x.op = 17 := by omega
      clear hlast
      rcases hl5 with ho | ho | ho | ho | ho
      all_goals rw [ho] at h0
      all_goals clear ho
      all_goals go_wp2_with fail
      all_goals go_ret
      all_goals exact ⟨rfl, HBE.out⟩
 ·have HM : Hid (¬ B.MayRun ps0 n1 n2) := hm
  obtain ⟨T, v, hv⟩ := Er.shape _ (progEr_shape hm)
  have HV := Lib.hid hv
  clear hm hv
  go_enter Tryz.func56, Tryz.ntmps56
  go_wp2_with fail
  refine (drop_no a0 len0 cap0 ps0 n1 n2 _ HP.out HWF.out HR.out (by omega) HM.out).mono ?_
  rintro e w1 ⟨rfl, hb1⟩
  rw [HV.out]
  have HB1 := Lib.hid hb1
  have hs1 := hb1.size
  clear hb1
  go_wp2_with fail
  refine (works16_any _ (HR.out.below HB1.out (Nat.le_refl _))).mono ?_
  rintro e w2 ⟨rfl, hb2⟩
  have HB2 := Lib.hid (HB1.out.trans (hb2.mono hs1))
  have hs2 := HB2.out.size
  clear hb2
  go_wp2_with fail
  refine (works16_any _ (HR.out.below HB2.out (Nat.le_refl _))).mono ?_
  rintro e w3 ⟨rfl, hb3⟩
  have HB3 := Lib.hid (HB2.out.trans (hb3.mono hs2))
  clear hb3
  go_wp2_with fail
  go_ret
  exact ⟨rfl, HB3.out⟩

end LawLiveIdle
end Go.Proofs.YtmpeipdeablkdaaGreatDoor

namespace Go.Proofs.YtmpeipdeablkdaaGreatDoor
open Go.RowKit Go.Proofs.YtmpeipdeablkdaaGreatDoor.Code

namespace LawLiveSame

attribute [local go_sem ↓] Go.wp_at_zero Go.wp_at_succ

theorem seen_same {r r' : B.Out} (hf : r.failed = r'.failed) (h : B.Seen r.st r'.st) : Same r r' := by
 refine ⟨?_, ?_, ?_, ?_, ?_⟩
 ·unfold fl; rw [hf]
 ·unfold slotOf; rw [hf]
 ·unfold payL; rw [hf, h.pay]
 ·unfold outL; rw [hf, h.out]
 ·unfold hasL; rw [hf, h.has]
set_option maxRecDepth 100000 in
set_option maxHeartbeats 3200000 in
theorem law (a0 : Option Addr) (len0 cap0 : Nat) (ps0 : List B.Ins) (pa1 : Option Addr) (pn1 pc1 : Nat) (pay1 : List Nat) (ia2 : Option Addr) (im2 ic2 : Nat) (inp2 : List Nat) (w : World) (hp0 : ProgAt w a0 len0 ps0) (hwf0 : ∀ y ∈ ps0, y.Wf) (hl0 : len0 * 40 ≤ 140737488351232) (hn0 : a0 = none → cap0 = 0) (hy1 : ListAt w pa1 pn1 (pay1.map u8V)) (hb1 : B.Bytes pay1) (hyn1 : pa1 = none → pc1 = 0) (hyl1 : pn1 ≤ 9223372036854775807) (hu2 : ListAt w ia2 im2 (inp2.map u64V)) (hw2 : B.Words inp2) (hun2 : ia2 = none → ic2 = 0) (hul2 : im2 ≤ 9223372036854775807) (hR : Tabs w) :
    Calls Tryz.prog 55 #[.slice a0 len0 cap0, .slice pa1 pn1 pc1, .slice ia2 im2 ic2] w (BoolOut true w) := by
 have _U0 := Lib.hid hn0
 have _U1 := Lib.hid hyn1
 have _U2 := Lib.hid hun2
 have HP := Lib.hid hp0
 have HWF := Lib.hid hwf0
 have HY := Lib.hid hy1
 have HBY := Lib.hid hb1
 have HU := Lib.hid hu2
 have HW := Lib.hid hw2
 have HR := Lib.hid hR
 have hlw : len0 ≤ 3518437208780 := by omega
 clear hp0 hwf0 hn0 hyn1 hun2 hy1 hb1 hu2 hw2 hR hl0
 have _ := hyl1
 have _ := hul2
 by_cases hm : B.MayRun ps0 pn1 im2
 ·have HM := Lib.hid hm
  have hlen : len0 ≤ 16384 := by rw [HP.out.len]; exact hm.len
  have hql : (B.drop ps0).length ≤ len0 := by rw [B.drop_length, HP.out.len]; exact B.idx_le _ _
  have hdr := B.drop_run hm (inp := inp2) 0 (B.start pay1 im2) (B.start pay1 im2) .start (by omega) ⟨rfl, rfl, rfl⟩ (fun _ _ => rfl)
  rw [B.idx_zero] at hdr
  obtain ⟨r, hq⟩ : ∃ r, B.run ps0 inp2 0 (B.start pay1 im2) = r := ⟨_, rfl⟩
  obtain ⟨r', hq'⟩ : ∃ r', B.run (B.drop ps0) inp2 0 (B.start pay1 im2) = r' := ⟨_, rfl⟩
  rw [hq, hq'] at hdr
  obtain ⟨d1, d2, d3⟩ := hdr
  have HSM := Lib.hid (seen_same d1 d3)
  have hrs : r.steps ≤ 16384 := by have := B.steps_le ps0 inp2 0 (B.start pay1 im2); rw [hq] at this; have := HP.out.len; omega
  have HQ := Lib.hid hq
  have HQ' := Lib.hid hq'
  have HMQ := Lib.hid hm.drop
  clear hm hq hq' d1 d3
  go_enter Tryz.func55, Tryz.ntmps55
  go_wp2_with fail
  refine (run_same (r := r) (Same.refl r) rfl a0 pa1 ia2 len0 cap0 pn1 pc1 im2 ic2 ps0 pay1 inp2 _ HP.out HWF.out HR.out (by omega) HM.out HY.out HU.out HBY.out HW.out HQ.out).mono ?_
  rintro e w2 ⟨xa, xc, ya, yc, za, zc, rfl, o1, o2, o3, ⟨s1, s2, s3⟩, hb2⟩
  have hs2 := hb2.size
  have O1 := Lib.hid o1
  have O2 := Lib.hid o2
  have O3 := Lib.hid o3
  have HB2 := Lib.hid hb2
  clear o1 o2 o3 hb2
  go_wp2_with fail
  have hb3 := (Below.refl w2.heap.size w2).alloc (Nat.le_refl _) (.cells #[.bool (fl r), .int .i64 (slotOf r), .slice xa (payL r).length xc, .slice ya (outL r).length yc, .slice za (hasL r).length zc, .int .i64 (r.steps : Int)] 52)
  have hA3 := heap_alloc_new w2 (.cells #[.bool (fl r), .int .i64 (slotOf r), .slice xa (payL r).length xc, .slice ya (outL r).length yc, .slice za (hasL r).length zc, .int .i64 (r.steps : Int)] 52)
  have hB3 := HB2.out.trans (hb3.mono hs2)
  refine (drop_yes a0 len0 cap0 ps0 pn1 im2 _ (HP.out.below hB3 (Nat.le_refl _)) HWF.out (HR.out.below hB3 (Nat.le_refl _)) HM.out).mono ?_
  rintro e w4 ⟨ao, cp, rfl, hown, hb4⟩
  generalize B.drop ps0 = q at *
  have HA4 := Lib.hid ((hb4.block w2.heap.size (by simp)).trans hA3)
  have HB24 := Lib.hid (hb3.trans (hb4.mono (by simp)))
  have HB4 := Lib.hid (HB2.out.trans (HB24.out.mono hs2))
  have HO := Lib.hid hown
  have hs4 := HB4.out.size
  have hs24 : w2.heap.size < w4.heap.size := lt_of_block HA4.out
  have HQWF : Hid (∀ y ∈ q, y.Wf) := fun y hy => wf_right (HMQ.out.ok.mem y hy)
  clear hb3 hb4 hA3 hB3 hown
  have HP4 : Hid (ProgAt w4 ao q.length q) := HO.out.progAt
  go_upto_region 3 with fail
  go_region_held3 (fun _ => True) (exact trivial) ((refine (works16_any _ (HR.out.below HB4.out.drew (Nat.le_refl _))).mono ?_; rintro e w5 ⟨rfl, hb5⟩; have HB45 := Lib.hid (((Below.refl w4.heap.size w4).drew).trans (hb5.mono (Nat.le_refl _))); clear hb5))
  have HB5 := Lib.hid (HB4.out.trans (HB45.out.mono hs4))
  have HA5 := Lib.hid ((HB45.out.block w2.heap.size (by omega)).trans HA4.out)
  have HB25 := Lib.hid (HB24.out.trans (HB45.out.mono (by omega)))
  have HP5 : Hid (ProgAt w5 ao q.length q) := HP4.out.below HB45.out (Nat.le_refl _)
  have hs5 := HB5.out.size
  have hs25 : w2.heap.size < w5.heap.size := lt_of_block HA5.out
  clear HB45
  go_wp2_with fail
  refine (run_same (r := r) (r' := r') (n := r'.steps) HSM.out rfl ao pa1 ia2 q.length cp pn1 pc1 im2 ic2 q pay1 inp2 _ HP5.out HQWF.out (HR.out.below HB5.out (Nat.le_refl _)) (by omega) HMQ.out (HY.out.below HB5.out (Nat.le_refl _)) (HU.out.below HB5.out (Nat.le_refl _)) HBY.out HW.out HQ'.out).mono ?_
  rintro e w7 ⟨xa', xc', ya', yc', za', zc', rfl, o1, o2, o3, _, hb7⟩
  have hG : w7.heap[w2.heap.size]? = _ := (hb7.block w2.heap.size (by omega)).trans HA5.out
  have q0 : w7.cell? ⟨w2.heap.size, 0, none⟩ = some (.bool (fl r)) := by rw [cell_of_row _ _ _ _ _ _ hG]; rfl
  have q1 : w7.cell? ⟨w2.heap.size, 1, none⟩ = some (.int .i64 (slotOf r)) := by rw [cell_of_row _ _ _ _ _ _ hG]; rfl
  have q2 : w7.cell? ⟨w2.heap.size, 2, none⟩ = some (.slice xa (payL r).length xc) := by rw [cell_of_row _ _ _ _ _ _ hG]; rfl
  have q3 : w7.cell? ⟨w2.heap.size, 3, none⟩ = some (.slice ya (outL r).length yc) := by rw [cell_of_row _ _ _ _ _ _ hG]; rfl
  have q4 : w7.cell? ⟨w2.heap.size, 4, none⟩ = some (.slice za (hasL r).length zc) := by rw [cell_of_row _ _ _ _ _ _ hG]; rfl
  have q5 : w7.cell? ⟨w2.heap.size, 5, none⟩ = some (.int .i64 (r.steps : Int)) := by rw [cell_of_row _ _ _ _ _ _ hG]; rfl
  have hX7 : w2.heap.size < w7.heap.size := lt_of_block hG
  have P1 := Lib.hid o1
  have P2 := Lib.hid o2
  have P3 := Lib.hid o3
  have HB7 := Lib.hid (HB5.out.trans (hb7.mono hs5))
  have HB27 := Lib.hid (HB25.out.trans (hb7.mono (by omega)))
  have g1 : decide (len0 < q.length) = false := by simp; omega
  have g2 : decide (r.steps < r'.steps) = false := by simp; omega
  clear hG o1 o2 o3 hb7
  go_wp2_with fail
  obtain ⟨w8, hw8⟩ : ∃ w8, (w7.alloc (.cells #[.bool (fl r), .int .i64 (slotOf r), .slice xa' (payL r).length xc', .slice ya' (outL r).length yc', .slice za' (hasL r).length zc', .int .i64 (r.steps : Int)] 52)) = w8 := ⟨_, rfl⟩
  rw [hw8]
  have hB8 : Below w2.heap.size w2 w8 := by rw [← hw8]; exact HB27.out.alloc (by omega) _
  have HB8 : Hid (Below w.heap.size w w8) := by rw [← hw8]; exact HB7.out.alloc (by omega) _
  have hpb : ∀ k, w5.heap.size ≤ k ∧ k < w7.heap.size → w8.heap[k]? = w7.heap[k]? := by
   intro k hk
   rw [← hw8]
   exact (World.grownBy_alloc _ _ none).block k hk.2 (by simp)
  have A1 := Lib.hid ((ListAt.ofOwn O1.out).below hB8 (Nat.le_refl _))
  have A2 := Lib.hid ((ListAt.ofOwn O2.out).below hB8 (Nat.le_refl _))
  have A3 := Lib.hid ((ListAt.ofOwn O3.out).below hB8 (Nat.le_refl _))
  have B1 := Lib.hid (ListAt.ofOwn (ownsRow_of P1.out (fun k hk => hpb k (P1.out.lt k hk))))
  have B2 := Lib.hid (ListAt.ofOwn (ownsRow_of P2.out (fun k hk => hpb k (P2.out.lt k hk))))
  have B3 := Lib.hid (ListAt.ofOwn (ownsRow_of P3.out (fun k hk => hpb k (P3.out.lt k hk))))
  clear hw8 hB8 hpb q0 q1 q2 q3 q4 q5 g1 g2
  refine (sameRan_any (fl r) (slotOf r) (r.steps : Int) xa xa' ya ya' za za' _ xc xc' _ yc yc' _ zc zc' (payL r) (outL r) (hasL r) w8 A1.out B1.out A2.out B2.out A3.out B3.out ⟨by omega, by omega, by omega⟩).mono ?_
  rintro e w9 ⟨rfl, hb9⟩
  have HB9 := Lib.hid (HB8.out.trans (hb9.mono HB8.out.size))
  clear hb9
  go_wp2_with fail
  go_ret
  exact ⟨rfl, HB9.out⟩
 ·have HM : Hid (¬ B.MayRun ps0 pn1 im2) := hm
  obtain ⟨T, v, hv⟩ := Er.shape _ (progEr_shape hm)
  have HV := Lib.hid hv
  clear hm hv
  go_enter Tryz.func55, Tryz.ntmps55
  go_wp2_with fail
  refine (run_no a0 pa1 ia2 len0 cap0 pn1 pc1 im2 ic2 ps0 _ HP.out HWF.out HR.out (by omega) HM.out).mono ?_
  rintro e w2 ⟨rfl, hb2⟩
  rw [HV.out]
  have HB2 := Lib.hid hb2
  have hs2 := hb2.size
  clear hb2
  go_wp2_with fail
  have hB3 := HB2.out.alloc hs2 (.cells #[.bool false, .int .i64 0, .slice none 0 0, .slice none 0 0, .slice none 0 0, .int .i64 0] 52)
  refine (drop_no a0 len0 cap0 ps0 pn1 im2 _ (HP.out.below hB3 (Nat.le_refl _)) HWF.out (HR.out.below hB3 (Nat.le_refl _)) (by omega) HM.out).mono ?_
  rintro e w4 ⟨rfl, hb4⟩
  rw [HV.out]
  have HB4 := Lib.hid (hB3.trans (hb4.mono (by simp; omega)))
  have hs4 := HB4.out.size
  clear hB3 hb4
  go_upto_region 3 with fail
  go_region_held3 (fun _ => True) (exact trivial) ((refine (works16_any _ (HR.out.below HB4.out.drew (Nat.le_refl _))).mono ?_; rintro e w5 ⟨rfl, hb5⟩; have HB45 := Lib.hid (((Below.refl w4.heap.size w4).drew).trans (hb5.mono (Nat.le_refl _))); clear hb5))
  have HB5 := Lib.hid (HB4.out.trans (HB45.out.mono hs4))
  go_wp2_with fail
  go_ret
  exact ⟨rfl, HB5.out⟩

end LawLiveSame
end Go.Proofs.YtmpeipdeablkdaaGreatDoor
