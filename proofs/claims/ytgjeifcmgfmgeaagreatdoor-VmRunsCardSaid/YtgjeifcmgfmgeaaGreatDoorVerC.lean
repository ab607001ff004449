/- Package verify: each instruction by itself is looked at. -/
import Derived.Test.YtgjeifcmgfmgeaaGreatDoorVerB
import Derived.Test.YtgjeifcmgfmgeaaGreatDoorVerR
namespace Go.Proofs.YtgjeifcmgfmgeaaGreatDoor
open Go.RowKit

namespace Code

attribute [local go_sem ↓] Go.wp_at_zero Go.wp_at_succ

/-- an error of touching -/
def touchErr : Option (Int × Nat) → Value
 | none => .nilIface
 | some (e, i) => fault e i

theorem firstTouch_step {size slots : Int} {len i : Nat} {x : B.Ins} {r : List B.Ins} : B.firstTouch size slots len i (x :: r) =
    if x.right = false then some (20, i) else if x.touch size slots (len - i - 1) ≠ 0 then some (x.touch size slots (len - i - 1), i) else B.firstTouch size slots len (i + 1) r := rfl

/-- what touching answers -/
def TouchOut (ps : List B.Ins) (size slots : Int) (w : World) (e : Ending) (w' : World) : Prop := e = .returned (touchErr (B.firstTouch size slots ps.length 0 ps)) ∧ Below w.heap.size w w'

/-- an instruction's cells in a block of its own -/
def BoxI (x : B.Ins) (X : Nat) (w : World) : Prop :=
 w.cell? ⟨X, 0, none⟩ = some (.int .i64 x.op) ∧ w.cell? ⟨X, 1, none⟩ = some (.int .i64 x.a) ∧ w.cell? ⟨X, 2, none⟩ = some (.int .i64 x.b) ∧ w.cell? ⟨X, 3, none⟩ = some (.int .i64 x.n) ∧ w.cell? ⟨X, 4, none⟩ = some (.int .u64 x.imm)

theorem BoxI.below {x : B.Ins} {X N : Nat} {w w' : World} (h : BoxI x X w) (hb : Below N w w') (hN : X < N) : BoxI x X w' :=
 ⟨(hb.cell (p := ⟨X, 0, none⟩) hN).trans h.1, (hb.cell (p := ⟨X, 1, none⟩) hN).trans h.2.1, (hb.cell (p := ⟨X, 2, none⟩) hN).trans h.2.2.1, (hb.cell (p := ⟨X, 3, none⟩) hN).trans h.2.2.2.1, (hb.cell (p := ⟨X, 4, none⟩) hN).trans h.2.2.2.2⟩

theorem boxI_new (x : B.Ins) (w : World) (t : TypeId) : BoxI x w.heap.size (w.alloc (.cells #[.int .i64 x.op, .int .i64 x.a, .int .i64 x.b, .int .i64 x.n, .int .u64 x.imm] t)) := by
 have hb := heap_alloc_new w (.cells #[.int .i64 x.op, .int .i64 x.a, .int .i64 x.b, .int .i64 x.n, .int .u64 x.imm] t)
 refine ⟨?_, ?_, ?_, ?_, ?_⟩ <;> (rw [cell_of_row _ _ _ _ _ _ hb]; rfl)

theorem BoxI.lt {x : B.Ins} {X : Nat} {w : World} (h : BoxI x X w) : X < w.heap.size := World.block_lt_of_cell? w _ h.1

theorem print_yes (x : B.Ins) (w : World) (hx : x.Wf) (ht : Tabs w) (h : x.right = true) : Calls Tryz.prog 133 #[valI x] w fun e w' => ∃ s : ByteArray, e = .returned (.tuple #[.string s, .nilIface]) ∧ Below w.heap.size w w' :=
 (print_any x w hx ht).mono fun e w' ⟨⟨s, he⟩, hb⟩ => ⟨s, by rw [he, if_pos h], hb⟩
theorem print_no (x : B.Ins) (w : World) (hx : x.Wf) (ht : Tabs w) (h : x.right = false) : Calls Tryz.prog 133 #[valI x] w fun e w' => ∃ s : ByteArray, e = .returned (.tuple #[.string s, .iface 132 (.int .i64 20)]) ∧ Below w.heap.size w w' :=
 (print_any x w hx ht).mono fun e w' ⟨⟨s, he⟩, hb⟩ => ⟨s, by rw [he, if_neg (by simp [h])]; rfl, hb⟩

theorem ruled_out (o : Int) (w : World) (ho : B.isOp o = true) : Calls Tryz.prog 135 #[.int .i64 o] w fun e w' => e = .returned (.agg #[.func (.func (rdFn o)) #[] #[], .bool (wrB o), .func (.func (tcFn o)) #[] #[]]) ∧ Below w.heap.size w w' := ruled_any o w ho

theorem rule_field2 (a b c : Value) (w : World) : (Instr.field 216 (.agg #[a, b, c]) 2).run Tryz.prog w = .ok c w := by kernel_rfl

theorem isOp_right {x : B.Ins} (h : x.right = true) : B.isOp x.op = true := by
 have := (B.right_bounds h).1
 unfold B.isOp; simp; omega

set_option maxRecDepth 100000 in
set_option maxHeartbeats 3200000 in
theorem touching_any (a : Option Addr) (len cap : Nat) (ps : List B.Ins) (size slots : Int) (w : World) (hp : ProgAt w a len ps) (hwf : ∀ y ∈ ps, y.Wf) (ht : Tabs w) (hl : len ≤ 16384) :
    Calls Tryz.prog 95 #[.slice a len cap, .int .i64 size, .int .i64 slots] w (TouchOut ps size slots w) := by
 have HP := Lib.hid hp
 have HWF := Lib.hid hwf
 have HT := Lib.hid ht
 clear hp hwf ht
 go_enter Tryz.func95, Tryz.ntmps95
 go_wp2_with fail
 go_loopw [14] (fun i wr => ∃ k : Nat, i = .int .i64 k ∧ k ≤ len ∧ B.firstTouch size slots ps.length 0 ps = B.firstTouch size slots ps.length k (ps.drop k) ∧ Below w.heap.size w wr) (fun i _ => len - (intOf i).toNat)
 case atStart => exact ⟨0, rfl, Nat.zero_le _, rfl, Below.refl _ _⟩
 case round =>
  obtain ⟨k, rfl, hk, hft, hb⟩ := hrel
  have hsz := hb.size
  have HB := Lib.hid hb
  by_cases hlt : k < len
  ·have hx : ps[k]? = some (ps[k]'(by have := HP.out.len; omega)) := List.getElem?_eq_getElem _
   have hdr : ps.drop k = ps[k]'(by have := HP.out.len; omega) :: ps.drop (k + 1) := List.drop_eq_getElem_cons _
   generalize ps[k]'(by have := HP.out.len; omega) = x at hx hdr
   rw [hdr, firstTouch_step] at hft
   have HFT := Lib.hid hft
   have HX := Lib.hid (HWF.out x (List.mem_of_getElem? hx))
   obtain ⟨b, off, rfl, hbl, hat⟩ := HP.out.at_ k x hx
   obtain ⟨h0, h1, h2, h3, h4⟩ := hat.below hb hbl
   have hbw : b < wr.heap.size := by omega
   clear hx hdr hft hat hb
   by_cases hright : x.right = true
   ·have hlw : IntKind.i64.wrap ((len : Int) - (k : Int)) = (len : Int) - (k : Int) := IntWalk.i64_in _ (by omega)
    have hlw2 : IntKind.i64.wrap ((len : Int) - (k : Int) - 1) = (len : Int) - (k : Int) - 1 := IntWalk.i64_in _ (by omega)
    have hent := en_tc x.op
    have hfld := rule_field2
    unfold En at hent
    have HRI := Lib.hid hright
    clear hright
    go_wp2_with fail
    refine (print_yes x _ HX.out ((HT.out.below HB.out (Nat.le_refl _)).alloc _) HRI.out).mono ?_
    rintro e w1 ⟨s, rfl, hb1⟩
    have hbx := (boxI_new x wr 75).below hb1 (by simp)
    have HB1 := Lib.hid hb1
    have hs1 := hb1.size
    have hXw : wr.heap.size < w1.heap.size := by simp at hs1; omega
    clear hb1
    go_wp2_with fail
    go_region_held3 (fun w' => w'.cell? ⟨wr.heap.size, 0, none⟩ = some (.int .i64 x.op) ∧ w'.cell? ⟨wr.heap.size, 1, none⟩ = some (.int .i64 x.a) ∧ w'.cell? ⟨wr.heap.size, 2, none⟩ = some (.int .i64 x.b) ∧ w'.cell? ⟨wr.heap.size, 3, none⟩ = some (.int .i64 x.n) ∧ w'.cell? ⟨wr.heap.size, 4, none⟩ = some (.int .u64 x.imm))
     (first
      | exact hbx
      | exact BoxI.below (N := w2.heap.size) (w := w2) hbx2 hb3 (by omega)
      | exact hbx2
      | (refine ⟨?_, ?_, ?_, ?_, ?_⟩ <;> assumption))
     (first
      | (go_at_call 135; refine (ruled_out x.op _ (isOp_right HRI.out)).mono ?_; rintro e w2 ⟨rfl, hb2⟩; have hs2 : w1.heap.size ≤ w2.heap.size := hb2.size; have hbx2 : BoxI x wr.heap.size w2 := BoxI.below (N := w1.heap.size) (w := w1.drew) hbx hb2 hXw)
      | (refine (touches_any x size slots _ _ HRI.out).mono ?_; rintro e w3 ⟨rfl, hb3⟩))
    have hs3 : w2.heap.size ≤ w3.heap.size := hb3.size
    have HB3 := Lib.hid (((HB.out.alloc hsz _).trans (HB1.out.mono (by simp; omega))).trans (((Below.refl w.heap.size w1).drew.trans (hb2.mono (by show w.heap.size ≤ w1.heap.size; omega))).trans (hb3.mono (by omega))))
    have htl : x.touch size slots ((ps.length : Int) - (k : Int) - 1) = x.touch size slots ((len : Int) - (k : Int) - 1) := by rw [HP.out.len]
    have HTL := Lib.hid htl
    clear htl hb2 hb3 hbx hbx2
    generalize htc : x.touch size slots ((len : Int) - (k : Int) - 1) = tc at *
    clear htc
    by_cases hz : tc = 0
    ·subst hz
     go_wp2_with fail
     go_roundw
     case rel => exact ⟨k + 1, by go_num, by omega, by rw [HFT.out, if_neg (by simp [HRI.out]), if_neg (by rw [HTL.out]; simp)], HB3.out⟩
     case measure => simp [intOf]; omega
    ·have hz1 : (tc == 0) = false := by simpa using hz
     have hz2 : (tc != 0) = true := by simpa using hz
     have HZ := Lib.hid hz
     clear hz
     go_wp2_with fail
     refine (vat_any _ _ _).mono ?_
     rintro e w4 ⟨rfl, rfl⟩
     go_wp2_with fail
     go_ret
     refine ⟨?_, HB3.out⟩
     rw [HFT.out, if_neg (by simp [HRI.out]), if_pos (by rw [HTL.out]; exact HZ.out), HTL.out]
     rfl
   ·have hright' : x.right = false := by simpa using hright
    have HRI := Lib.hid hright'
    clear hright hright'
    go_wp2_with fail
    refine (print_no x _ HX.out ((HT.out.below HB.out (Nat.le_refl _)).alloc _) HRI.out).mono ?_
    rintro e w1 ⟨s, rfl, hb1⟩
    have HB1 := Lib.hid hb1
    clear hb1
    go_wp2_with fail
    refine (vat_any _ _ _).mono ?_
    rintro e w2 ⟨rfl, rfl⟩
    go_wp2_with fail
    go_ret
    refine ⟨?_, (HB.out.alloc hsz _).trans (HB1.out.mono (by simp; omega))⟩
    rw [HFT.out, if_pos HRI.out]
    rfl
  ·obtain rfl : k = len := by omega
   have HFT := Lib.hid hft
   clear hft hb
   go_wp2_with fail
   go_ret
   refine ⟨?_, HB.out⟩
   rw [HFT.out, List.drop_of_length_le (by have := HP.out.len; omega)]
   rfl

end Code
end Go.Proofs.YtgjeifcmgfmgeaaGreatDoor
