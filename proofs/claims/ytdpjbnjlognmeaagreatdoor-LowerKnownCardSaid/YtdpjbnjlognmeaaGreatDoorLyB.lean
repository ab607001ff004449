/- Package law15: are the same signals there, with the same values? They are. -/
import Derived.Test.YtdpjbnjlognmeaaGreatDoorLyA
import Derived.BigQuiet
import Derived.Deep.QuietTactic
namespace Go.Proofs.YtdpjbnjlognmeaaGreatDoor
open Go.RowKit

namespace Code

attribute [local go_sem ↓] Go.wp_at_zero Go.wp_at_succ

theorem below_drewN {N : Nat} {a w : World} (h : Below N a w) (m : Nat) : Below N a (w.drewN m) := ⟨h.os, h.tape, h.output, h.size, h.block⟩

set_option maxRecDepth 100000 in
set_option maxHeartbeats 6400000 in
theorem same_yes (fa : Bool) (sl st : Int) (pa xa ya oa ha : Option Addr) (pl pc n xc yc oc ic : Nat) (ro out : List Nat) (rh : List Bool) (w : World) (hx : ListAt w xa n (ro.map u64V)) (hy : ListAt w ya n (rh.map Value.bool)) (ho : ListAt w oa n (out.map u64V)) (hh : ListAt w ha n (rh.map Value.bool))
    (hc : ∀ k, rh.getD k false = true → ro.getD k 0 = out.getD k 0) (hn : n ≤ 9223372036854775807) :
    Calls Tryz.prog 15 #[.agg #[.bool fa, .int .i64 sl, .slice pa pl pc, .slice xa n xc, .slice ya n yc, .int .i64 st], .slice oa n oc, .slice ha n ic] w (fun e w' => e = .returned (.bool true) ∧ Below w.heap.size w w') := by
 have hbox := RC.new #[.bool fa, .int .i64 sl, .slice pa pl pc, .slice xa n xc, .slice ya n yc, .int .i64 st] 44 w (n := 6) rfl rfl
 have hbel : Below w.heap.size w (w.alloc (.cells #[.bool fa, .int .i64 sl, .slice pa pl pc, .slice xa n xc, .slice ya n yc, .int .i64 st] 44)) := (Below.refl _ _).alloc (Nat.le_refl _) _
 obtain ⟨w1, hw1⟩ : ∃ w1, w.alloc (.cells #[.bool fa, .int .i64 sl, .slice pa pl pc, .slice xa n xc, .slice ya n yc, .int .i64 st] 44) = w1 := ⟨_, rfl⟩
 rw [hw1] at hbox hbel
 have b3 : w1.cell? ⟨w.heap.size, 3, none⟩ = some (.slice xa n xc) := hbox.cell (j := 3) rfl
 have b4 : w1.cell? ⟨w.heap.size, 4, none⟩ = some (.slice ya n yc) := hbox.cell (j := 4) rfl
 have HBOX := Lib.hid hbox
 have HB := Lib.hid hbel
 have HX := Lib.hid hx
 have HY := Lib.hid hy
 have HO := Lib.hid ho
 have HH := Lib.hid hh
 have HC := Lib.hid hc
 have HLX : Hid (n = ro.length) := Lib.hid (by have := hx.len; simpa using this)
 have HLY : Hid (n = rh.length) := Lib.hid (by have := hy.len; simpa using this)
 have HLO : Hid (n = out.length) := Lib.hid (by have := ho.len; simpa using this)
 clear hbox hbel hx hy ho hh hc
 go_enter Tryz.func15, Tryz.ntmps15
 go_upto_region 1 with fail
 try rw [hw1]
 clear hw1
 go_wp2_with fail
 clear b3 b4
 go_loopw [7] (fun i wr => ∃ k : Nat, k ≤ n ∧ i = .int .i64 k ∧ Below w.heap.size w wr ∧ Hid (RC wr w.heap.size 44 6 #[.bool fa, .int .i64 sl, .slice pa pl pc, .slice xa n xc, .slice ya n yc, .int .i64 st])) (fun i _ => n - (intOf i).toNat)
 case atStart => exact ⟨0, Nat.zero_le _, rfl, HB.out, HBOX⟩
 case round =>
  obtain ⟨k, hk, rfl, hbr, HBX⟩ := hrel
  have HBR := Lib.hid hbr
  clear hbr HB HBOX
  by_cases hlt : k < n
  ·have e1 : ((k : Int) < n) = True := by simp; omega
   have b3 : wr.cell? ⟨w.heap.size, 3, none⟩ = some (.slice xa n xc) := HBX.out.cell (j := 3) rfl
   have b4 : wr.cell? ⟨w.heap.size, 4, none⟩ = some (.slice ya n yc) := HBX.out.cell (j := 4) rfl
   have hx : ro[k]? = some (ro.getD k 0) := by rw [List.getD_eq_getElem?_getD, List.getElem?_eq_getElem (by rw [← HLX.out]; exact hlt)]; rfl
   have ho : out[k]? = some (out.getD k 0) := by rw [List.getD_eq_getElem?_getD, List.getElem?_eq_getElem (by rw [← HLO.out]; exact hlt)]; rfl
   have hy : rh[k]? = some (rh.getD k false) := by rw [List.getD_eq_getElem?_getD, List.getElem?_eq_getElem (by rw [← HLY.out]; exact hlt)]; rfl
   have hcc := HC.out k
   obtain ⟨x, hxe⟩ : ∃ x, ro.getD k 0 = x := ⟨_, rfl⟩
   obtain ⟨o, hoe⟩ : ∃ o, out.getD k 0 = o := ⟨_, rfl⟩
   obtain ⟨h, hhe⟩ : ∃ h, rh.getD k false = h := ⟨_, rfl⟩
   rw [hxe] at hx hcc
   rw [hoe] at ho hcc
   rw [hhe] at hy hcc
   clear hxe hoe hhe
   obtain ⟨xb, xo, rfl, hl1, c1⟩ := HX.out.at_ k (u64V x) (by rw [List.getElem?_map, hx]; rfl)
   obtain ⟨ob, oo, rfl, hl2, c2⟩ := HO.out.at_ k (u64V o) (by rw [List.getElem?_map, ho]; rfl)
   obtain ⟨yb, yo, rfl, hl3, c3⟩ := HY.out.at_ k (.bool h) (by rw [List.getElem?_map, hy]; rfl)
   obtain ⟨hb, ho', rfl, hl4, c4⟩ := HH.out.at_ k (.bool h) (by rw [List.getElem?_map, hy]; rfl)
   replace c1 := (HBR.out.cell (p := ⟨xb, xo + k, none⟩) hl1).trans c1
   replace c2 := (HBR.out.cell (p := ⟨ob, oo + k, none⟩) hl2).trans c2
   replace c3 := (HBR.out.cell (p := ⟨yb, yo + k, none⟩) hl3).trans c3
   replace c4 := (HBR.out.cell (p := ⟨hb, ho' + k, none⟩) hl4).trans c4
   unfold u64V at c1 c2
   have q0 : (0 : Int) ≤ (k : Int) := by omega
   have q1 : (k : Int) < n := by omega
   clear hx ho hy hl1 hl2 hl3 hl4
   cases h with
   | true =>
    obtain rfl : x = o := hcc rfl
    clear hcc
    go_wp2_with fail
    go_quiet (fail)
    go_wp2_with fail
    go_roundw
    case rel => exact ⟨k + 1, by omega, by go_num, below_drewN HBR.out _, Lib.hid (RC.of HBX.out rfl)⟩
    case measure => simp [intOf]; omega
   | false =>
    clear hcc c1 c2
    go_wp2_with fail
    go_quiet (fail)
    go_wp2_with fail
    go_roundw
    case rel => exact ⟨k + 1, by omega, by go_num, below_drewN HBR.out _, Lib.hid (RC.of HBX.out rfl)⟩
    case measure => simp [intOf]; omega
  ·obtain rfl : n = k := by omega
   have e1 : ((n : Int) < n) = False := by simp
   go_wp2_with fail
   go_ret
   exact ⟨rfl, HBR.out⟩

end Code
end Go.Proofs.YtdpjbnjlognmeaaGreatDoor
