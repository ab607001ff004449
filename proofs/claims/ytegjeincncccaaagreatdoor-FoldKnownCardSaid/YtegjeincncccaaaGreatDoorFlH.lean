/- busbarlaw17: are two programs alike? -/
import Derived.Test.YtegjeincncccaaaGreatDoorVmQ
import Derived.Deep.QuietTactic
import Derived.BigQuiet
namespace Go.Proofs.YtegjeincncccaaaGreatDoor
open Go.RowKit

namespace Code

attribute [local go_sem ↓] Go.wp_at_zero Go.wp_at_succ

theorem cell_drN (w : World) (a : Addr) : ∀ n, (w.drewN n).cell? a = w.cell? a
 | 0 => rfl
 | n + 1 => cell_drN w a n

/-- an element of a list, by its place -/
theorem list_cell {α : Type} {enc : α → Value} {w : World} {a : Option Addr} {n : Nat} {xs : List α} (h : ListAt w a n (xs.map enc)) {i : Nat} {x : α} (hx : xs[i]? = some x) : ∃ g o, a = some ⟨g, o, none⟩ ∧ w.cell? ⟨g, o + i, none⟩ = some (enc x) := by
 obtain ⟨g, o, e, _, hc⟩ := h.at_ i (enc x) (by rw [List.getElem?_map, hx]; rfl)
 exact ⟨g, o, e, hc⟩

set_option maxRecDepth 100000 in
set_option maxHeartbeats 6400000 in
theorem alike17_any {r r' : B.Out} (hs : Same r r') (a1 : Option Addr) (len1 cap1 : Nat) (ps1 : List B.Ins) (a2 : Option Addr) (len2 cap2 : Nat) (ps2 : List B.Ins) (pa ia : Option Addr) (pn pc im ic : Nat) (pay inp : List Nat) (w : World)
    (hp1 : ProgAt w a1 len1 ps1) (hwf1 : ∀ y ∈ ps1, y.Wf) (hp2 : ProgAt w a2 len2 ps2) (hwf2 : ∀ y ∈ ps2, y.Wf) (ht : Tabs w) (hm1 : B.MayRun ps1 pn im) (hm2 : B.MayRun ps2 pn im)
    (hpay : ListAt w pa pn (pay.map u8V)) (hinp : ListAt w ia im (inp.map u64V)) (hby : B.Bytes pay) (hwi : B.Words inp) (hr1 : B.run ps1 inp 0 (B.start pay im) = r) (hr2 : B.run ps2 inp 0 (B.start pay im) = r') :
    Calls Tryz.prog 14 #[.slice a1 len1 cap1, .slice a2 len2 cap2, .slice pa pn pc, .slice ia im ic] w (BoolOut true w) := by
 have hl1 : len1 ≤ 9223372036854775807 := by have := hp1.len; have := hm1.len; omega
 have hl2 : len2 ≤ 9223372036854775807 := by have := hp2.len; have := hm2.len; omega
 have R1 := Lib.hid (run_same (Same.refl r) rfl a1 pa ia len1 cap1 pn pc im ic ps1 pay inp w hp1 hwf1 ht hl1 hm1 hpay hinp hby hwi hr1)
 have R2 : Hid (∀ W, Below w.heap.size w W → Calls Tryz.prog 22 #[.slice a2 len2 cap2, .slice pa pn pc, .slice ia im ic] W (AnyOut r r'.steps W)) := Lib.hid (fun W hb => run_same hs rfl a2 pa ia len2 cap2 pn pc im ic ps2 pay inp W (hp2.below hb (Nat.le_refl _)) hwf2 (ht.below hb (Nat.le_refl _)) hl2 hm2 (hpay.below hb (Nat.le_refl _)) (hinp.below hb (Nat.le_refl _)) hby hwi hr2)
 clear hs hp1 hwf1 hp2 hwf2 ht hm1 hm2 hpay hinp hby hwi hr1 hr2
 obtain ⟨n1, hn1⟩ : ∃ n, r.steps = n := ⟨_, rfl⟩
 obtain ⟨n2, hn2⟩ : ∃ n, r'.steps = n := ⟨_, rfl⟩
 rw [hn1] at R1
 rw [hn2] at R2
 clear hn1 hn2
 unfold AnyOut at R1 R2
 obtain ⟨pl, hpl⟩ : ∃ l, payL r = l := ⟨_, rfl⟩
 obtain ⟨ol, hol⟩ : ∃ l, outL r = l := ⟨_, rfl⟩
 obtain ⟨hl, hhl⟩ : ∃ l, hasL r = l := ⟨_, rfl⟩
 obtain ⟨fb, hfb⟩ : ∃ l, fl r = l := ⟨_, rfl⟩
 obtain ⟨sb, hsb⟩ : ∃ l, slotOf r = l := ⟨_, rfl⟩
 rw [hpl, hol, hhl, hfb, hsb] at R1 R2
 clear hpl hol hhl hfb hsb
 go_enter Tryz.func14, Tryz.ntmps14
 go_wp2_with fail
 refine R1.out.mono ?_
 rintro e w1 ⟨xa, xc, ya, yc, za, zc, rfl, o1, o2, o3, ⟨s1, s2, s3⟩, hb1⟩
 have O1 := Lib.hid o1
 have O2 := Lib.hid o2
 have O3 := Lib.hid o3
 have HB1 := Lib.hid hb1
 have hz1 := hb1.size
 clear o1 o2 o3 hb1 R1
 go_wp2_with fail
 have hA1 := heap_alloc_new w1 (.cells #[.bool fb, .int .i64 sb, .slice xa pl.length xc, .slice ya ol.length yc, .slice za hl.length zc, .int .i64 (n1 : Int)] 48)
 have hb2 := (Below.refl w1.heap.size w1).alloc (Nat.le_refl _) (.cells #[.bool fb, .int .i64 sb, .slice xa pl.length xc, .slice ya ol.length yc, .slice za hl.length zc, .int .i64 (n1 : Int)] 48)
 refine (R2.out _ (HB1.out.trans (hb2.mono hz1))).mono ?_
 rintro e w3 ⟨xa', xc', ya', yc', za', zc', rfl, o1, o2, o3, _, hb3⟩
 have P1 := Lib.hid o1
 have P2 := Lib.hid o2
 have P3 := Lib.hid o3
 have hz2 : (w1.alloc (.cells #[.bool fb, .int .i64 sb, .slice xa pl.length xc, .slice ya ol.length yc, .slice za hl.length zc, .int .i64 (n1 : Int)] 48)).heap.size = w1.heap.size + 1 := by simp
 have HA3 := Lib.hid ((hb3.block w1.heap.size (by omega)).trans hA1)
 have HB13 := Lib.hid (hb2.trans (hb3.mono (by omega)))
 have hz3 : w1.heap.size + 1 ≤ w3.heap.size := by have := hb3.size; omega
 have HZ3 := Lib.hid hz3
 have HZ1 := Lib.hid hz1
 clear hA1 hb2 o1 o2 o3 hb3 R2 hz3 hz1 hz2
 go_upto_region 3 with fail
 obtain ⟨w4, hw4⟩ : ∃ w4, w3.alloc (.cells #[.bool fb, .int .i64 sb, .slice xa' pl.length xc', .slice ya' ol.length yc', .slice za' hl.length zc', .int .i64 (n2 : Int)] 48) = w4 := ⟨_, rfl⟩
 have hA4 : w4.heap[w3.heap.size]? = some (.cells #[.bool fb, .int .i64 sb, .slice xa' pl.length xc', .slice ya' ol.length yc', .slice za' hl.length zc', .int .i64 (n2 : Int)] 48 (0, 0)) := by rw [← hw4]; exact heap_alloc_new w3 _
 have hB34 : Below w3.heap.size w3 w4 := by rw [← hw4]; exact (Below.refl _ _).alloc (Nat.le_refl _) _
 try rw [hw4]
 clear hw4
 have HB14 := Lib.hid (HB13.out.trans (hB34.mono (by have := HZ3.out; omega)))
 have A1 := Lib.hid ((ListAt.ofOwn O1.out).below HB14.out (Nat.le_refl _))
 have A2 := Lib.hid ((ListAt.ofOwn O2.out).below HB14.out (Nat.le_refl _))
 have A3 := Lib.hid ((ListAt.ofOwn O3.out).below HB14.out (Nat.le_refl _))
 have B1 := Lib.hid ((ListAt.ofOwn P1.out).below hB34 (Nat.le_refl _))
 have B2 := Lib.hid ((ListAt.ofOwn P2.out).below hB34 (Nat.le_refl _))
 have B3 := Lib.hid ((ListAt.ofOwn P3.out).below hB34 (Nat.le_refl _))
 have hA3 := (hB34.block w1.heap.size (by have := HZ3.out; omega)).trans HA3.out
 obtain ⟨X, hX⟩ : ∃ X, w1.heap.size = X := ⟨_, rfl⟩
 obtain ⟨Y, hY⟩ : ∃ Y, w3.heap.size = Y := ⟨_, rfl⟩
 rw [hX] at hA3 ⊢
 rw [hY] at hA4 ⊢
 have hXY : X < w4.heap.size ∧ Y < w4.heap.size := ⟨lt_of_block hA3, lt_of_block hA4⟩
 have HXY := Lib.hid hXY
 have HBW : Hid (Below w.heap.size w w4) := Lib.hid (HB1.out.trans (HB14.out.mono HZ1.out))
 have HW4 : Hid (w.heap.size ≤ w4.heap.size) := Lib.hid HBW.out.size
 clear hXY hX hY hB34 HB13 HB14 HA3 O1 O2 O3 P1 P2 P3 HZ3 HZ1 HB1
 have RA := Lib.hid hA3
 have RB := Lib.hid hA4
 have p0 : w4.cell? ⟨X, 0, none⟩ = some (.bool fb) := by rw [cell_of_row _ _ _ _ _ _ hA3]; rfl
 have p1 : w4.cell? ⟨X, 1, none⟩ = some (.int .i64 sb) := by rw [cell_of_row _ _ _ _ _ _ hA3]; rfl
 have p2 : w4.cell? ⟨X, 2, none⟩ = some (.slice xa pl.length xc) := by rw [cell_of_row _ _ _ _ _ _ hA3]; rfl
 have q0 : w4.cell? ⟨Y, 0, none⟩ = some (.bool fb) := by rw [cell_of_row _ _ _ _ _ _ hA4]; rfl
 have q1 : w4.cell? ⟨Y, 1, none⟩ = some (.int .i64 sb) := by rw [cell_of_row _ _ _ _ _ _ hA4]; rfl
 have q2 : w4.cell? ⟨Y, 2, none⟩ = some (.slice xa' pl.length xc') := by rw [cell_of_row _ _ _ _ _ _ hA4]; rfl
 clear hA3 hA4
 have b1 : (fb == fb) = true := by simp
 go_wp2_with fail
 refine (sameBytes_any xa xa' pl.length xc pl.length xc' pl pl w4 A1.out B1.out (by omega)).mono ?_
 rintro e w5 ⟨rfl, hb5⟩
 rw [show decide (pl = pl) = true by simp]
 have HB45 := Lib.hid hb5
 have hA5 := (hb5.block X HXY.out.1).trans RA.out
 have hC5 := (hb5.block Y HXY.out.2).trans RB.out
 have p4 : w5.cell? ⟨X, 4, none⟩ = some (.slice za hl.length zc) := by rw [cell_of_row _ _ _ _ _ _ hA5]; rfl
 have q4 : w5.cell? ⟨Y, 4, none⟩ = some (.slice za' hl.length zc') := by rw [cell_of_row _ _ _ _ _ _ hC5]; rfl
 clear hb5 hA5 hC5 p0 p1 p2 q0 q1 q2
 go_wp2_with fail
 refine (sameBools_any za za' hl.length zc hl.length zc' hl hl w5 (A3.out.below HB45.out (Nat.le_refl _)) (B3.out.below HB45.out (Nat.le_refl _)) (by omega)).mono ?_
 rintro e w6 ⟨rfl, hb6⟩
 rw [show decide (hl = hl) = true by simp]
 have HB46 := Lib.hid (HB45.out.trans (hb6.mono HB45.out.size))
 have hA6 := (HB46.out.block X HXY.out.1).trans RA.out
 have hC6 := (HB46.out.block Y HXY.out.2).trans RB.out
 have p3 : w6.cell? ⟨X, 3, none⟩ = some (.slice ya ol.length yc) := by rw [cell_of_row _ _ _ _ _ _ hA6]; rfl
 have p4' : w6.cell? ⟨X, 4, none⟩ = some (.slice za hl.length zc) := by rw [cell_of_row _ _ _ _ _ _ hA6]; rfl
 have q3 : w6.cell? ⟨Y, 3, none⟩ = some (.slice ya' ol.length yc') := by rw [cell_of_row _ _ _ _ _ _ hC6]; rfl
 have HB6 : Hid (Below w.heap.size w w6) := Lib.hid (HBW.out.trans (HB46.out.mono HW4.out))
 have D2 := Lib.hid (A2.out.below HB46.out (Nat.le_refl _))
 have D3 := Lib.hid (A3.out.below HB46.out (Nat.le_refl _))
 have E2 := Lib.hid (B2.out.below HB46.out (Nat.le_refl _))
 clear hb6 hA6 hC6 p4 q4 A1 A2 A3 B1 B2 B3 RA RB HB45 HB46 HBW
 go_wp2_with fail
 go_loopw [13] (fun i wr => ∃ k n : Nat, i = .int .i64 (k : Int) ∧ wr = w6.drewN n ∧ k ≤ hl.length) (fun i _ => hl.length - (intOf i).toNat)
 case atStart => exact ⟨0, 0, rfl, rfl, Nat.zero_le _⟩
 case round =>
  obtain ⟨k, n, rfl, rfl, hk⟩ := hrel
  have u3 : (w6.drewN n).cell? ⟨X, 3, none⟩ = some (.slice ya ol.length yc) := (cell_drN _ _ _).trans p3
  have u4 : (w6.drewN n).cell? ⟨X, 4, none⟩ = some (.slice za hl.length zc) := (cell_drN _ _ _).trans p4'
  have v3 : (w6.drewN n).cell? ⟨Y, 3, none⟩ = some (.slice ya' ol.length yc') := (cell_drN _ _ _).trans q3
  have HBN : Hid (∀ n, Below w.heap.size w (w6.drewN n)) := Lib.hid (fun n => belowN HB6.out n)
  by_cases h1 : k < hl.length
  ·have e1 : ((k : Int) < (hl.length : Int)) = True := by simp; omega
   by_cases h2 : k < ol.length
   ·have e2 : ((k : Int) < (ol.length : Int)) = True := by simp; omega
    have k0 : (0 : Int) ≤ (k : Int) := by omega
    have k1 : (k : Int) < (hl.length : Int) := by omega
    have k2 : (k : Int) < (ol.length : Int) := by omega
    have k3 : IntKind.i64.wrap ((k : Int) + 1) = (k : Int) + 1 := IntWalk.i64_in _ (by omega)
    obtain ⟨hb, hh⟩ : ∃ x, hl[k]? = some x := ⟨_, List.getElem?_eq_getElem h1⟩
    obtain ⟨ov, ho⟩ : ∃ x, ol[k]? = some x := ⟨_, List.getElem?_eq_getElem h2⟩
    obtain ⟨g1, f1, rfl, c1⟩ := list_cell D3.out hh
    obtain ⟨g2, f2, rfl, c2⟩ := list_cell D2.out ho
    obtain ⟨g3, f3, rfl, c3⟩ := list_cell E2.out ho
    replace c1 := (cell_drN w6 _ n).trans c1
    replace c2 := (cell_drN w6 _ n).trans c2
    replace c3 := (cell_drN w6 _ n).trans c3
    unfold u64V at c2 c3
    have b2 : ((ov : Int) != (ov : Int)) = false := by simp
    clear hh ho h2 D2 D3 E2
    cases hb with
    | true =>
     obtain ⟨wq, hwq⟩ : ∃ wq, w6.drewN n = wq := ⟨_, rfl⟩
     rw [hwq] at u3 u4 v3 c1 c2 c3 ⊢
     have HWQ := Lib.hid hwq
     clear hwq
     go_upto_region 8 with fail
     go_quiet (fail)
     go_wp2_with fail
     go_roundw
     case rel => exact ⟨k + 1, n + nq, by go_num, by rw [← HWQ.out]; exact World.drewN_drewN .., h1⟩
     case measure => simp [intOf]; omega
    | false =>
     obtain ⟨wq, hwq⟩ : ∃ wq, w6.drewN n = wq := ⟨_, rfl⟩
     rw [hwq] at u3 u4 v3 c1 c2 c3 ⊢
     have HWQ := Lib.hid hwq
     clear hwq
     go_upto_region 8 with fail
     go_quiet (fail)
     go_wp2_with fail
     go_roundw
     case rel => exact ⟨k + 1, n + nq, by go_num, by rw [← HWQ.out]; exact World.drewN_drewN .., h1⟩
     case measure => simp [intOf]; omega
   ·have e2 : ((k : Int) < (ol.length : Int)) = False := by simp; omega
    go_wp2_with fail
    go_ret
    exact ⟨rfl, HBN.out n⟩
  ·have e1 : ((k : Int) < (hl.length : Int)) = False := by simp; omega
   go_wp2_with fail
   go_ret
   exact ⟨rfl, HBN.out n⟩

end Code
end Go.Proofs.YtegjeincncccaaaGreatDoor
