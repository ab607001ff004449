/- busbarref18: the move at a place; does a skip come to one of some places? -/
import Derived.Test.YtmpeipdeablkdaaGreatDoorFrB
import Derived.BigQuiet
namespace Go.Proofs.YtmpeipdeablkdaaGreatDoor
open Go.RowKit

namespace Code

attribute [local go_sem ↓] Go.wp_at_zero Go.wp_at_succ

/-- the eight cells of a row -/
theorem R8.cells {w : World} {b : Nat} {c0 c1 c2 c3 c4 c5 c6 c7 : Value} (h : R8 w b #[c0, c1, c2, c3, c4, c5, c6, c7]) :
    w.cell? ⟨b, 0, none⟩ = some c0 ∧ w.cell? ⟨b, 1, none⟩ = some c1 ∧ w.cell? ⟨b, 2, none⟩ = some c2 ∧ w.cell? ⟨b, 3, none⟩ = some c3 ∧ w.cell? ⟨b, 4, none⟩ = some c4 ∧ w.cell? ⟨b, 5, none⟩ = some c5 ∧ w.cell? ⟨b, 6, none⟩ = some c6 ∧ w.cell? ⟨b, 7, none⟩ = some c7 :=
 ⟨CellsAt.cell h (j := 0) (by omega), CellsAt.cell h (j := 1) (by omega), CellsAt.cell h (j := 2) (by omega), CellsAt.cell h (j := 3) (by omega), CellsAt.cell h (j := 4) (by omega), CellsAt.cell h (j := 5) (by omega), CellsAt.cell h (j := 6) (by omega), CellsAt.cell h (j := 7) (by omega)⟩

set_option maxRecDepth 100000 in
set_option maxHeartbeats 6400000 in
theorem move18_any (a : Option Addr) (len cap : Nat) (ps : List B.Ins) (i : Nat) (w : World) (hp : ProgAt w a len ps) (hr : ∀ x ∈ ps, x.right = true) (hl : len ≤ 16384) (hi : i ≤ 17000) :
    Calls Tryz.prog 132 #[.slice a len cap, .int .i64 (i : Int)] w (MrRet (B.readMv (ps.drop i)) w) := by
 rw [← B.moveR_eq]
 obtain ⟨mv, hmv⟩ : ∃ mv, B.moveR ps i = mv := ⟨_, rfl⟩
 rw [hmv]
 unfold B.moveR at hmv
 obtain ⟨w1, hw1⟩ : ∃ w1, w.alloc (.cells mr0 137) = w1 := ⟨_, rfl⟩
 have HB1 : Hid (Below w.heap.size w w1) := Lib.hid (by rw [← hw1]; exact (Below.refl _ _).alloc (Nat.le_refl _) _)
 have HR1 : Hid (R8 w1 w.heap.size mr0) := Lib.hid (by rw [← hw1]; exact R8.new mr0 rfl w rfl)
 have hz1 : w.heap.size < w1.heap.size := by rw [← hw1]; simp
 have hw1' : w.alloc (.cells #[.bool false, .int .i64 0, .int .i64 0, .int .i64 0, .int .i64 0, .int .i64 0, .int .u64 0, .int .i64 0] 137) = w1 := hw1
 have HI := Lib.hid (in18_any a len cap ps i w1 (hp.below HB1.out (Nat.le_refl _)) hr hl hi)
 have HO : Hid (∀ W, Below w.heap.size w W → Calls Tryz.prog 177 #[.slice a len cap, .int .i64 (i : Int)] W (MrRet (B.outR ps i) W)) := Lib.hid (fun W hb => out18_any a len cap ps i W (hp.below hb (Nat.le_refl _)) hr hl hi)
 clear hw1 hp hr
 obtain ⟨ri, hri⟩ : ∃ ri, B.inR ps i = ri := ⟨_, rfl⟩
 obtain ⟨ro, hro⟩ : ∃ ro, B.outR ps i = ro := ⟨_, rfl⟩
 rw [hri] at HI hmv
 rw [hro] at HO hmv
 clear hri hro
 go_enter Tryz.func132, Tryz.ntmps132
 go_upto_region 1 with fail
 try rw [hw1']
 clear hw1'
 cases ri with
 | some m =>
  obtain rfl : some m = mv := hmv
  go_wp2_with fail
  refine HI.out.mono ?_
  rintro e w2 ⟨rfl, hb2⟩
  obtain ⟨C, hC⟩ : ∃ C, C = mrF m := ⟨_, rfl⟩
  obtain ⟨X, hX⟩ : ∃ X, w2.heap.size = X := ⟨_, rfl⟩
  obtain ⟨w3, hw3⟩ : ∃ w3, w2.alloc (.cells #[.bool m.inn, .int .i64 m.t, .int .i64 m.v, .int .i64 m.way, .int .i64 (m.b : Int), .int .i64 ((m.e : Int) - (m.b : Int)), .int .u64 (m.bits : Int), .int .i64 (m.size : Int)] 137) = w3 := ⟨_, rfl⟩
  have hr3 : R8 w3 X (mrF m) := by rw [← hw3]; exact R8.new (mrF m) rfl w2 hX.symm
  have hb3 : Below w2.heap.size w2 w3 := by rw [← hw3]; exact (Below.refl _ _).alloc (Nat.le_refl _) _
  have hb13 := hb2.trans (hb3.mono hb2.size)
  have HB3 := Lib.hid (HB1.out.trans (hb13.mono HB1.out.size))
  have HR3 := Lib.hid (CellsAt.below HR1.out hb13 hz1)
  have HSn := Lib.hid (below_stored HB3.out HB3.out.size (mrF m).toList)
  have HMn := Lib.hid (R8.store HR3.out (mrF m) rfl)
  have HTn := Lib.hid (CellsAt.there HR3.out (o := 0) (m := 8) (by omega))
  obtain ⟨c0, c1, c2, c3, c4, c5, c6, c7⟩ := R8.cells hr3
  clear hb2 hb3 hb13 hr3 HI HO HB1 HR1 hC
  unfold mrOut mrF
  go_upto_region 3 with fail
  go_wp2_with (refine wpList_store_mid (by rfl) 137 _ _ (by rfl) w.heap.size 0 (mrF m) (by rfl) (by rfl) HTn.out (by rw [infoM137]; rfl) (by simp [mrF, Value.oneCell']) ?_)
  exact bodyPost_ret (v := .tuple #[.agg (mrF m), .bool true]) (ret8 (p := 4) (u := 5) (by kernel_rfl) rfl (by rfl) (by rfl) HMn.out) rfl ⟨rfl, HSn.out⟩
 | none =>
  obtain rfl : ro = mv := hmv
  go_wp2_with fail
  refine HI.out.mono ?_
  rintro e w2 ⟨rfl, hb2⟩
  unfold mrOut mr0
  go_upto_region 4 with fail
  obtain ⟨w3, hw3⟩ : ∃ w3, w2.alloc (.cells #[.bool false, .int .i64 0, .int .i64 0, .int .i64 0, .int .i64 0, .int .i64 0, .int .u64 0, .int .i64 0] 137) = w3 := ⟨_, rfl⟩
  have hb3 : Below w2.heap.size w2 w3 := by rw [← hw3]; exact (Below.refl _ _).alloc (Nat.le_refl _) _
  have hb13 := hb2.trans (hb3.mono hb2.size)
  have HB3 := Lib.hid (HB1.out.trans (hb13.mono HB1.out.size))
  have HR3 := Lib.hid (CellsAt.below HR1.out hb13 hz1)
  have hz3 : w.heap.size < w3.heap.size := by have := hb13.size; omega
  try rw [hw3]
  clear hw3 hb2 hb3 hb13 HI HB1 HR1
  go_wp2_with fail
  refine (HO.out w3 HB3.out).mono ?_
  rintro e w4 ⟨rfl, hb4⟩
  have HB4 := Lib.hid (HB3.out.trans (hb4.mono HB3.out.size))
  have HR4 := Lib.hid (CellsAt.below HR3.out hb4 hz3)
  have HTn := Lib.hid (CellsAt.there HR4.out (o := 0) (m := 8) (by omega))
  clear hb4 HO
  cases ro with
  | some m =>
   have HSn := Lib.hid (below_stored HB4.out HB4.out.size (mrF m).toList)
   have HMn := Lib.hid (R8.store HR4.out (mrF m) rfl)
   unfold mrOut mrF
   go_wp2_with (refine wpList_store_mid (by rfl) 137 _ _ (by rfl) w.heap.size 0 (mrF m) (by rfl) (by rfl) HTn.out (by rw [infoM137]; rfl) (by simp [mrF, Value.oneCell']) ?_)
   exact bodyPost_ret (v := .tuple #[.agg (mrF m), .bool true]) (ret8 (p := 4) (u := 5) (by kernel_rfl) rfl (by rfl) (by rfl) HMn.out) rfl ⟨rfl, HSn.out⟩
  | none =>
   have HSn := Lib.hid (below_stored HB4.out HB4.out.size mr0.toList)
   have HMn := Lib.hid (R8.store HR4.out mr0 rfl)
   unfold mrOut mr0
   go_wp2_with (refine wpList_store_mid (by rfl) 137 _ _ (by rfl) w.heap.size 0 mr0 (by rfl) (by rfl) HTn.out (by rw [infoM137]; rfl) (by simp [mr0, Value.oneCell']) ?_)
   exact bodyPost_ret (v := .tuple #[.agg mr0, .bool false]) (ret8 (p := 4) (u := 5) (by kernel_rfl) rfl (by rfl) (by rfl) HMn.out) rfl ⟨rfl, HSn.out⟩

/-- an instruction comes to one of some places -/
def hitR (x : B.Ins) (k A Z : Nat) : Bool := x.skips && decide (A ≤ k + 1 + x.n.toNat) && decide (k + 1 + x.n.toNat < Z)

theorem hit_next {ps : List B.Ins} {k A Z : Nat} {x : B.Ins} (h : ∀ j y, j < k → ps[j]? = some y → hitR y j A Z = false) (hx : ps[k]? = some x) (hk : hitR x k A Z = false) : ∀ j y, j < k + 1 → ps[j]? = some y → hitR y j A Z = false := by
 intro j y hj hy
 by_cases e : j = k
 ·subst e
  rw [hx] at hy
  cases hy
  exact hk
 ·exact h j y (by omega) hy

set_option maxRecDepth 100000 in
set_option maxHeartbeats 6400000 in
theorem entered18_any (a : Option Addr) (len cap : Nat) (ps : List B.Ins) (A Z : Nat) (w : World) (hp : ProgAt w a len ps) (hr : ∀ x ∈ ps, x.right = true) (hl : len ≤ 16384) :
    Calls Tryz.prog 133 #[.slice a len cap, .int .i64 (A : Int), .int .i64 (Z : Int)] w (BoolOut (B.someIn (B.entd ps) A Z) w) := by
 have HP := Lib.hid hp
 have HR := Lib.hid hr
 have hle := hp.len
 clear hp hr
 go_enter Tryz.func133, Tryz.ntmps133
 go_wp2_with fail
 go_loopw [7] (fun i wr => ∃ k : Nat, i = .int .i64 k ∧ k ≤ len ∧ (∀ j x, j < k → ps[j]? = some x → hitR x j A Z = false) ∧ wr = w) (fun i _ => len - (intOf i).toNat)
 case atStart => exact ⟨0, rfl, by omega, fun j x h => by omega, rfl⟩
 case round =>
  obtain ⟨k, rfl, hk, he, rfl⟩ := hrel
  have HE := Lib.hid he
  clear he
  have k0 : (0 : Int) ≤ (k : Int) := by omega
  by_cases hlt : k < len
  ·have k1 : (k : Int) < (len : Int) := by omega
   obtain ⟨x, hx⟩ : ∃ x, ps[k]? = some x := ⟨_, List.getElem?_eq_getElem (by omega)⟩
   obtain ⟨b, off, rfl, hbl, hat⟩ := HP.out.at_ k x hx
   obtain ⟨c0, c1, c2, c3, c4⟩ := hat
   have hxr := B.right_bounds (HR.out x (List.mem_of_getElem? hx))
   obtain ⟨n, hn⟩ : ∃ n : Nat, x.n = n := ⟨x.n.toNat, by omega⟩
   have hn4 : n ≤ 16384 := by omega
   have HX := Lib.hid hx
   have HN := Lib.hid hn
   rw [hn] at c3
   obtain ⟨o, ho⟩ : ∃ o, x.op = o := ⟨_, rfl⟩
   rw [ho] at c0
   have HOP := Lib.hid ho
   have w1 : IntKind.i64.wrap ((k : Int) + 1) = (k : Int) + 1 := IntWalk.i64_in _ (by omega)
   have w2 : IntKind.i64.wrap ((k : Int) + 1 + (n : Int)) = (k : Int) + 1 + (n : Int) := IntWalk.i64_in _ (by omega)
   have HH : Hid (hitR x k A Z = (decide (o = 18 ∨ o = 19) && decide (A ≤ k + 1 + n) && decide (k + 1 + n < Z))) := Lib.hid (by
    unfold hitR B.Ins.skips
    rw [HN.out, HOP.out]
    simp)
   clear hx hn ho hxr c1 c2 c4 hbl
   by_cases hs : o = 18 ∨ o = 19
   ·by_cases hA : A ≤ k + 1 + n
    ·have qa : (k : Int) + 1 + (n : Int) ≥ (A : Int) := by omega
     by_cases hZ : k + 1 + n < Z
     ·have qz : (k : Int) + 1 + (n : Int) < (Z : Int) := by omega
      have HY : Hid (hitR x k A Z = true) := Lib.hid (by rw [HH.out]; simp [hs, hA, hZ])
      have HS : Hid (x.skips = true) := Lib.hid (by have := HY.out; unfold hitR at this; simp only [Bool.and_eq_true] at this; exact this.1.1)
      have HAZ : Hid (A ≤ k + 1 + x.n.toNat ∧ k + 1 + x.n.toNat < Z) := Lib.hid (by rw [HN.out]; simp; omega)
      clear HH hA hZ
      rcases hs with rfl | rfl
      ·go_wp2_with fail
       go_ret
       exact ⟨ret_bool ((B.inside_iff ps A Z).2 ⟨k, x, HX.out, HS.out, HAZ.out⟩).symm, Below.refl _ _⟩
      ·go_wp2_with fail
       go_ret
       exact ⟨ret_bool ((B.inside_iff ps A Z).2 ⟨k, x, HX.out, HS.out, HAZ.out⟩).symm, Below.refl _ _⟩
     ·have qz : ¬ ((k : Int) + 1 + (n : Int) < (Z : Int)) := by omega
      have HY : Hid (hitR x k A Z = false) := Lib.hid (by rw [HH.out]; simp [hZ])
      clear HH hA hZ
      rcases hs with rfl | rfl
      ·go_wp2_with fail
       go_roundw
       case rel => exact ⟨k + 1, by go_num, by omega, hit_next HE.out HX.out HY.out, by trivial⟩
       case measure => simp [intOf]; omega
      ·go_wp2_with fail
       go_roundw
       case rel => exact ⟨k + 1, by go_num, by omega, hit_next HE.out HX.out HY.out, by trivial⟩
       case measure => simp [intOf]; omega
    ·have qa : ¬ ((k : Int) + 1 + (n : Int) ≥ (A : Int)) := by omega
     have HY : Hid (hitR x k A Z = false) := Lib.hid (by rw [HH.out]; simp [hA])
     clear HH hA
     rcases hs with rfl | rfl
     ·go_wp2_with fail
      go_roundw
      case rel => exact ⟨k + 1, by go_num, by omega, hit_next HE.out HX.out HY.out, by trivial⟩
      case measure => simp [intOf]; omega
     ·go_wp2_with fail
      go_roundw
      case rel => exact ⟨k + 1, by go_num, by omega, hit_next HE.out HX.out HY.out, by trivial⟩
      case measure => simp [intOf]; omega
   ·have q18 : (o == 18) = false := by simp; omega
    have q19 : (o == 19) = false := by simp; omega
    have HY : Hid (hitR x k A Z = false) := Lib.hid (by rw [HH.out]; simp [hs])
    clear HH hs
    go_wp2_with fail
    go_roundw
    case rel => exact ⟨k + 1, by go_num, by omega, hit_next HE.out HX.out HY.out, by trivial⟩
    case measure => simp [intOf]; omega
  ·obtain rfl : k = len := by omega
   go_wp2_with fail
   go_ret
   refine ⟨ret_bool ?_, Below.refl _ _⟩
   symm
   rw [Bool.eq_false_iff]
   intro h
   obtain ⟨j, x, hj, hs, h1, h2⟩ := (B.inside_iff ps A Z).1 h
   have := HE.out j x (by have := (List.getElem?_eq_some_iff.1 hj).1; omega) hj
   unfold hitR at this
   simp [hs, h1, h2] at this

end Code
end Go.Proofs.YtmpeipdeablkdaaGreatDoor
